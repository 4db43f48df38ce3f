/- Of this claim's own making; what nothing names is struck (fewall.py). -/
import Derived.Test.YtojedbogbodkiaaDoorKCox7
import Derived.Test.YtojedbogbodkiaaDoorCoA
import Derived.Test.YtojedbogbodkiaaDoorKS
set_option linter.unusedVariables false
set_option linter.unusedSimpArgs false
namespace Go.Proofs.YtojedbogbodkiaaDoor.KCo
open Go.RowKit Go.Proofs.YtojedbogbodkiaaDoorW.PrintWords Go.Proofs.YtojedbogbodkiaaDoorW.PrintLast Go.Proofs.YtojedbogbodkiaaDoorW.PrintMore
section
set_option linter.unusedSectionVars false
variable [fk_laws_szTerm] [fk_laws_eqTerm] [fk_spec_l34Term] [fk_strconv_Itoa]
def MadeT (x : S29) (W : World) (e : Ending) (W' : World) : Prop:=∃ A c,e = .returned (.agg #[.int .i64 x.f0,.string x.f1,.int .i64 x.f2,.slice A x.f3.length c]) ∧ (As.row kD29 29 (.slice A x.f3.length c) x.f3).M W.heap.size W' (fun k => W.heap.size ≤ k) ∧ Below W.heap.size W W'
def RnT (t : S29) : Prop:=∀ (A : Option Addr) (c : Nat) (W : World),Kd.C k29 W A t.f3.length t.f3 → t.f3.length ≤ c → Calls Tryd.prog 104 #[.agg #[.int .i64 t.f0,.string t.f1,.int .i64 t.f2,.slice A t.f3.length c],.func (.func 105) #[] #[]] W fun e W' => MadeT t W e W'
def CpT (t : S29) : Prop:=∀ (A : Option Addr) (c : Nat) (W : World),Kd.C k29 W A t.f3.length t.f3 → t.f3.length ≤ c → Calls Tryd.prog 81 #[.agg #[.int .i64 t.f0,.string t.f1,.int .i64 t.f2,.slice A t.f3.length c]] W fun e W' => MadeT t W e W'
theorem id_calls (a : Int) (w : World) : Calls Tryd.prog 105 #[.int .i64 a] w fun e w' => e = .returned (.int .i64 a) ∧ Below w.heap.size w w':=by
 go_enter Tryd.func105,Tryd.ntmps105
 go_wp2
 go_ret
 exact ⟨rfl,Below.refl _ _⟩
def rn8_T : Bool × List (List Nat × List Nat):=(true,[([],[]),([0],[0]),([],[]),([],[]),([2,3],[2,3]),([4],[4]),([1,5,4],[1,5]),([0,1,2,3,4,5,6],[]),([7,6,6,0,1,2,3,4,5,6],[6,7])])
def rn8_B : List Nat:=[0,1,0,0,12,28,63,127,255]
theorem rn8_tab : rtab .any (opsOf Tryd.f104 8) = rn8_T:=by kernel_rfl
theorem rn8_bits : waitsOk rn8_T.2 rn8_B = true:=by kernel_rfl
set_option maxHeartbeats 16000000 in
set_option maxRecDepth 100000 in
theorem rn_other (t : S29) (hk : (t.f0 == 1) = false) (hlen : t.f3.length ≤ 1048576) (ih : ∀ x ∈ t.f3,RnT x) : RnT t:=by
 intro A c w hC hc
 have HC:=Aside0.mk hC
 have HCC:=Aside0.mk hc
 have HL:=Aside0.mk hlen
 have IH:=Aside0.mk ih
 have HR:=Aside0.mk (run_law w)
 clear hC hc hlen ih
 go_enter Tryd.func104,Tryd.ntmps104
 go_wp2_with (first
  | ((with_reducible refine gate_dst (N := 2) rfl ?_); refine box_event ?hg2 (N := 2) ?hd2 (cs := #[.int .i64 t.f0, .string t.f1, .int .i64 t.f2, .slice A t.f3.length c]) (t := 29) ?hr2 ?_; (case hd2 => rfl); (case hg2 => rfl); (case hr2 => first | (go_simp; done) | (go_simp; rfl)); intro ga hg w1 hbox hb; have q_ := Aside0.mk (HR.out.box hg hb hbox); clear HR; have HR := q_; clear q_; clear hg hbox hb)
  | ((with_reducible refine gate_dst (N := 4) rfl ?_); refine box_event ?hg4 (N := 4) ?hd4 (cs := #[.int .i64 0, .string (⟨#[]⟩ : ByteArray), .int .i64 0, .slice none 0 0]) (t := 29) ?hr4 ?_; (case hd4 => rfl); (case hg4 => rfl); (case hr4 => first | (go_simp; done) | (go_simp; rfl)); intro gr hg w2 hbox hb; have q_ := Aside0.mk (HR.out.box hg hb hbox); clear HR; have HR := q_; clear q_; clear hg hbox hb; have hc2_ga_0 : w2.cell? ⟨ga, 0, none⟩ = some (.int .i64 t.f0) := HR.out.cell 1 rfl 0 rfl; have hc2_ga_1 : w2.cell? ⟨ga, 1, none⟩ = some (.string t.f1) := HR.out.cell 1 rfl 1 rfl; have hc2_ga_2 : w2.cell? ⟨ga, 2, none⟩ = some (.int .i64 t.f2) := HR.out.cell 1 rfl 2 rfl; have hc2_ga_3 : w2.cell? ⟨ga, 3, none⟩ = some (.slice A t.f3.length c) := HR.out.cell 1 rfl 3 rfl)
  | ((with_reducible refine gate_dst (N := 5) rfl ?_); refine box_event ?hg5 (N := 5) ?hd5 (cs := #[.int .i64 0, .string (⟨#[]⟩ : ByteArray), .int .i64 0, .slice none 0 0]) (t := 29) ?hr5 ?_; (case hd5 => rfl); (case hg5 => rfl); (case hr5 => first | (go_simp; done) | (go_simp; rfl)); intro go hg w3 hbox hb; have q_ := Aside0.mk (HR.out.box hg hb hbox); clear HR; have HR := q_; clear q_; clear hg hbox hb; clear hc2_ga_0 hc2_ga_1 hc2_ga_2 hc2_ga_3; have hc3_ga_0 : w3.cell? ⟨ga, 0, none⟩ = some (.int .i64 t.f0) := HR.out.cell 2 rfl 0 rfl; have hc3_ga_1 : w3.cell? ⟨ga, 1, none⟩ = some (.string t.f1) := HR.out.cell 2 rfl 1 rfl; have hc3_ga_2 : w3.cell? ⟨ga, 2, none⟩ = some (.int .i64 t.f2) := HR.out.cell 2 rfl 2 rfl; have hc3_ga_3 : w3.cell? ⟨ga, 3, none⟩ = some (.slice A t.f3.length c) := HR.out.cell 2 rfl 3 rfl; have hc3_go_0 : w3.cell? ⟨go, 0, none⟩ = some (.int .i64 0) := HR.out.cell 0 rfl 0 rfl; have hc3_go_1 : w3.cell? ⟨go, 1, none⟩ = some (.string (⟨#[]⟩ : ByteArray)) := HR.out.cell 0 rfl 1 rfl; have hc3_go_2 : w3.cell? ⟨go, 2, none⟩ = some (.int .i64 0) := HR.out.cell 0 rfl 2 rfl; have hc3_go_3 : w3.cell? ⟨go, 3, none⟩ = some (.slice none 0 0) := HR.out.cell 0 rfl 3 rfl; have fc3_go_0 := HR.out.free 0 rfl 0; have fc3_go_1 := HR.out.free 0 rfl 1; have fc3_go_2 := HR.out.free 0 rfl 2; have fc3_go_3 := HR.out.free 0 rfl 3)
  | ((with_reducible refine gate_store (t := 29) (p := 5) rfl ?_); refine store_event (t := 29) (p := 5) (v := ?vo4) (w1 := w3.setCells go 0 [.int .i64 t.f0, .string t.f1, .int .i64 t.f2, .slice A t.f3.length c]) ?hgs4 ?hos4 ?hns4 ?hrs4 ?_; (case hos4 => rfl); (case hgs4 => rfl); (case hns4 => rfl); (case hrs4 => first | (go_simp; done) | (go_simp; rfl)); intro w4 hw; have q_ := Aside0.mk (hw ▸ HR.out.store 0 rfl [.int .i64 t.f0, .string t.f1, .int .i64 t.f2, .slice A t.f3.length c] rfl); clear HR; have HR := q_; clear q_; clear hw; clear hc3_ga_0 hc3_ga_1 hc3_ga_2 hc3_ga_3 hc3_go_0 hc3_go_1 hc3_go_2 hc3_go_3 fc3_go_0 fc3_go_1 fc3_go_2 fc3_go_3; have hc4_ga_0 : w4.cell? ⟨ga, 0, none⟩ = some (.int .i64 t.f0) := HR.out.cell 2 rfl 0 rfl; have hc4_ga_1 : w4.cell? ⟨ga, 1, none⟩ = some (.string t.f1) := HR.out.cell 2 rfl 1 rfl; have hc4_ga_2 : w4.cell? ⟨ga, 2, none⟩ = some (.int .i64 t.f2) := HR.out.cell 2 rfl 2 rfl; have hc4_ga_3 : w4.cell? ⟨ga, 3, none⟩ = some (.slice A t.f3.length c) := HR.out.cell 2 rfl 3 rfl; have hc4_go_0 : w4.cell? ⟨go, 0, none⟩ = some (.int .i64 t.f0) := HR.out.cell 0 rfl 0 rfl; have hc4_go_1 : w4.cell? ⟨go, 1, none⟩ = some (.string t.f1) := HR.out.cell 0 rfl 1 rfl; have hc4_go_2 : w4.cell? ⟨go, 2, none⟩ = some (.int .i64 t.f2) := HR.out.cell 0 rfl 2 rfl; have hc4_go_3 : w4.cell? ⟨go, 3, none⟩ = some (.slice A t.f3.length c) := HR.out.cell 0 rfl 3 rfl; have fc4_go_0 := HR.out.free 0 rfl 0; have fc4_go_1 := HR.out.free 0 rfl 1; have fc4_go_2 := HR.out.free 0 rfl 2; have fc4_go_3 := HR.out.free 0 rfl 3)
  | ((with_reducible refine gate_store (t := 27) (p := 9) rfl ?_); refine store_event (t := 27) (p := 9) (v := ?vo5) (w1 := w4.setCell ⟨go, 3, none⟩ (.slice none 0 0)) ?hgs5 ?hos5 ?hns5 ?hrs5 ?_; (case hos5 => rfl); (case hgs5 => rfl); (case hns5 => rfl); (case hrs5 => first | (go_simp; done) | (go_simp; rfl)); intro w5 hw; have q_ := Aside0.mk (hw ▸ HR.out.set 0 rfl 3 (.slice none 0 0)); clear HR; have HR := q_; clear q_; clear hw; clear hc4_ga_0 hc4_ga_1 hc4_ga_2 hc4_ga_3 hc4_go_0 hc4_go_1 hc4_go_2 hc4_go_3 fc4_go_0 fc4_go_1 fc4_go_2 fc4_go_3; have hc5_ga_0 : w5.cell? ⟨ga, 0, none⟩ = some (.int .i64 t.f0) := HR.out.cell 2 rfl 0 rfl; have hc5_ga_1 : w5.cell? ⟨ga, 1, none⟩ = some (.string t.f1) := HR.out.cell 2 rfl 1 rfl; have hc5_ga_2 : w5.cell? ⟨ga, 2, none⟩ = some (.int .i64 t.f2) := HR.out.cell 2 rfl 2 rfl; have hc5_ga_3 : w5.cell? ⟨ga, 3, none⟩ = some (.slice A t.f3.length c) := HR.out.cell 2 rfl 3 rfl; have hc5_go_0 : w5.cell? ⟨go, 0, none⟩ = some (.int .i64 t.f0) := HR.out.cell 0 rfl 0 rfl; have hc5_go_1 : w5.cell? ⟨go, 1, none⟩ = some (.string t.f1) := HR.out.cell 0 rfl 1 rfl; have hc5_go_2 : w5.cell? ⟨go, 2, none⟩ = some (.int .i64 t.f2) := HR.out.cell 0 rfl 2 rfl; have hc5_go_3 : w5.cell? ⟨go, 3, none⟩ = some (.slice none 0 0) := HR.out.cell 0 rfl 3 rfl; have fc5_go_0 := HR.out.free 0 rfl 0; have fc5_go_1 := HR.out.free 0 rfl 1; have fc5_go_2 := HR.out.free 0 rfl 2; have fc5_go_3 := HR.out.free 0 rfl 3))
 go_loopg [21] t.f3.length (fun m v21 w' => ∃ (i : Nat) (A_o : Option Addr) (c_o : Nat) (ys : List S29),v21 = .int .i64 i ∧ Aside0 (m + i = t.f3.length) ∧ Aside0 (ys = t.f3.take i) ∧ Aside0 (Run w w (fun _ => False) [As.row kD29 29 (.slice A_o ys.length c_o) ys,As.box go 29 #[.int .i64 t.f0,.string t.f1,.int .i64 t.f2,.slice A_o ys.length c_o],As.box gr 29 #[.int .i64 0,.string (⟨#[]⟩ : ByteArray),.int .i64 0,.slice none 0 0],As.box ga 29 #[.int .i64 t.f0,.string t.f1,.int .i64 t.f2,.slice A t.f3.length c]] w'))
 case atStart => exact ⟨0,none,0,[],rfl,⟨by omega⟩,⟨rfl⟩,⟨HR.out.push (As.row kD29 29 (.slice none 0 0) []) (Below.refl _ _) (Kd.S_nil _ _ _ _ _)⟩⟩
 case round =>
  clear HR hc5_ga_0 hc5_ga_1 hc5_ga_2 hc5_ga_3 hc5_go_0 hc5_go_1 hc5_go_2 hc5_go_3 fc5_go_0 fc5_go_1 fc5_go_2 fc5_go_3
  obtain ⟨i,A_o,c_o,ys,rfl,hi,HYS,HR⟩:=hrel
  by_cases hlt : (i : Int) < (t.f3.length : Int)
  ·have c3b0 : decide ((i : Int) < (t.f3.length : Int)) = true:=decide_eq_true hlt
   have hlt' : i < t.f3.length:=by omega
   have c3b1 : decide (i < t.f3.length) = true:=decide_eq_true hlt'
   obtain ⟨ad,A3,c3,e1,hx0,hx1,hx2,hx3,hl3,hi3⟩:=at_T29 HC.out (i : Int) (by omega) hlt
   cases e1
   obtain ⟨x,hx⟩ : ∃ x,x = t.f3[i]:=⟨_,rfl⟩
   rw [rd29_at _ i hlt',← hx] at hx0 hx1 hx2 hx3 hl3 hi3
   simp only [Int.toNat_natCast] at hx0 hx1 hx2 hx3
   have HX:=Aside0.mk (show x ∈ t.f3 by rw [hx];exact List.getElem_mem hlt')
   have HT:=Aside0.mk (show t.f3.take (i + 1) = ys ++ [x] by rw [hx,HYS.out];exact List.take_succ_eq_append_getElem hlt')
   have HI3:=Aside0.mk hi3
   have HL3:=Aside0.mk hl3
   clear hi3 hl3 hx
   replace hx0:=(HR.out.bel.cell (World.block_lt_of_cell? w _ hx0)).trans hx0
   replace hx1:=(HR.out.bel.cell (World.block_lt_of_cell? w _ hx1)).trans hx1
   replace hx2:=(HR.out.bel.cell (World.block_lt_of_cell? w _ hx2)).trans hx2
   replace hx3:=(HR.out.bel.cell (World.block_lt_of_cell? w _ hx3)).trans hx3
   go_wp2_with (first
    | ((with_reducible refine gate_dst (N := 7) rfl ?_); refine box_event ?hg7 (N := 7) ?hd7 (cs := #[.int .i64 0, .string (⟨#[]⟩ : ByteArray), .int .i64 0, .slice none 0 0]) (t := 29) ?hr7 ?_; (case hd7 => rfl); (case hg7 => rfl); (case hr7 => first | (go_simp; done) | (go_simp; rfl)); intro gk hg w16 hbox hb; have q_ := Aside0.mk (HR.out.box hg hb hbox); clear HR; have HR := q_; clear q_; clear hg hbox hb; have hc6_gk_0 : w16.cell? ⟨gk, 0, none⟩ = some (.int .i64 0) := HR.out.cell 0 rfl 0 rfl; have hc6_gk_1 : w16.cell? ⟨gk, 1, none⟩ = some (.string (⟨#[]⟩ : ByteArray)) := HR.out.cell 0 rfl 1 rfl; have hc6_gk_2 : w16.cell? ⟨gk, 2, none⟩ = some (.int .i64 0) := HR.out.cell 0 rfl 2 rfl; have hc6_gk_3 : w16.cell? ⟨gk, 3, none⟩ = some (.slice none 0 0) := HR.out.cell 0 rfl 3 rfl; have fc6_gk_0 := HR.out.free 0 rfl 0; have fc6_gk_1 := HR.out.free 0 rfl 1; have fc6_gk_2 := HR.out.free 0 rfl 2; have fc6_gk_3 := HR.out.free 0 rfl 3)
    | ((with_reducible refine gate_store (t := 29) (p := 7) rfl ?_); refine store_event (t := 29) (p := 7) (v := ?vo17) (w1 := w16.setCells gk 0 [.int .i64 x.f0, .string x.f1, .int .i64 x.f2, .slice A3 x.f3.length c3]) ?hgs17 ?hos17 ?hns17 ?hrs17 ?_; (case hos17 => rfl); (case hgs17 => rfl); (case hns17 => rfl); (case hrs17 => first | (go_simp; done) | (go_simp; rfl)); intro w17 hw; have q_ := Aside0.mk (hw ▸ HR.out.store 0 rfl [.int .i64 x.f0, .string x.f1, .int .i64 x.f2, .slice A3 x.f3.length c3] rfl); clear HR; have HR := q_; clear q_; clear hw; clear hc6_gk_0 hc6_gk_1 hc6_gk_2 hc6_gk_3 fc6_gk_0 fc6_gk_1 fc6_gk_2 fc6_gk_3; have hc7_gk_0 : w17.cell? ⟨gk, 0, none⟩ = some (.int .i64 x.f0) := HR.out.cell 0 rfl 0 rfl; have hc7_gk_1 : w17.cell? ⟨gk, 1, none⟩ = some (.string x.f1) := HR.out.cell 0 rfl 1 rfl; have hc7_gk_2 : w17.cell? ⟨gk, 2, none⟩ = some (.int .i64 x.f2) := HR.out.cell 0 rfl 2 rfl; have hc7_gk_3 : w17.cell? ⟨gk, 3, none⟩ = some (.slice A3 x.f3.length c3) := HR.out.cell 0 rfl 3 rfl; have hc7_go_0 : w17.cell? ⟨go, 0, none⟩ = some (.int .i64 t.f0) := HR.out.cell 2 rfl 0 rfl; have hc7_go_1 : w17.cell? ⟨go, 1, none⟩ = some (.string t.f1) := HR.out.cell 2 rfl 1 rfl; have hc7_go_2 : w17.cell? ⟨go, 2, none⟩ = some (.int .i64 t.f2) := HR.out.cell 2 rfl 2 rfl; have hc7_go_3 : w17.cell? ⟨go, 3, none⟩ = some (.slice A_o ys.length c_o) := HR.out.cell 2 rfl 3 rfl))
   have q_:=Aside0.mk (HR.out.drew)
   clear HR
   have HR:=q_
   clear q_
   clear hc7_gk_0 hc7_gk_1 hc7_gk_2 hc7_gk_3 hc7_go_0 hc7_go_1 hc7_go_2 hc7_go_3
   refine start_ (n:=9) (S:=fun w' => w'.cell? ⟨go,0,none⟩ = some (.int .i64 t.f0) ∧ w'.cell? ⟨go,1,none⟩ = some (.string t.f1) ∧ w'.cell? ⟨go,2,none⟩ = some (.int .i64 t.f2) ∧ w'.cell? ⟨go,3,none⟩ = some (.slice A_o ys.length c_o) ∧ w'.cell? ⟨gk,0,none⟩ = some (.int .i64 x.f0) ∧ w'.cell? ⟨gk,1,none⟩ = some (.string x.f1) ∧ w'.cell? ⟨gk,2,none⟩ = some (.int .i64 x.f2) ∧ w'.cell? ⟨gk,3,none⟩ = some (.slice A3 x.f3.length c3)) (ds:=[8]) #[false,false,false,false,false,false,false,false,false] (by kernel_rfl) rfl rfl ⟨HR.out.cell 2 rfl 0 rfl,HR.out.cell 2 rfl 1 rfl,HR.out.cell 2 rfl 2 rfl,HR.out.cell 2 rfl 3 rfl,HR.out.cell 0 rfl 0 rfl,HR.out.cell 0 rfl 1 rfl,HR.out.cell 0 rfl 2 rfl,HR.out.cell 0 rfl 3 rfl⟩ (fun hHeld => ?_);refine with_tabW rn8_tab rn8_bits (fun HT_ HW_ => ?_)
   generalize w17.drew = w18 at HR hHeld ⊢
   refine pure_ (i:=0) (N:=some 25) (v:=?_) (a':=?_) #[true,false,false,false,false,false,false,false,false] rfl rfl (any_of HT_.out (by kernel_rfl)) (fun _ _ _ h => h) (Or.inl ⟨by rfl,?_⟩) ?_ ?_
   rotate_left
   ·intro w'
    go_simp
    with_reducible rfl
   rotate_left
   ·simp only [Act.put,List.setIfInBounds_toArray,List.set_cons_zero,List.set_cons_succ,i64_w,i32_w]
    rfl
   refine pure_ (i:=3) (N:=some 28) (v:=?_) (a':=?_) #[true,false,false,true,false,false,false,false,false] rfl rfl (any_of HT_.out (by kernel_rfl)) (fun _ _ _ h => h) (Or.inl ⟨by rfl,?_⟩) ?_ ?_
   rotate_left
   ·intro w'
    go_simp
    with_reducible rfl
   rotate_left
   ·simp only [Act.put,List.setIfInBounds_toArray,List.set_cons_zero,List.set_cons_succ,i64_w,i32_w]
    rfl
   refine take_ (i:=1) (N:=some 26) (v:=?_) (a':=?_) #[true,true,false,true,false,false,false,false,false] rfl rfl (take_ofW HT_.out HW_.out (by kernel_rfl)) (fun _ _ _ h => h) (Or.inl ⟨by rfl,?_⟩) hHeld ?_ ?_
   rotate_left
   ·rintro w' ⟨s0,s1,s2,s3,s4,s5,s6,s7⟩
    go_simp
    with_reducible rfl
   rotate_left
   ·simp only [Act.put,List.setIfInBounds_toArray,List.set_cons_zero,List.set_cons_succ,i64_w,i32_w]
    rfl
   refine take_ (i:=2) (N:=some 27) (v:=?_) (a':=?_) #[true,true,true,true,false,false,false,false,false] rfl rfl (take_ofW HT_.out HW_.out (by kernel_rfl)) (fun _ _ _ h => h) (Or.inl ⟨by rfl,?_⟩) hHeld ?_ ?_
   rotate_left
   ·rintro w' ⟨s0,s1,s2,s3,s4,s5,s6,s7⟩
    go_simp
    with_reducible rfl
   rotate_left
   ·simp only [Act.put,List.setIfInBounds_toArray,List.set_cons_zero,List.set_cons_succ,i64_w,i32_w]
    rfl
   refine one_ (i:=4) (N:=some 29) #[true,true,true,true,true,false,false,false,false] rfl rfl (one_of HT_.out (by kernel_rfl)) (by decide) (fun K hK => ?_)
   refine goes_ Tryd.func104 (by kernel_rfl) rfl #[.agg #[.int .i64 x.f0,.string x.f1,.int .i64 x.f2,.slice A3 x.f3.length c3],.func (.func 105) #[] #[]] (by rfl) rfl rfl (by (try simp only [List.map_toArray,List.map_cons,List.map_nil]);first|done|rfl) ?_
   refine (IH.out x HX.out A3 c3 w18 (Kd.C_below HI3.out HR.out.bel) HL3.out).mono ?_
   rintro e w19 ⟨A4,c4,rfl,ho,hb⟩
   refine ⟨_,rfl,?_⟩
   have q_:=Aside0.mk (HR.out.push _ hb ho)
   clear HR
   have HR:=q_
   clear q_
   clear ho hb
   refine hK.out _ _ ⟨HR.out.cell 3 rfl 0 rfl,HR.out.cell 3 rfl 1 rfl,HR.out.cell 3 rfl 2 rfl,HR.out.cell 3 rfl 3 rfl,HR.out.cell 1 rfl 0 rfl,HR.out.cell 1 rfl 1 rfl,HR.out.cell 1 rfl 2 rfl,HR.out.cell 1 rfl 3 rfl⟩ (fun hHeld => ?_)
   clear hK K
   refine norm_ (a':=?_) ?_ ?_
   rotate_left
   ·show Act.put _ (some 29) _ = _
    simp only [Act.put,List.setIfInBounds_toArray,List.set_cons_zero,List.set_cons_succ,i64_w,i32_w]
    rfl
   refine one_ (i:=5) (N:=some 30) #[true,true,true,true,true,true,false,false,false] rfl rfl (one_of HT_.out (by kernel_rfl)) (by decide) (fun K hK => ?_)
   refine value_ (w1:=?_) (v:=?_) (by rfl) rfl ?_ ?_
   rotate_left 2
   ·go_simp
    constructor
    ·rfl
    ·rfl
   refine hK.out _ _ ⟨(blk_cell (blk_alloc (HR.out.has 3 rfl).2 _) 0).trans rfl,(blk_cell (blk_alloc (HR.out.has 3 rfl).2 _) 1).trans rfl,(blk_cell (blk_alloc (HR.out.has 3 rfl).2 _) 2).trans rfl,(blk_cell (blk_alloc (HR.out.has 3 rfl).2 _) 3).trans rfl,(blk_cell (blk_alloc (HR.out.has 1 rfl).2 _) 0).trans rfl,(blk_cell (blk_alloc (HR.out.has 1 rfl).2 _) 1).trans rfl,(blk_cell (blk_alloc (HR.out.has 1 rfl).2 _) 2).trans rfl,(blk_cell (blk_alloc (HR.out.has 1 rfl).2 _) 3).trans rfl⟩ (fun hHeld => ?_)
   clear hK K
   refine norm_ (a':=?_) ?_ ?_
   rotate_left
   ·show Act.put _ (some 30) _ = _
    simp only [Act.put,List.setIfInBounds_toArray,List.set_cons_zero,List.set_cons_succ,i64_w,i32_w]
    rfl
   refine one_ (i:=6) (N:=some 31) #[true,true,true,true,true,true,true,false,false] rfl rfl (one_of HT_.out (by kernel_rfl)) (by decide) (fun K hK => ?_)
   refine HR.out.appStep 2 0 kD29 rfl rfl (by decide) x [.int .i64 x.f0,.string x.f1,.int .i64 x.f2,.slice A4 x.f3.length c4] (fun okj hj_ => kD29_mkM _ _ _ x hj_) (by rfl) (.tmp 26) (.tmp 30) 27 (.agg #[(.int .i64 0),(.string ⟨#[]⟩),(.int .i64 0),(.slice none 0 0)]) 56 rfl Tryd.underlying27 info29 rfl (by decide) (by omega) rfl rfl (by have h1_:=HL.out;have h2_ : ys.length ≤ t.f3.length:=(by rw [HYS.out,List.length_take];omega);omega) ?_
   intro v_ w20 hq_
   obtain ⟨l_n,hz_⟩ : ∃ z_,z_ = (ys ++ [x]):=⟨_,rfl⟩
   rw [← hz_] at hq_
   have HZ_n:=Aside0.mk hz_
   clear hz_
   obtain ⟨A_n,c_n,rfl⟩:=Kd.S_slice (hq_.has 2 rfl)
   clear HR
   have HR:=Aside0.mk hq_
   clear hq_
   refine hK.out _ _ ⟨HR.out.cell 3 rfl 0 rfl,HR.out.cell 3 rfl 1 rfl,HR.out.cell 3 rfl 2 rfl,HR.out.cell 3 rfl 3 rfl,HR.out.cell 1 rfl 0 rfl,HR.out.cell 1 rfl 1 rfl,HR.out.cell 1 rfl 2 rfl,HR.out.cell 1 rfl 3 rfl⟩ (fun hHeld => ?_)
   clear hK K
   refine norm_ (a':=?_) ?_ ?_
   rotate_left
   ·show Act.put _ (some 31) _ = _
    simp only [Act.put,List.setIfInBounds_toArray,List.set_cons_zero,List.set_cons_succ,i64_w,i32_w]
    rfl
   refine pure_ (i:=7) (N:=some 32) (v:=?_) (a':=?_) #[true,true,true,true,true,true,true,true,false] rfl rfl (any_of HT_.out (by kernel_rfl)) (fun _ _ _ h => h) (Or.inl ⟨by rfl,?_⟩) ?_ ?_
   rotate_left
   ·intro w'
    go_simp
    with_reducible rfl
   rotate_left
   ·simp only [Act.put,List.setIfInBounds_toArray,List.set_cons_zero,List.set_cons_succ,i64_w,i32_w]
    rfl
   refine last_ (i:=8) (N:=none) #[true,true,true,true,true,true,true,true,true] rfl rfl (one_of HT_.out (by kernel_rfl)) (by decide) (fun K hK => ?_)
   have hz0_ : w20.cell? ⟨go,0,none⟩ = some (.int .i64 t.f0):=HR.out.cell 3 rfl 0 rfl
   have fz0_:=HR.out.free 3 rfl 0
   have hz1_ : w20.cell? ⟨go,1,none⟩ = some (.string t.f1):=HR.out.cell 3 rfl 1 rfl
   have fz1_:=HR.out.free 3 rfl 1
   have hz2_ : w20.cell? ⟨go,2,none⟩ = some (.int .i64 t.f2):=HR.out.cell 3 rfl 2 rfl
   have fz2_:=HR.out.free 3 rfl 2
   have hz3_ : w20.cell? ⟨go,3,none⟩ = some (.slice A_o ys.length c_o):=HR.out.cell 3 rfl 3 rfl
   have fz3_:=HR.out.free 3 rfl 3
   refine skip_ (w1:=w20.setCell ⟨go,3,none⟩ (.slice A_n l_n.length c_n)) (by rfl) rfl ?_ ?_
   ·first|(go_simp;done)|(go_simp;rfl)
   refine hK.out _ _ ?_
   clear hK K hz0_ fz0_ hz1_ fz1_ hz2_ fz2_ hz3_ fz3_
   have q_:=Aside0.mk (HR.out.set 3 rfl 3 (.slice A_n l_n.length c_n))
   clear HR
   have HR:=q_
   clear q_
   generalize w20.setCell ⟨go,3,none⟩ (.slice A_n l_n.length c_n) = w21 at HR ⊢
   refine done_ (done_of HT_.out (by kernel_rfl)) ?_
   try go_wp2
   go_roundg (t.f3.length - (i + 1))
   case measure => have:=hi.out;omega
   case rel => exact ⟨i + 1,A_n,c_n,l_n,by rw [next_i i _ hlt' HL.out],⟨by have:=hi.out;omega⟩,⟨HZ_n.out.trans HT.out.symm⟩,⟨HR.out.pick [2,3,4,5] (by decide)⟩⟩
  ·have c3b0 : decide ((i : Int) < (t.f3.length : Int)) = false:=decide_eq_false hlt
   have c3b1 : decide (i < t.f3.length) = false:=decide_eq_false (by omega)
   have he : ys = t.f3:=HYS.out.trans (List.take_of_length_le (by omega))
   rw [he] at HR
   clear he
   have hc8_go_0 : wr.cell? ⟨go,0,none⟩ = some (.int .i64 t.f0):=HR.out.cell 1 rfl 0 rfl
   have hc8_go_1 : wr.cell? ⟨go,1,none⟩ = some (.string t.f1):=HR.out.cell 1 rfl 1 rfl
   have hc8_go_2 : wr.cell? ⟨go,2,none⟩ = some (.int .i64 t.f2):=HR.out.cell 1 rfl 2 rfl
   have hc8_go_3 : wr.cell? ⟨go,3,none⟩ = some (.slice A_o t.f3.length c_o):=HR.out.cell 1 rfl 3 rfl
   have hc8_gr_0 : wr.cell? ⟨gr,0,none⟩ = some (.int .i64 0):=HR.out.cell 2 rfl 0 rfl
   have hc8_gr_1 : wr.cell? ⟨gr,1,none⟩ = some (.string (⟨#[]⟩ : ByteArray)):=HR.out.cell 2 rfl 1 rfl
   have hc8_gr_2 : wr.cell? ⟨gr,2,none⟩ = some (.int .i64 0):=HR.out.cell 2 rfl 2 rfl
   have hc8_gr_3 : wr.cell? ⟨gr,3,none⟩ = some (.slice none 0 0):=HR.out.cell 2 rfl 3 rfl
   have fc8_gr_0:=HR.out.free 2 rfl 0
   have fc8_gr_1:=HR.out.free 2 rfl 1
   have fc8_gr_2:=HR.out.free 2 rfl 2
   have fc8_gr_3:=HR.out.free 2 rfl 3
   go_wp2_with (first
    | ((with_reducible refine gate_store (t := 29) (p := 4) rfl ?_); refine store_event (t := 29) (p := 4) (v := ?vo32) (w1 := wr.setCells gr 0 [.int .i64 t.f0, .string t.f1, .int .i64 t.f2, .slice A_o t.f3.length c_o]) ?hgs32 ?hos32 ?hns32 ?hrs32 ?_; (case hos32 => rfl); (case hgs32 => rfl); (case hns32 => rfl); (case hrs32 => first | (go_simp; done) | (go_simp; rfl)); intro w32 hw; have q_ := Aside0.mk (hw ▸ HR.out.store 2 rfl [.int .i64 t.f0, .string t.f1, .int .i64 t.f2, .slice A_o t.f3.length c_o] rfl); clear HR; have HR := q_; clear q_; clear hw; clear hc8_go_0 hc8_go_1 hc8_go_2 hc8_go_3 hc8_gr_0 hc8_gr_1 hc8_gr_2 hc8_gr_3 fc8_gr_0 fc8_gr_1 fc8_gr_2 fc8_gr_3))
   refine bodyPost_ret (results_cell_row rfl _ _ gr 29 #[.int .i64 t.f0,.string t.f1,.int .i64 t.f2,.slice A_o t.f3.length c_o] (0,0) _ rfl (HR.out.has 2 rfl).2 Tryd.underlying29 rfl (by kernel_rfl)) rfl ?_
   exact ⟨_,_,rfl,As.mono _ (fun k hk => hk.elim False.elim id) (HR.out.one 0 rfl),HR.out.bel⟩
set_option maxHeartbeats 16000000 in
set_option maxRecDepth 100000 in
theorem rn_var (t : S29) (hk : (t.f0 == 1) = true) (hlen : t.f3.length ≤ 1048576) (ih : ∀ x ∈ t.f3,RnT x) : RnT t:=by
 intro A c w hC hc
 have HC:=Aside0.mk hC
 have HCC:=Aside0.mk hc
 have HL:=Aside0.mk hlen
 have IH:=Aside0.mk ih
 have HR:=Aside0.mk (run_law w)
 clear hC hc hlen ih
 go_enter Tryd.func104,Tryd.ntmps104
 go_wp2_with (first
  | ((with_reducible refine gate_dst (N := 2) rfl ?_); refine box_event ?hg2 (N := 2) ?hd2 (cs := #[.int .i64 t.f0, .string t.f1, .int .i64 t.f2, .slice A t.f3.length c]) (t := 29) ?hr2 ?_; (case hd2 => rfl); (case hg2 => rfl); (case hr2 => first | (go_simp; done) | (go_simp; rfl)); intro ga hg w1 hbox hb; have q_ := Aside0.mk (HR.out.box hg hb hbox); clear HR; have HR := q_; clear q_; clear hg hbox hb)
  | ((with_reducible refine gate_dst (N := 4) rfl ?_); refine box_event ?hg4 (N := 4) ?hd4 (cs := #[.int .i64 0, .string (⟨#[]⟩ : ByteArray), .int .i64 0, .slice none 0 0]) (t := 29) ?hr4 ?_; (case hd4 => rfl); (case hg4 => rfl); (case hr4 => first | (go_simp; done) | (go_simp; rfl)); intro gr hg w2 hbox hb; have q_ := Aside0.mk (HR.out.box hg hb hbox); clear HR; have HR := q_; clear q_; clear hg hbox hb; have hc2_ga_0 : w2.cell? ⟨ga, 0, none⟩ = some (.int .i64 t.f0) := HR.out.cell 1 rfl 0 rfl; have hc2_ga_1 : w2.cell? ⟨ga, 1, none⟩ = some (.string t.f1) := HR.out.cell 1 rfl 1 rfl; have hc2_ga_2 : w2.cell? ⟨ga, 2, none⟩ = some (.int .i64 t.f2) := HR.out.cell 1 rfl 2 rfl; have hc2_ga_3 : w2.cell? ⟨ga, 3, none⟩ = some (.slice A t.f3.length c) := HR.out.cell 1 rfl 3 rfl)
  | ((with_reducible refine gate_dst (N := 5) rfl ?_); refine box_event ?hg5 (N := 5) ?hd5 (cs := #[.int .i64 0, .string (⟨#[]⟩ : ByteArray), .int .i64 0, .slice none 0 0]) (t := 29) ?hr5 ?_; (case hd5 => rfl); (case hg5 => rfl); (case hr5 => first | (go_simp; done) | (go_simp; rfl)); intro go hg w3 hbox hb; have q_ := Aside0.mk (HR.out.box hg hb hbox); clear HR; have HR := q_; clear q_; clear hg hbox hb; clear hc2_ga_0 hc2_ga_1 hc2_ga_2 hc2_ga_3; have hc3_ga_0 : w3.cell? ⟨ga, 0, none⟩ = some (.int .i64 t.f0) := HR.out.cell 2 rfl 0 rfl; have hc3_ga_1 : w3.cell? ⟨ga, 1, none⟩ = some (.string t.f1) := HR.out.cell 2 rfl 1 rfl; have hc3_ga_2 : w3.cell? ⟨ga, 2, none⟩ = some (.int .i64 t.f2) := HR.out.cell 2 rfl 2 rfl; have hc3_ga_3 : w3.cell? ⟨ga, 3, none⟩ = some (.slice A t.f3.length c) := HR.out.cell 2 rfl 3 rfl; have hc3_go_0 : w3.cell? ⟨go, 0, none⟩ = some (.int .i64 0) := HR.out.cell 0 rfl 0 rfl; have hc3_go_1 : w3.cell? ⟨go, 1, none⟩ = some (.string (⟨#[]⟩ : ByteArray)) := HR.out.cell 0 rfl 1 rfl; have hc3_go_2 : w3.cell? ⟨go, 2, none⟩ = some (.int .i64 0) := HR.out.cell 0 rfl 2 rfl; have hc3_go_3 : w3.cell? ⟨go, 3, none⟩ = some (.slice none 0 0) := HR.out.cell 0 rfl 3 rfl; have fc3_go_0 := HR.out.free 0 rfl 0; have fc3_go_1 := HR.out.free 0 rfl 1; have fc3_go_2 := HR.out.free 0 rfl 2; have fc3_go_3 := HR.out.free 0 rfl 3)
  | ((with_reducible refine gate_store (t := 29) (p := 5) rfl ?_); refine store_event (t := 29) (p := 5) (v := ?vo4) (w1 := w3.setCells go 0 [.int .i64 t.f0, .string t.f1, .int .i64 t.f2, .slice A t.f3.length c]) ?hgs4 ?hos4 ?hns4 ?hrs4 ?_; (case hos4 => rfl); (case hgs4 => rfl); (case hns4 => rfl); (case hrs4 => first | (go_simp; done) | (go_simp; rfl)); intro w4 hw; have q_ := Aside0.mk (hw ▸ HR.out.store 0 rfl [.int .i64 t.f0, .string t.f1, .int .i64 t.f2, .slice A t.f3.length c] rfl); clear HR; have HR := q_; clear q_; clear hw; clear hc3_ga_0 hc3_ga_1 hc3_ga_2 hc3_ga_3 hc3_go_0 hc3_go_1 hc3_go_2 hc3_go_3 fc3_go_0 fc3_go_1 fc3_go_2 fc3_go_3; have hc4_ga_0 : w4.cell? ⟨ga, 0, none⟩ = some (.int .i64 t.f0) := HR.out.cell 2 rfl 0 rfl; have hc4_ga_1 : w4.cell? ⟨ga, 1, none⟩ = some (.string t.f1) := HR.out.cell 2 rfl 1 rfl; have hc4_ga_2 : w4.cell? ⟨ga, 2, none⟩ = some (.int .i64 t.f2) := HR.out.cell 2 rfl 2 rfl; have hc4_ga_3 : w4.cell? ⟨ga, 3, none⟩ = some (.slice A t.f3.length c) := HR.out.cell 2 rfl 3 rfl; have hc4_go_0 : w4.cell? ⟨go, 0, none⟩ = some (.int .i64 t.f0) := HR.out.cell 0 rfl 0 rfl; have hc4_go_1 : w4.cell? ⟨go, 1, none⟩ = some (.string t.f1) := HR.out.cell 0 rfl 1 rfl; have hc4_go_2 : w4.cell? ⟨go, 2, none⟩ = some (.int .i64 t.f2) := HR.out.cell 0 rfl 2 rfl; have hc4_go_3 : w4.cell? ⟨go, 3, none⟩ = some (.slice A t.f3.length c) := HR.out.cell 0 rfl 3 rfl; have fc4_go_0 := HR.out.free 0 rfl 0; have fc4_go_1 := HR.out.free 0 rfl 1; have fc4_go_2 := HR.out.free 0 rfl 2; have fc4_go_3 := HR.out.free 0 rfl 3)
  | ((with_reducible refine gate_store (t := 27) (p := 9) rfl ?_); refine store_event (t := 27) (p := 9) (v := ?vo5) (w1 := w4.setCell ⟨go, 3, none⟩ (.slice none 0 0)) ?hgs5 ?hos5 ?hns5 ?hrs5 ?_; (case hos5 => rfl); (case hgs5 => rfl); (case hns5 => rfl); (case hrs5 => first | (go_simp; done) | (go_simp; rfl)); intro w5 hw; have q_ := Aside0.mk (hw ▸ HR.out.set 0 rfl 3 (.slice none 0 0)); clear HR; have HR := q_; clear q_; clear hw; clear hc4_ga_0 hc4_ga_1 hc4_ga_2 hc4_ga_3 hc4_go_0 hc4_go_1 hc4_go_2 hc4_go_3 fc4_go_0 fc4_go_1 fc4_go_2 fc4_go_3; have hc5_ga_0 : w5.cell? ⟨ga, 0, none⟩ = some (.int .i64 t.f0) := HR.out.cell 2 rfl 0 rfl; have hc5_ga_1 : w5.cell? ⟨ga, 1, none⟩ = some (.string t.f1) := HR.out.cell 2 rfl 1 rfl; have hc5_ga_2 : w5.cell? ⟨ga, 2, none⟩ = some (.int .i64 t.f2) := HR.out.cell 2 rfl 2 rfl; have hc5_ga_3 : w5.cell? ⟨ga, 3, none⟩ = some (.slice A t.f3.length c) := HR.out.cell 2 rfl 3 rfl; have hc5_go_0 : w5.cell? ⟨go, 0, none⟩ = some (.int .i64 t.f0) := HR.out.cell 0 rfl 0 rfl; have hc5_go_1 : w5.cell? ⟨go, 1, none⟩ = some (.string t.f1) := HR.out.cell 0 rfl 1 rfl; have hc5_go_2 : w5.cell? ⟨go, 2, none⟩ = some (.int .i64 t.f2) := HR.out.cell 0 rfl 2 rfl; have hc5_go_3 : w5.cell? ⟨go, 3, none⟩ = some (.slice none 0 0) := HR.out.cell 0 rfl 3 rfl; have fc5_go_0 := HR.out.free 0 rfl 0; have fc5_go_1 := HR.out.free 0 rfl 1; have fc5_go_2 := HR.out.free 0 rfl 2; have fc5_go_3 := HR.out.free 0 rfl 3)
  | (go_at_call 105; refine (id_calls t.f2 w5).mono ?_; rintro e w6 ⟨rfl, hb⟩; have q_ := Aside0.mk (HR.out.step hb); clear HR; have HR := q_; clear q_; clear hb; clear hc5_ga_0 hc5_ga_1 hc5_ga_2 hc5_ga_3 hc5_go_0 hc5_go_1 hc5_go_2 hc5_go_3 fc5_go_0 fc5_go_1 fc5_go_2 fc5_go_3; have hc6_ga_0 : w6.cell? ⟨ga, 0, none⟩ = some (.int .i64 t.f0) := HR.out.cell 2 rfl 0 rfl; have hc6_ga_1 : w6.cell? ⟨ga, 1, none⟩ = some (.string t.f1) := HR.out.cell 2 rfl 1 rfl; have hc6_ga_2 : w6.cell? ⟨ga, 2, none⟩ = some (.int .i64 t.f2) := HR.out.cell 2 rfl 2 rfl; have hc6_ga_3 : w6.cell? ⟨ga, 3, none⟩ = some (.slice A t.f3.length c) := HR.out.cell 2 rfl 3 rfl; have hc6_go_0 : w6.cell? ⟨go, 0, none⟩ = some (.int .i64 t.f0) := HR.out.cell 0 rfl 0 rfl; have hc6_go_1 : w6.cell? ⟨go, 1, none⟩ = some (.string t.f1) := HR.out.cell 0 rfl 1 rfl; have hc6_go_2 : w6.cell? ⟨go, 2, none⟩ = some (.int .i64 t.f2) := HR.out.cell 0 rfl 2 rfl; have hc6_go_3 : w6.cell? ⟨go, 3, none⟩ = some (.slice none 0 0) := HR.out.cell 0 rfl 3 rfl; have fc6_go_0 := HR.out.free 0 rfl 0; have fc6_go_1 := HR.out.free 0 rfl 1; have fc6_go_2 := HR.out.free 0 rfl 2; have fc6_go_3 := HR.out.free 0 rfl 3)
  | ((with_reducible refine gate_store (t := 3) (p := 17) rfl ?_); refine store_event (t := 3) (p := 17) (v := ?vo7) (w1 := w6.setCell ⟨go, 2, none⟩ (.int .i64 t.f2)) ?hgs7 ?hos7 ?hns7 ?hrs7 ?_; (case hos7 => rfl); (case hgs7 => rfl); (case hns7 => rfl); (case hrs7 => first | (go_simp; done) | (go_simp; rfl)); intro w7 hw; have q_ := Aside0.mk (hw ▸ HR.out.set 0 rfl 2 (.int .i64 t.f2)); clear HR; have HR := q_; clear q_; clear hw; clear hc6_ga_0 hc6_ga_1 hc6_ga_2 hc6_ga_3 hc6_go_0 hc6_go_1 hc6_go_2 hc6_go_3 fc6_go_0 fc6_go_1 fc6_go_2 fc6_go_3; have hc7_ga_0 : w7.cell? ⟨ga, 0, none⟩ = some (.int .i64 t.f0) := HR.out.cell 2 rfl 0 rfl; have hc7_ga_1 : w7.cell? ⟨ga, 1, none⟩ = some (.string t.f1) := HR.out.cell 2 rfl 1 rfl; have hc7_ga_2 : w7.cell? ⟨ga, 2, none⟩ = some (.int .i64 t.f2) := HR.out.cell 2 rfl 2 rfl; have hc7_ga_3 : w7.cell? ⟨ga, 3, none⟩ = some (.slice A t.f3.length c) := HR.out.cell 2 rfl 3 rfl; have hc7_go_0 : w7.cell? ⟨go, 0, none⟩ = some (.int .i64 t.f0) := HR.out.cell 0 rfl 0 rfl; have hc7_go_1 : w7.cell? ⟨go, 1, none⟩ = some (.string t.f1) := HR.out.cell 0 rfl 1 rfl; have hc7_go_2 : w7.cell? ⟨go, 2, none⟩ = some (.int .i64 t.f2) := HR.out.cell 0 rfl 2 rfl; have hc7_go_3 : w7.cell? ⟨go, 3, none⟩ = some (.slice none 0 0) := HR.out.cell 0 rfl 3 rfl; have fc7_go_0 := HR.out.free 0 rfl 0; have fc7_go_1 := HR.out.free 0 rfl 1; have fc7_go_2 := HR.out.free 0 rfl 2; have fc7_go_3 := HR.out.free 0 rfl 3))
 go_loopg [21] t.f3.length (fun m v21 w' => ∃ (i : Nat) (A_o : Option Addr) (c_o : Nat) (ys : List S29),v21 = .int .i64 i ∧ Aside0 (m + i = t.f3.length) ∧ Aside0 (ys = t.f3.take i) ∧ Aside0 (Run w w (fun _ => False) [As.row kD29 29 (.slice A_o ys.length c_o) ys,As.box go 29 #[.int .i64 t.f0,.string t.f1,.int .i64 t.f2,.slice A_o ys.length c_o],As.box gr 29 #[.int .i64 0,.string (⟨#[]⟩ : ByteArray),.int .i64 0,.slice none 0 0],As.box ga 29 #[.int .i64 t.f0,.string t.f1,.int .i64 t.f2,.slice A t.f3.length c]] w'))
 case atStart => exact ⟨0,none,0,[],rfl,⟨by omega⟩,⟨rfl⟩,⟨HR.out.push (As.row kD29 29 (.slice none 0 0) []) (Below.refl _ _) (Kd.S_nil _ _ _ _ _)⟩⟩
 case round =>
  clear HR hc7_ga_0 hc7_ga_1 hc7_ga_2 hc7_ga_3 hc7_go_0 hc7_go_1 hc7_go_2 hc7_go_3 fc7_go_0 fc7_go_1 fc7_go_2 fc7_go_3
  obtain ⟨i,A_o,c_o,ys,rfl,hi,HYS,HR⟩:=hrel
  by_cases hlt : (i : Int) < (t.f3.length : Int)
  ·have c3b0 : decide ((i : Int) < (t.f3.length : Int)) = true:=decide_eq_true hlt
   have hlt' : i < t.f3.length:=by omega
   have c3b1 : decide (i < t.f3.length) = true:=decide_eq_true hlt'
   obtain ⟨ad,A3,c3,e1,hx0,hx1,hx2,hx3,hl3,hi3⟩:=at_T29 HC.out (i : Int) (by omega) hlt
   cases e1
   obtain ⟨x,hx⟩ : ∃ x,x = t.f3[i]:=⟨_,rfl⟩
   rw [rd29_at _ i hlt',← hx] at hx0 hx1 hx2 hx3 hl3 hi3
   simp only [Int.toNat_natCast] at hx0 hx1 hx2 hx3
   have HX:=Aside0.mk (show x ∈ t.f3 by rw [hx];exact List.getElem_mem hlt')
   have HT:=Aside0.mk (show t.f3.take (i + 1) = ys ++ [x] by rw [hx,HYS.out];exact List.take_succ_eq_append_getElem hlt')
   have HI3:=Aside0.mk hi3
   have HL3:=Aside0.mk hl3
   clear hi3 hl3 hx
   replace hx0:=(HR.out.bel.cell (World.block_lt_of_cell? w _ hx0)).trans hx0
   replace hx1:=(HR.out.bel.cell (World.block_lt_of_cell? w _ hx1)).trans hx1
   replace hx2:=(HR.out.bel.cell (World.block_lt_of_cell? w _ hx2)).trans hx2
   replace hx3:=(HR.out.bel.cell (World.block_lt_of_cell? w _ hx3)).trans hx3
   go_wp2_with (first
    | ((with_reducible refine gate_dst (N := 7) rfl ?_); refine box_event ?hg7 (N := 7) ?hd7 (cs := #[.int .i64 0, .string (⟨#[]⟩ : ByteArray), .int .i64 0, .slice none 0 0]) (t := 29) ?hr7 ?_; (case hd7 => rfl); (case hg7 => rfl); (case hr7 => first | (go_simp; done) | (go_simp; rfl)); intro gk hg w18 hbox hb; have q_ := Aside0.mk (HR.out.box hg hb hbox); clear HR; have HR := q_; clear q_; clear hg hbox hb; have hc8_gk_0 : w18.cell? ⟨gk, 0, none⟩ = some (.int .i64 0) := HR.out.cell 0 rfl 0 rfl; have hc8_gk_1 : w18.cell? ⟨gk, 1, none⟩ = some (.string (⟨#[]⟩ : ByteArray)) := HR.out.cell 0 rfl 1 rfl; have hc8_gk_2 : w18.cell? ⟨gk, 2, none⟩ = some (.int .i64 0) := HR.out.cell 0 rfl 2 rfl; have hc8_gk_3 : w18.cell? ⟨gk, 3, none⟩ = some (.slice none 0 0) := HR.out.cell 0 rfl 3 rfl; have fc8_gk_0 := HR.out.free 0 rfl 0; have fc8_gk_1 := HR.out.free 0 rfl 1; have fc8_gk_2 := HR.out.free 0 rfl 2; have fc8_gk_3 := HR.out.free 0 rfl 3)
    | ((with_reducible refine gate_store (t := 29) (p := 7) rfl ?_); refine store_event (t := 29) (p := 7) (v := ?vo19) (w1 := w18.setCells gk 0 [.int .i64 x.f0, .string x.f1, .int .i64 x.f2, .slice A3 x.f3.length c3]) ?hgs19 ?hos19 ?hns19 ?hrs19 ?_; (case hos19 => rfl); (case hgs19 => rfl); (case hns19 => rfl); (case hrs19 => first | (go_simp; done) | (go_simp; rfl)); intro w19 hw; have q_ := Aside0.mk (hw ▸ HR.out.store 0 rfl [.int .i64 x.f0, .string x.f1, .int .i64 x.f2, .slice A3 x.f3.length c3] rfl); clear HR; have HR := q_; clear q_; clear hw; clear hc8_gk_0 hc8_gk_1 hc8_gk_2 hc8_gk_3 fc8_gk_0 fc8_gk_1 fc8_gk_2 fc8_gk_3; have hc9_gk_0 : w19.cell? ⟨gk, 0, none⟩ = some (.int .i64 x.f0) := HR.out.cell 0 rfl 0 rfl; have hc9_gk_1 : w19.cell? ⟨gk, 1, none⟩ = some (.string x.f1) := HR.out.cell 0 rfl 1 rfl; have hc9_gk_2 : w19.cell? ⟨gk, 2, none⟩ = some (.int .i64 x.f2) := HR.out.cell 0 rfl 2 rfl; have hc9_gk_3 : w19.cell? ⟨gk, 3, none⟩ = some (.slice A3 x.f3.length c3) := HR.out.cell 0 rfl 3 rfl; have hc9_go_0 : w19.cell? ⟨go, 0, none⟩ = some (.int .i64 t.f0) := HR.out.cell 2 rfl 0 rfl; have hc9_go_1 : w19.cell? ⟨go, 1, none⟩ = some (.string t.f1) := HR.out.cell 2 rfl 1 rfl; have hc9_go_2 : w19.cell? ⟨go, 2, none⟩ = some (.int .i64 t.f2) := HR.out.cell 2 rfl 2 rfl; have hc9_go_3 : w19.cell? ⟨go, 3, none⟩ = some (.slice A_o ys.length c_o) := HR.out.cell 2 rfl 3 rfl))
   have q_:=Aside0.mk (HR.out.drew)
   clear HR
   have HR:=q_
   clear q_
   clear hc9_gk_0 hc9_gk_1 hc9_gk_2 hc9_gk_3 hc9_go_0 hc9_go_1 hc9_go_2 hc9_go_3
   refine start_ (n:=9) (S:=fun w' => w'.cell? ⟨go,0,none⟩ = some (.int .i64 t.f0) ∧ w'.cell? ⟨go,1,none⟩ = some (.string t.f1) ∧ w'.cell? ⟨go,2,none⟩ = some (.int .i64 t.f2) ∧ w'.cell? ⟨go,3,none⟩ = some (.slice A_o ys.length c_o) ∧ w'.cell? ⟨gk,0,none⟩ = some (.int .i64 x.f0) ∧ w'.cell? ⟨gk,1,none⟩ = some (.string x.f1) ∧ w'.cell? ⟨gk,2,none⟩ = some (.int .i64 x.f2) ∧ w'.cell? ⟨gk,3,none⟩ = some (.slice A3 x.f3.length c3)) (ds:=[8]) #[false,false,false,false,false,false,false,false,false] (by kernel_rfl) rfl rfl ⟨HR.out.cell 2 rfl 0 rfl,HR.out.cell 2 rfl 1 rfl,HR.out.cell 2 rfl 2 rfl,HR.out.cell 2 rfl 3 rfl,HR.out.cell 0 rfl 0 rfl,HR.out.cell 0 rfl 1 rfl,HR.out.cell 0 rfl 2 rfl,HR.out.cell 0 rfl 3 rfl⟩ (fun hHeld => ?_);refine with_tabW rn8_tab rn8_bits (fun HT_ HW_ => ?_)
   generalize w19.drew = w20 at HR hHeld ⊢
   refine pure_ (i:=0) (N:=some 25) (v:=?_) (a':=?_) #[true,false,false,false,false,false,false,false,false] rfl rfl (any_of HT_.out (by kernel_rfl)) (fun _ _ _ h => h) (Or.inl ⟨by rfl,?_⟩) ?_ ?_
   rotate_left
   ·intro w'
    go_simp
    with_reducible rfl
   rotate_left
   ·simp only [Act.put,List.setIfInBounds_toArray,List.set_cons_zero,List.set_cons_succ,i64_w,i32_w]
    rfl
   refine pure_ (i:=3) (N:=some 28) (v:=?_) (a':=?_) #[true,false,false,true,false,false,false,false,false] rfl rfl (any_of HT_.out (by kernel_rfl)) (fun _ _ _ h => h) (Or.inl ⟨by rfl,?_⟩) ?_ ?_
   rotate_left
   ·intro w'
    go_simp
    with_reducible rfl
   rotate_left
   ·simp only [Act.put,List.setIfInBounds_toArray,List.set_cons_zero,List.set_cons_succ,i64_w,i32_w]
    rfl
   refine take_ (i:=1) (N:=some 26) (v:=?_) (a':=?_) #[true,true,false,true,false,false,false,false,false] rfl rfl (take_ofW HT_.out HW_.out (by kernel_rfl)) (fun _ _ _ h => h) (Or.inl ⟨by rfl,?_⟩) hHeld ?_ ?_
   rotate_left
   ·rintro w' ⟨s0,s1,s2,s3,s4,s5,s6,s7⟩
    go_simp
    with_reducible rfl
   rotate_left
   ·simp only [Act.put,List.setIfInBounds_toArray,List.set_cons_zero,List.set_cons_succ,i64_w,i32_w]
    rfl
   refine take_ (i:=2) (N:=some 27) (v:=?_) (a':=?_) #[true,true,true,true,false,false,false,false,false] rfl rfl (take_ofW HT_.out HW_.out (by kernel_rfl)) (fun _ _ _ h => h) (Or.inl ⟨by rfl,?_⟩) hHeld ?_ ?_
   rotate_left
   ·rintro w' ⟨s0,s1,s2,s3,s4,s5,s6,s7⟩
    go_simp
    with_reducible rfl
   rotate_left
   ·simp only [Act.put,List.setIfInBounds_toArray,List.set_cons_zero,List.set_cons_succ,i64_w,i32_w]
    rfl
   refine one_ (i:=4) (N:=some 29) #[true,true,true,true,true,false,false,false,false] rfl rfl (one_of HT_.out (by kernel_rfl)) (by decide) (fun K hK => ?_)
   refine goes_ Tryd.func104 (by kernel_rfl) rfl #[.agg #[.int .i64 x.f0,.string x.f1,.int .i64 x.f2,.slice A3 x.f3.length c3],.func (.func 105) #[] #[]] (by rfl) rfl rfl (by (try simp only [List.map_toArray,List.map_cons,List.map_nil]);first|done|rfl) ?_
   refine (IH.out x HX.out A3 c3 w20 (Kd.C_below HI3.out HR.out.bel) HL3.out).mono ?_
   rintro e w21 ⟨A4,c4,rfl,ho,hb⟩
   refine ⟨_,rfl,?_⟩
   have q_:=Aside0.mk (HR.out.push _ hb ho)
   clear HR
   have HR:=q_
   clear q_
   clear ho hb
   refine hK.out _ _ ⟨HR.out.cell 3 rfl 0 rfl,HR.out.cell 3 rfl 1 rfl,HR.out.cell 3 rfl 2 rfl,HR.out.cell 3 rfl 3 rfl,HR.out.cell 1 rfl 0 rfl,HR.out.cell 1 rfl 1 rfl,HR.out.cell 1 rfl 2 rfl,HR.out.cell 1 rfl 3 rfl⟩ (fun hHeld => ?_)
   clear hK K
   refine norm_ (a':=?_) ?_ ?_
   rotate_left
   ·show Act.put _ (some 29) _ = _
    simp only [Act.put,List.setIfInBounds_toArray,List.set_cons_zero,List.set_cons_succ,i64_w,i32_w]
    rfl
   refine one_ (i:=5) (N:=some 30) #[true,true,true,true,true,true,false,false,false] rfl rfl (one_of HT_.out (by kernel_rfl)) (by decide) (fun K hK => ?_)
   refine value_ (w1:=?_) (v:=?_) (by rfl) rfl ?_ ?_
   rotate_left 2
   ·go_simp
    constructor
    ·rfl
    ·rfl
   refine hK.out _ _ ⟨(blk_cell (blk_alloc (HR.out.has 3 rfl).2 _) 0).trans rfl,(blk_cell (blk_alloc (HR.out.has 3 rfl).2 _) 1).trans rfl,(blk_cell (blk_alloc (HR.out.has 3 rfl).2 _) 2).trans rfl,(blk_cell (blk_alloc (HR.out.has 3 rfl).2 _) 3).trans rfl,(blk_cell (blk_alloc (HR.out.has 1 rfl).2 _) 0).trans rfl,(blk_cell (blk_alloc (HR.out.has 1 rfl).2 _) 1).trans rfl,(blk_cell (blk_alloc (HR.out.has 1 rfl).2 _) 2).trans rfl,(blk_cell (blk_alloc (HR.out.has 1 rfl).2 _) 3).trans rfl⟩ (fun hHeld => ?_)
   clear hK K
   refine norm_ (a':=?_) ?_ ?_
   rotate_left
   ·show Act.put _ (some 30) _ = _
    simp only [Act.put,List.setIfInBounds_toArray,List.set_cons_zero,List.set_cons_succ,i64_w,i32_w]
    rfl
   refine one_ (i:=6) (N:=some 31) #[true,true,true,true,true,true,true,false,false] rfl rfl (one_of HT_.out (by kernel_rfl)) (by decide) (fun K hK => ?_)
   refine HR.out.appStep 2 0 kD29 rfl rfl (by decide) x [.int .i64 x.f0,.string x.f1,.int .i64 x.f2,.slice A4 x.f3.length c4] (fun okj hj_ => kD29_mkM _ _ _ x hj_) (by rfl) (.tmp 26) (.tmp 30) 27 (.agg #[(.int .i64 0),(.string ⟨#[]⟩),(.int .i64 0),(.slice none 0 0)]) 56 rfl Tryd.underlying27 info29 rfl (by decide) (by omega) rfl rfl (by have h1_:=HL.out;have h2_ : ys.length ≤ t.f3.length:=(by rw [HYS.out,List.length_take];omega);omega) ?_
   intro v_ w22 hq_
   obtain ⟨l_n,hz_⟩ : ∃ z_,z_ = (ys ++ [x]):=⟨_,rfl⟩
   rw [← hz_] at hq_
   have HZ_n:=Aside0.mk hz_
   clear hz_
   obtain ⟨A_n,c_n,rfl⟩:=Kd.S_slice (hq_.has 2 rfl)
   clear HR
   have HR:=Aside0.mk hq_
   clear hq_
   refine hK.out _ _ ⟨HR.out.cell 3 rfl 0 rfl,HR.out.cell 3 rfl 1 rfl,HR.out.cell 3 rfl 2 rfl,HR.out.cell 3 rfl 3 rfl,HR.out.cell 1 rfl 0 rfl,HR.out.cell 1 rfl 1 rfl,HR.out.cell 1 rfl 2 rfl,HR.out.cell 1 rfl 3 rfl⟩ (fun hHeld => ?_)
   clear hK K
   refine norm_ (a':=?_) ?_ ?_
   rotate_left
   ·show Act.put _ (some 31) _ = _
    simp only [Act.put,List.setIfInBounds_toArray,List.set_cons_zero,List.set_cons_succ,i64_w,i32_w]
    rfl
   refine pure_ (i:=7) (N:=some 32) (v:=?_) (a':=?_) #[true,true,true,true,true,true,true,true,false] rfl rfl (any_of HT_.out (by kernel_rfl)) (fun _ _ _ h => h) (Or.inl ⟨by rfl,?_⟩) ?_ ?_
   rotate_left
   ·intro w'
    go_simp
    with_reducible rfl
   rotate_left
   ·simp only [Act.put,List.setIfInBounds_toArray,List.set_cons_zero,List.set_cons_succ,i64_w,i32_w]
    rfl
   refine last_ (i:=8) (N:=none) #[true,true,true,true,true,true,true,true,true] rfl rfl (one_of HT_.out (by kernel_rfl)) (by decide) (fun K hK => ?_)
   have hz0_ : w22.cell? ⟨go,0,none⟩ = some (.int .i64 t.f0):=HR.out.cell 3 rfl 0 rfl
   have fz0_:=HR.out.free 3 rfl 0
   have hz1_ : w22.cell? ⟨go,1,none⟩ = some (.string t.f1):=HR.out.cell 3 rfl 1 rfl
   have fz1_:=HR.out.free 3 rfl 1
   have hz2_ : w22.cell? ⟨go,2,none⟩ = some (.int .i64 t.f2):=HR.out.cell 3 rfl 2 rfl
   have fz2_:=HR.out.free 3 rfl 2
   have hz3_ : w22.cell? ⟨go,3,none⟩ = some (.slice A_o ys.length c_o):=HR.out.cell 3 rfl 3 rfl
   have fz3_:=HR.out.free 3 rfl 3
   refine skip_ (w1:=w22.setCell ⟨go,3,none⟩ (.slice A_n l_n.length c_n)) (by rfl) rfl ?_ ?_
   ·first|(go_simp;done)|(go_simp;rfl)
   refine hK.out _ _ ?_
   clear hK K hz0_ fz0_ hz1_ fz1_ hz2_ fz2_ hz3_ fz3_
   have q_:=Aside0.mk (HR.out.set 3 rfl 3 (.slice A_n l_n.length c_n))
   clear HR
   have HR:=q_
   clear q_
   generalize w22.setCell ⟨go,3,none⟩ (.slice A_n l_n.length c_n) = w23 at HR ⊢
   refine done_ (done_of HT_.out (by kernel_rfl)) ?_
   try go_wp2
   go_roundg (t.f3.length - (i + 1))
   case measure => have:=hi.out;omega
   case rel => exact ⟨i + 1,A_n,c_n,l_n,by rw [next_i i _ hlt' HL.out],⟨by have:=hi.out;omega⟩,⟨HZ_n.out.trans HT.out.symm⟩,⟨HR.out.pick [2,3,4,5] (by decide)⟩⟩
  ·have c3b0 : decide ((i : Int) < (t.f3.length : Int)) = false:=decide_eq_false hlt
   have c3b1 : decide (i < t.f3.length) = false:=decide_eq_false (by omega)
   have he : ys = t.f3:=HYS.out.trans (List.take_of_length_le (by omega))
   rw [he] at HR
   clear he
   have hc10_go_0 : wr.cell? ⟨go,0,none⟩ = some (.int .i64 t.f0):=HR.out.cell 1 rfl 0 rfl
   have hc10_go_1 : wr.cell? ⟨go,1,none⟩ = some (.string t.f1):=HR.out.cell 1 rfl 1 rfl
   have hc10_go_2 : wr.cell? ⟨go,2,none⟩ = some (.int .i64 t.f2):=HR.out.cell 1 rfl 2 rfl
   have hc10_go_3 : wr.cell? ⟨go,3,none⟩ = some (.slice A_o t.f3.length c_o):=HR.out.cell 1 rfl 3 rfl
   have hc10_gr_0 : wr.cell? ⟨gr,0,none⟩ = some (.int .i64 0):=HR.out.cell 2 rfl 0 rfl
   have hc10_gr_1 : wr.cell? ⟨gr,1,none⟩ = some (.string (⟨#[]⟩ : ByteArray)):=HR.out.cell 2 rfl 1 rfl
   have hc10_gr_2 : wr.cell? ⟨gr,2,none⟩ = some (.int .i64 0):=HR.out.cell 2 rfl 2 rfl
   have hc10_gr_3 : wr.cell? ⟨gr,3,none⟩ = some (.slice none 0 0):=HR.out.cell 2 rfl 3 rfl
   have fc10_gr_0:=HR.out.free 2 rfl 0
   have fc10_gr_1:=HR.out.free 2 rfl 1
   have fc10_gr_2:=HR.out.free 2 rfl 2
   have fc10_gr_3:=HR.out.free 2 rfl 3
   go_wp2_with (first
    | ((with_reducible refine gate_store (t := 29) (p := 4) rfl ?_); refine store_event (t := 29) (p := 4) (v := ?vo34) (w1 := wr.setCells gr 0 [.int .i64 t.f0, .string t.f1, .int .i64 t.f2, .slice A_o t.f3.length c_o]) ?hgs34 ?hos34 ?hns34 ?hrs34 ?_; (case hos34 => rfl); (case hgs34 => rfl); (case hns34 => rfl); (case hrs34 => first | (go_simp; done) | (go_simp; rfl)); intro w34 hw; have q_ := Aside0.mk (hw ▸ HR.out.store 2 rfl [.int .i64 t.f0, .string t.f1, .int .i64 t.f2, .slice A_o t.f3.length c_o] rfl); clear HR; have HR := q_; clear q_; clear hw; clear hc10_go_0 hc10_go_1 hc10_go_2 hc10_go_3 hc10_gr_0 hc10_gr_1 hc10_gr_2 hc10_gr_3 fc10_gr_0 fc10_gr_1 fc10_gr_2 fc10_gr_3))
   refine bodyPost_ret (results_cell_row rfl _ _ gr 29 #[.int .i64 t.f0,.string t.f1,.int .i64 t.f2,.slice A_o t.f3.length c_o] (0,0) _ rfl (HR.out.has 2 rfl).2 Tryd.underlying29 rfl (by kernel_rfl)) rfl ?_
   exact ⟨_,_,rfl,As.mono _ (fun k hk => hk.elim False.elim id) (HR.out.one 0 rfl),HR.out.bel⟩
theorem rn_all (n : Nat) : ∀ t : S29,ht29 t ≤ n → cns29 t.f3 ≤ 1048576 → RnT t:=by
 induction n with
 | zero => intro t h; have := ht29_eq t; omega
 | succ n ih =>
  intro t h hc
  have h1:=cns29_len t.f3
  have h2 : ∀ x ∈ t.f3,RnT x:=fun x hx => ih x (by have:=hts29_mem hx;have:=ht29_eq t;omega) (by have:=cns29_mem hx;have:=cn29_eq x;omega)
  by_cases hk : (t.f0 == 1) = true
  ·exact rn_var t hk (by omega) h2
  ·exact rn_other t (by simpa using hk) (by omega) h2
set_option maxHeartbeats 16000000 in
set_option maxRecDepth 100000 in
theorem cp_all (t : S29) (hn : RnT t) : CpT t:=by
 intro A c w hC hc
 have HC:=Aside0.mk hC
 have HCC:=Aside0.mk hc
 have HN:=Aside0.mk hn
 have HR:=Aside0.mk (run_law w)
 clear hC hc hn
 go_enter Tryd.func81,Tryd.ntmps81
 go_wp2_with (first
  | ((with_reducible refine gate_dst (N := 1) rfl ?_); refine box_event ?hg1 (N := 1) ?hd1 (cs := #[.int .i64 t.f0, .string t.f1, .int .i64 t.f2, .slice A t.f3.length c]) (t := 29) ?hr1 ?_; (case hd1 => rfl); (case hg1 => rfl); (case hr1 => first | (go_simp; done) | (go_simp; rfl)); intro ga hg w1 hbox hb; have q_ := Aside0.mk (HR.out.box hg hb hbox); clear HR; have HR := q_; clear q_; clear hg hbox hb)
  | ((with_reducible refine gate_dst (N := 2) rfl ?_); refine box_event ?hg2 (N := 2) ?hd2 (cs := #[.int .i64 0, .string (⟨#[]⟩ : ByteArray), .int .i64 0, .slice none 0 0]) (t := 29) ?hr2 ?_; (case hd2 => rfl); (case hg2 => rfl); (case hr2 => first | (go_simp; done) | (go_simp; rfl)); intro gr hg w2 hbox hb; have q_ := Aside0.mk (HR.out.box hg hb hbox); clear HR; have HR := q_; clear q_; clear hg hbox hb; have hc2_ga_0 : w2.cell? ⟨ga, 0, none⟩ = some (.int .i64 t.f0) := HR.out.cell 1 rfl 0 rfl; have hc2_ga_1 : w2.cell? ⟨ga, 1, none⟩ = some (.string t.f1) := HR.out.cell 1 rfl 1 rfl; have hc2_ga_2 : w2.cell? ⟨ga, 2, none⟩ = some (.int .i64 t.f2) := HR.out.cell 1 rfl 2 rfl; have hc2_ga_3 : w2.cell? ⟨ga, 3, none⟩ = some (.slice A t.f3.length c) := HR.out.cell 1 rfl 3 rfl)
  | (go_at_call 104; refine (HN.out A c w2 (Kd.C_below HC.out HR.out.bel) HCC.out).mono ?_; rintro e w3 ⟨A4, c4, rfl, ho, hb⟩; have q_ := Aside0.mk (HR.out.push _ hb ho); clear HR; have HR := q_; clear q_; clear hb ho; clear hc2_ga_0 hc2_ga_1 hc2_ga_2 hc2_ga_3; have hc3_gr_0 : w3.cell? ⟨gr, 0, none⟩ = some (.int .i64 0) := HR.out.cell 1 rfl 0 rfl; have hc3_gr_1 : w3.cell? ⟨gr, 1, none⟩ = some (.string (⟨#[]⟩ : ByteArray)) := HR.out.cell 1 rfl 1 rfl; have hc3_gr_2 : w3.cell? ⟨gr, 2, none⟩ = some (.int .i64 0) := HR.out.cell 1 rfl 2 rfl; have hc3_gr_3 : w3.cell? ⟨gr, 3, none⟩ = some (.slice none 0 0) := HR.out.cell 1 rfl 3 rfl; have fc3_gr_0 := HR.out.free 1 rfl 0; have fc3_gr_1 := HR.out.free 1 rfl 1; have fc3_gr_2 := HR.out.free 1 rfl 2; have fc3_gr_3 := HR.out.free 1 rfl 3)
  | ((with_reducible refine gate_store (t := 29) (p := 2) rfl ?_); refine store_event (t := 29) (p := 2) (v := ?vo4) (w1 := w3.setCells gr 0 [.int .i64 t.f0, .string t.f1, .int .i64 t.f2, .slice A4 t.f3.length c4]) ?hgs4 ?hos4 ?hns4 ?hrs4 ?_; (case hos4 => rfl); (case hgs4 => rfl); (case hns4 => rfl); (case hrs4 => first | (go_simp; done) | (go_simp; rfl)); intro w4 hw; have q_ := Aside0.mk (hw ▸ HR.out.store 1 rfl [.int .i64 t.f0, .string t.f1, .int .i64 t.f2, .slice A4 t.f3.length c4] rfl); clear HR; have HR := q_; clear q_; clear hw; clear hc3_gr_0 hc3_gr_1 hc3_gr_2 hc3_gr_3 fc3_gr_0 fc3_gr_1 fc3_gr_2 fc3_gr_3))
 refine bodyPost_ret (results_cell_row rfl _ _ gr 29 #[.int .i64 t.f0,.string t.f1,.int .i64 t.f2,.slice A4 t.f3.length c4] (0,0) _ rfl (HR.out.has 1 rfl).2 Tryd.underlying29 rfl (by kernel_rfl)) rfl ?_
 exact ⟨_,_,rfl,As.mono _ (fun k hk => hk.elim False.elim id) (HR.out.one 0 rfl),HR.out.bel⟩
end
section
set_option linter.unusedSectionVars false
variable [fk_laws_szTerm] [fk_laws_eqTerm] [fk_spec_l34Term] [fk_strconv_Itoa]
def ac (x : S48) (v v' : Value) : As:=As.star (As.row kD29 29 v x.f0.f3) (As.row kD29 29 v' x.f1.f3)
def MadeC (x : S48) (W : World) (e : Ending) (W' : World) : Prop:=∃ A c B d,e = .returned (.agg #[.int .i64 x.f0.f0,.string x.f0.f1,.int .i64 x.f0.f2,.slice A x.f0.f3.length c,.int .i64 x.f1.f0,.string x.f1.f1,.int .i64 x.f1.f2,.slice B x.f1.f3.length d,.string x.f2]) ∧ (ac x (.slice A x.f0.f3.length c) (.slice B x.f1.f3.length d)).M W.heap.size W' (fun k => W.heap.size ≤ k) ∧ Below W.heap.size W W'
def CpCl (x : S48) : Prop:=∀ (A : Option Addr) (c : Nat) (B : Option Addr) (d : Nat) (W : World),Kd.C k29 W A x.f0.f3.length x.f0.f3 → x.f0.f3.length ≤ c → Kd.C k29 W B x.f1.f3.length x.f1.f3 → x.f1.f3.length ≤ d → Calls Tryd.prog 63 #[.agg #[.int .i64 x.f0.f0,.string x.f0.f1,.int .i64 x.f0.f2,.slice A x.f0.f3.length c,.int .i64 x.f1.f0,.string x.f1.f1,.int .i64 x.f1.f2,.slice B x.f1.f3.length d,.string x.f2]] W fun e W' => MadeC x W e W'
def cc1_T : Bool × List (List Nat × List Nat):=(true,[([],[]),([0],[0]),([1],[1]),([],[]),([3],[3]),([4,2],[4]),([],[]),([6],[6]),([2,5,7],[2,5,7]),([8,5,0,1,2,3,4,5,6,7,8],[8])])
def cc1_B : List Nat:=[0,1,3,0,8,31,0,64,255,511]
theorem cc1_tab : rtab .any (opsOf Tryd.f63 1) = cc1_T:=by kernel_rfl
theorem cc1_bits : waitsOk cc1_T.2 cc1_B = true:=by kernel_rfl
set_option maxHeartbeats 16000000 in
set_option maxRecDepth 100000 in
theorem cpCl (x : S48) (h1 : CpT x.f0) (h2 : CpT x.f1) : CpCl x:=by
 intro A c B d w hC hc hD hd
 have HC:=Aside0.mk hC
 have HCC:=Aside0.mk hc
 have HD:=Aside0.mk hD
 have HDD:=Aside0.mk hd
 have H1:=Aside0.mk h1
 have H2:=Aside0.mk h2
 have HR:=Aside0.mk (run_law w)
 clear hC hc hD hd h1 h2
 go_enter Tryd.func63,Tryd.ntmps63
 go_wp2_with (first
  | ((with_reducible refine gate_dst (N := 1) rfl ?_); refine box_event ?hg1 (N := 1) ?hd1 (cs := #[.int .i64 x.f0.f0, .string x.f0.f1, .int .i64 x.f0.f2, .slice A x.f0.f3.length c, .int .i64 x.f1.f0, .string x.f1.f1, .int .i64 x.f1.f2, .slice B x.f1.f3.length d, .string x.f2]) (t := 48) ?hr1 ?_; (case hd1 => rfl); (case hg1 => rfl); (case hr1 => first | (go_simp; done) | (go_simp; rfl)); intro ga hg w1 hbox hb; have q_ := Aside0.mk (HR.out.box hg hb hbox); clear HR; have HR := q_; clear q_; clear hg hbox hb)
  | ((with_reducible refine gate_dst (N := 2) rfl ?_); refine box_event ?hg2 (N := 2) ?hd2 (cs := #[.int .i64 0, .string (⟨#[]⟩ : ByteArray), .int .i64 0, .slice none 0 0, .int .i64 0, .string (⟨#[]⟩ : ByteArray), .int .i64 0, .slice none 0 0, .string (⟨#[]⟩ : ByteArray)]) (t := 48) ?hr2 ?_; (case hd2 => rfl); (case hg2 => rfl); (case hr2 => first | (go_simp; done) | (go_simp; rfl)); intro gr hg w2 hbox hb; have q_ := Aside0.mk (HR.out.box hg hb hbox); clear HR; have HR := q_; clear q_; clear hg hbox hb))
 have q_:=Aside0.mk (HR.out.drew)
 clear HR
 have HR:=q_
 clear q_
 refine start_ (n:=10) (S:=fun w' => w'.cell? ⟨ga,0,none⟩ = some (.int .i64 x.f0.f0) ∧ w'.cell? ⟨ga,1,none⟩ = some (.string x.f0.f1) ∧ w'.cell? ⟨ga,2,none⟩ = some (.int .i64 x.f0.f2) ∧ w'.cell? ⟨ga,3,none⟩ = some (.slice A x.f0.f3.length c) ∧ w'.cell? ⟨ga,4,none⟩ = some (.int .i64 x.f1.f0) ∧ w'.cell? ⟨ga,5,none⟩ = some (.string x.f1.f1) ∧ w'.cell? ⟨ga,6,none⟩ = some (.int .i64 x.f1.f2) ∧ w'.cell? ⟨ga,7,none⟩ = some (.slice B x.f1.f3.length d) ∧ w'.cell? ⟨ga,8,none⟩ = some (.string x.f2)) (ds:=[9]) #[false,false,false,false,false,false,false,false,false,false] (by kernel_rfl) rfl rfl ⟨HR.out.cell 1 rfl 0 rfl,HR.out.cell 1 rfl 1 rfl,HR.out.cell 1 rfl 2 rfl,HR.out.cell 1 rfl 3 rfl,HR.out.cell 1 rfl 4 rfl,HR.out.cell 1 rfl 5 rfl,HR.out.cell 1 rfl 6 rfl,HR.out.cell 1 rfl 7 rfl,HR.out.cell 1 rfl 8 rfl⟩ (fun hHeld => ?_);refine with_tabW cc1_tab cc1_bits (fun HT_ HW_ => ?_)
 generalize w2.drew = w3 at HR hHeld ⊢
 refine pure_ (i:=0) (N:=some 3) (v:=?_) (a':=?_) #[true,false,false,false,false,false,false,false,false,false] rfl rfl (any_of HT_.out (by kernel_rfl)) (fun _ _ _ h => h) (Or.inl ⟨by rfl,?_⟩) ?_ ?_
 rotate_left
 ·intro w'
  go_simp
  with_reducible rfl
 rotate_left
 ·simp only [Act.put,List.setIfInBounds_toArray,List.set_cons_zero,List.set_cons_succ,i64_w,i32_w]
  rfl
 refine pure_ (i:=3) (N:=some 6) (v:=?_) (a':=?_) #[true,false,false,true,false,false,false,false,false,false] rfl rfl (any_of HT_.out (by kernel_rfl)) (fun _ _ _ h => h) (Or.inl ⟨by rfl,?_⟩) ?_ ?_
 rotate_left
 ·intro w'
  go_simp
  with_reducible rfl
 rotate_left
 ·simp only [Act.put,List.setIfInBounds_toArray,List.set_cons_zero,List.set_cons_succ,i64_w,i32_w]
  rfl
 refine pure_ (i:=6) (N:=some 9) (v:=?_) (a':=?_) #[true,false,false,true,false,false,true,false,false,false] rfl rfl (any_of HT_.out (by kernel_rfl)) (fun _ _ _ h => h) (Or.inl ⟨by rfl,?_⟩) ?_ ?_
 rotate_left
 ·intro w'
  go_simp
  with_reducible rfl
 rotate_left
 ·simp only [Act.put,List.setIfInBounds_toArray,List.set_cons_zero,List.set_cons_succ,i64_w,i32_w]
  rfl
 refine take_ (i:=1) (N:=some 4) (v:=?_) (a':=?_) #[true,true,false,true,false,false,true,false,false,false] rfl rfl (take_ofW HT_.out HW_.out (by kernel_rfl)) (fun _ _ _ h => h) (Or.inl ⟨by rfl,?_⟩) hHeld ?_ ?_
 rotate_left
 ·rintro w' ⟨s0,s1,s2,s3,s4,s5,s6,s7,s8⟩
  go_simp
  with_reducible rfl
 rotate_left
 ·simp only [Act.put,List.setIfInBounds_toArray,List.set_cons_zero,List.set_cons_succ,i64_w,i32_w]
  rfl
 refine take_ (i:=4) (N:=some 7) (v:=?_) (a':=?_) #[true,true,false,true,true,false,true,false,false,false] rfl rfl (take_ofW HT_.out HW_.out (by kernel_rfl)) (fun _ _ _ h => h) (Or.inl ⟨by rfl,?_⟩) hHeld ?_ ?_
 rotate_left
 ·rintro w' ⟨s0,s1,s2,s3,s4,s5,s6,s7,s8⟩
  go_simp
  with_reducible rfl
 rotate_left
 ·simp only [Act.put,List.setIfInBounds_toArray,List.set_cons_zero,List.set_cons_succ,i64_w,i32_w]
  rfl
 refine take_ (i:=7) (N:=some 10) (v:=?_) (a':=?_) #[true,true,false,true,true,false,true,true,false,false] rfl rfl (take_ofW HT_.out HW_.out (by kernel_rfl)) (fun _ _ _ h => h) (Or.inl ⟨by rfl,?_⟩) hHeld ?_ ?_
 rotate_left
 ·rintro w' ⟨s0,s1,s2,s3,s4,s5,s6,s7,s8⟩
  go_simp
  with_reducible rfl
 rotate_left
 ·simp only [Act.put,List.setIfInBounds_toArray,List.set_cons_zero,List.set_cons_succ,i64_w,i32_w]
  rfl
 refine one_ (i:=2) (N:=some 5) #[true,true,true,true,true,false,true,true,false,false] rfl rfl (one_of HT_.out (by kernel_rfl)) (by decide) (fun K hK => ?_)
 refine goes_ Tryd.func81 (by kernel_rfl) rfl #[.agg #[.int .i64 x.f0.f0,.string x.f0.f1,.int .i64 x.f0.f2,.slice A x.f0.f3.length c]] (by rfl) rfl rfl (by (try simp only [List.map_toArray,List.map_cons,List.map_nil]);first|done|rfl) ?_
 refine (H1.out A c w3 (Kd.C_below HC.out HR.out.bel) HCC.out).mono ?_
 rintro e w4 ⟨A1,c1,rfl,ho,hb⟩
 refine ⟨_,rfl,?_⟩
 have q_:=Aside0.mk (HR.out.push _ hb ho)
 clear HR
 have HR:=q_
 clear q_
 clear ho hb
 refine hK.out _ _ ⟨HR.out.cell 2 rfl 0 rfl,HR.out.cell 2 rfl 1 rfl,HR.out.cell 2 rfl 2 rfl,HR.out.cell 2 rfl 3 rfl,HR.out.cell 2 rfl 4 rfl,HR.out.cell 2 rfl 5 rfl,HR.out.cell 2 rfl 6 rfl,HR.out.cell 2 rfl 7 rfl,HR.out.cell 2 rfl 8 rfl⟩ (fun hHeld => ?_)
 clear hK K
 refine norm_ (a':=?_) ?_ ?_
 rotate_left
 ·show Act.put _ (some 5) _ = _
  simp only [Act.put,List.setIfInBounds_toArray,List.set_cons_zero,List.set_cons_succ,i64_w,i32_w]
  rfl
 refine one_ (i:=5) (N:=some 8) #[true,true,true,true,true,true,true,true,false,false] rfl rfl (one_of HT_.out (by kernel_rfl)) (by decide) (fun K hK => ?_)
 refine goes_ Tryd.func81 (by kernel_rfl) rfl #[.agg #[.int .i64 x.f1.f0,.string x.f1.f1,.int .i64 x.f1.f2,.slice B x.f1.f3.length d]] (by rfl) rfl rfl (by (try simp only [List.map_toArray,List.map_cons,List.map_nil]);first|done|rfl) ?_
 refine (H2.out B d w4 (Kd.C_below HD.out HR.out.bel) HDD.out).mono ?_
 rintro e w5 ⟨A2,c2,rfl,ho,hb⟩
 refine ⟨_,rfl,?_⟩
 have q_:=Aside0.mk (HR.out.push _ hb ho)
 clear HR
 have HR:=q_
 clear q_
 clear ho hb
 refine hK.out _ _ ⟨HR.out.cell 3 rfl 0 rfl,HR.out.cell 3 rfl 1 rfl,HR.out.cell 3 rfl 2 rfl,HR.out.cell 3 rfl 3 rfl,HR.out.cell 3 rfl 4 rfl,HR.out.cell 3 rfl 5 rfl,HR.out.cell 3 rfl 6 rfl,HR.out.cell 3 rfl 7 rfl,HR.out.cell 3 rfl 8 rfl⟩ (fun hHeld => ?_)
 clear hK K
 refine norm_ (a':=?_) ?_ ?_
 rotate_left
 ·show Act.put _ (some 8) _ = _
  simp only [Act.put,List.setIfInBounds_toArray,List.set_cons_zero,List.set_cons_succ,i64_w,i32_w]
  rfl
 refine pure_ (i:=8) (N:=some 11) (v:=?_) (a':=?_) #[true,true,true,true,true,true,true,true,true,false] rfl rfl (any_of HT_.out (by kernel_rfl)) (fun _ _ _ h => h) (Or.inl ⟨by rfl,?_⟩) ?_ ?_
 rotate_left
 ·intro w'
  go_simp
  with_reducible rfl
 rotate_left
 ·simp only [Act.put,List.setIfInBounds_toArray,List.set_cons_zero,List.set_cons_succ,i64_w,i32_w]
  rfl
 refine last_ (i:=9) (N:=none) #[true,true,true,true,true,true,true,true,true,true] rfl rfl (one_of HT_.out (by kernel_rfl)) (by decide) (fun K hK => ?_)
 have hz0_ : w5.cell? ⟨gr,0,none⟩ = some (.int .i64 0):=HR.out.cell 2 rfl 0 rfl
 have fz0_:=HR.out.free 2 rfl 0
 have hz1_ : w5.cell? ⟨gr,1,none⟩ = some (.string (⟨#[]⟩ : ByteArray)):=HR.out.cell 2 rfl 1 rfl
 have fz1_:=HR.out.free 2 rfl 1
 have hz2_ : w5.cell? ⟨gr,2,none⟩ = some (.int .i64 0):=HR.out.cell 2 rfl 2 rfl
 have fz2_:=HR.out.free 2 rfl 2
 have hz3_ : w5.cell? ⟨gr,3,none⟩ = some (.slice none 0 0):=HR.out.cell 2 rfl 3 rfl
 have fz3_:=HR.out.free 2 rfl 3
 have hz4_ : w5.cell? ⟨gr,4,none⟩ = some (.int .i64 0):=HR.out.cell 2 rfl 4 rfl
 have fz4_:=HR.out.free 2 rfl 4
 have hz5_ : w5.cell? ⟨gr,5,none⟩ = some (.string (⟨#[]⟩ : ByteArray)):=HR.out.cell 2 rfl 5 rfl
 have fz5_:=HR.out.free 2 rfl 5
 have hz6_ : w5.cell? ⟨gr,6,none⟩ = some (.int .i64 0):=HR.out.cell 2 rfl 6 rfl
 have fz6_:=HR.out.free 2 rfl 6
 have hz7_ : w5.cell? ⟨gr,7,none⟩ = some (.slice none 0 0):=HR.out.cell 2 rfl 7 rfl
 have fz7_:=HR.out.free 2 rfl 7
 have hz8_ : w5.cell? ⟨gr,8,none⟩ = some (.string (⟨#[]⟩ : ByteArray)):=HR.out.cell 2 rfl 8 rfl
 have fz8_:=HR.out.free 2 rfl 8
 refine skip_ (w1:=w5.setCells gr 0 [.int .i64 x.f0.f0,.string x.f0.f1,.int .i64 x.f0.f2,.slice A1 x.f0.f3.length c1,.int .i64 x.f1.f0,.string x.f1.f1,.int .i64 x.f1.f2,.slice A2 x.f1.f3.length c2,.string x.f2]) (by rfl) rfl ?_ ?_
 ·first|(go_simp;done)|(go_simp;rfl)
 refine hK.out _ _ ?_
 clear hK K hz0_ fz0_ hz1_ fz1_ hz2_ fz2_ hz3_ fz3_ hz4_ fz4_ hz5_ fz5_ hz6_ fz6_ hz7_ fz7_ hz8_ fz8_
 have q_:=Aside0.mk (HR.out.store 2 rfl [.int .i64 x.f0.f0,.string x.f0.f1,.int .i64 x.f0.f2,.slice A1 x.f0.f3.length c1,.int .i64 x.f1.f0,.string x.f1.f1,.int .i64 x.f1.f2,.slice A2 x.f1.f3.length c2,.string x.f2] rfl)
 clear HR
 have HR:=q_
 clear q_
 generalize w5.setCells gr 0 [.int .i64 x.f0.f0,.string x.f0.f1,.int .i64 x.f0.f2,.slice A1 x.f0.f3.length c1,.int .i64 x.f1.f0,.string x.f1.f1,.int .i64 x.f1.f2,.slice A2 x.f1.f3.length c2,.string x.f2] = w6 at HR ⊢
 refine done_ (done_of HT_.out (by kernel_rfl)) ?_
 try go_wp2
 refine bodyPost_ret (results_cell_row rfl _ _ gr 48 #[.int .i64 x.f0.f0,.string x.f0.f1,.int .i64 x.f0.f2,.slice A1 x.f0.f3.length c1,.int .i64 x.f1.f0,.string x.f1.f1,.int .i64 x.f1.f2,.slice A2 x.f1.f3.length c2,.string x.f2] (0,0) _ rfl (HR.out.has 2 rfl).2 Tryd.underlying48 rfl (by kernel_rfl)) rfl ?_
 exact ⟨_,_,_,_,rfl,As.mono _ (fun k hk => hk.elim False.elim id) (HR.out.two 1 0 rfl rfl (by decide)),HR.out.bel⟩
end
def MadeCB (x : S48) (b : Bool) (W : World) (e : Ending) (W' : World) : Prop:=∃ A c B d,e = .returned (.tuple #[.agg #[.int .i64 x.f0.f0,.string x.f0.f1,.int .i64 x.f0.f2,.slice A x.f0.f3.length c,.int .i64 x.f1.f0,.string x.f1.f1,.int .i64 x.f1.f2,.slice B x.f1.f3.length d,.string x.f2],.bool b]) ∧ (ac x (.slice A x.f0.f3.length c) (.slice B x.f1.f3.length d)).M W.heap.size W' (fun k => W.heap.size ≤ k) ∧ Below W.heap.size W W'
section
set_option linter.unusedSectionVars false
variable [fk_laws_szTerm] [fk_laws_eqTerm] [fk_spec_l34Term] [fk_strconv_Itoa]
def implclo3_T : Bool × List (List Nat × List Nat):=(true,[([],[]),([],[]),([],[]),([0,1,2],[0,1,2]),([],[]),([4,3,1,0,1,2,3,4],[3,4])])
def implclo3_B : List Nat:=[0,0,0,7,0,31]
theorem implclo3_tab : rtab .any (opsOf Tryd.f23 3) = implclo3_T:=by kernel_rfl
theorem implclo3_bits : waitsOk implclo3_T.2 implclo3_B = true:=by kernel_rfl
def implclo5_T : Bool × List (List Nat × List Nat):=(true,[([],[]),([0],[0]),([1],[1]),([2],[2]),([],[]),([4],[4]),([5],[5]),([6],[6]),([0,1,2,3],[]),([8,3,0,1,2,3],[3,8]),([0,1,2,3,4,5,6,7,8,9],[]),([10,7,9,0,1,2,3,4,5,6,7,8,9],[7,10])])
def implclo5_B : List Nat:=[0,1,3,7,0,16,48,112,15,271,1023,2047]
theorem implclo5_tab : rtab .any (opsOf Tryd.f23 5) = implclo5_T:=by kernel_rfl
theorem implclo5_bits : waitsOk implclo5_T.2 implclo5_B = true:=by kernel_rfl
set_option maxHeartbeats 16000000 in
set_option maxRecDepth 100000 in
theorem impl_clo_no (t : S29) (file : ByteArray) (A : Option Addr) (c : Nat) (w : World) (hC : Kd.C k29 w A t.f3.length t.f3) (hc : t.f3.length ≤ c)
  (h1 : ∀ W,Below w.heap.size w W → Calls Tryd.prog 56 #[.agg #[.int .i64 t.f0,.string t.f1,.int .i64 t.f2,.slice A t.f3.length c]] W fun e W' => e = .returned (.bool false) ∧ Below W.heap.size W W') : Calls Tryd.prog 23 #[.agg #[.int .i64 t.f0,.string t.f1,.int .i64 t.f2,.slice A t.f3.length c],.string file] w fun e w' => MadeCB zC false w e w':=by
 have HC:=Aside0.mk hC
 have HCC:=Aside0.mk hc
 have H1:=Aside0.mk h1
 have HR:=Aside0.mk (run_law w)
 clear hC hc h1
 go_enter Tryd.func23,Tryd.ntmps23
 go_wp2_with (first
  | ((with_reducible refine gate_dst (N := 2) rfl ?_); refine box_event ?hg2 (N := 2) ?hd2 (cs := #[.int .i64 t.f0, .string t.f1, .int .i64 t.f2, .slice A t.f3.length c]) (t := 29) ?hr2 ?_; (case hd2 => rfl); (case hg2 => rfl); (case hr2 => first | (go_simp; done) | (go_simp; rfl)); intro ga hg w1 hbox hb; have q_ := Aside0.mk (HR.out.box hg hb hbox); clear HR; have HR := q_; clear q_; clear hg hbox hb)
  | ((with_reducible refine gate_dst (N := 4) rfl ?_); refine box_event ?hg4 (N := 4) ?hd4 (cs := #[.int .i64 0, .string (⟨#[]⟩ : ByteArray), .int .i64 0, .slice none 0 0, .int .i64 0, .string (⟨#[]⟩ : ByteArray), .int .i64 0, .slice none 0 0, .string (⟨#[]⟩ : ByteArray)]) (t := 48) ?hr4 ?_; (case hd4 => rfl); (case hg4 => rfl); (case hr4 => first | (go_simp; done) | (go_simp; rfl)); intro gr hg w2 hbox hb; have q_ := Aside0.mk (HR.out.box hg hb hbox); clear HR; have HR := q_; clear q_; clear hg hbox hb; have hc2_ga_0 : w2.cell? ⟨ga, 0, none⟩ = some (.int .i64 t.f0) := HR.out.cell 1 rfl 0 rfl; have hc2_ga_1 : w2.cell? ⟨ga, 1, none⟩ = some (.string t.f1) := HR.out.cell 1 rfl 1 rfl; have hc2_ga_2 : w2.cell? ⟨ga, 2, none⟩ = some (.int .i64 t.f2) := HR.out.cell 1 rfl 2 rfl; have hc2_ga_3 : w2.cell? ⟨ga, 3, none⟩ = some (.slice A t.f3.length c) := HR.out.cell 1 rfl 3 rfl)
  | (go_at_call 56; with_reducible refine (H1.out w2 HR.out.bel).mono ?_; rintro e w3 ⟨rfl, hb⟩; have q_ := Aside0.mk (HR.out.step hb); clear HR; have HR := q_; clear q_; clear hb; clear hc2_ga_0 hc2_ga_1 hc2_ga_2 hc2_ga_3; have hc3_gr_0 : w3.cell? ⟨gr, 0, none⟩ = some (.int .i64 0) := HR.out.cell 0 rfl 0 rfl; have hc3_gr_1 : w3.cell? ⟨gr, 1, none⟩ = some (.string (⟨#[]⟩ : ByteArray)) := HR.out.cell 0 rfl 1 rfl; have hc3_gr_2 : w3.cell? ⟨gr, 2, none⟩ = some (.int .i64 0) := HR.out.cell 0 rfl 2 rfl; have hc3_gr_3 : w3.cell? ⟨gr, 3, none⟩ = some (.slice none 0 0) := HR.out.cell 0 rfl 3 rfl; have hc3_gr_4 : w3.cell? ⟨gr, 4, none⟩ = some (.int .i64 0) := HR.out.cell 0 rfl 4 rfl; have hc3_gr_5 : w3.cell? ⟨gr, 5, none⟩ = some (.string (⟨#[]⟩ : ByteArray)) := HR.out.cell 0 rfl 5 rfl; have hc3_gr_6 : w3.cell? ⟨gr, 6, none⟩ = some (.int .i64 0) := HR.out.cell 0 rfl 6 rfl; have hc3_gr_7 : w3.cell? ⟨gr, 7, none⟩ = some (.slice none 0 0) := HR.out.cell 0 rfl 7 rfl; have hc3_gr_8 : w3.cell? ⟨gr, 8, none⟩ = some (.string (⟨#[]⟩ : ByteArray)) := HR.out.cell 0 rfl 8 rfl; have fc3_gr_0 := HR.out.free 0 rfl 0; have fc3_gr_1 := HR.out.free 0 rfl 1; have fc3_gr_2 := HR.out.free 0 rfl 2; have fc3_gr_3 := HR.out.free 0 rfl 3; have fc3_gr_4 := HR.out.free 0 rfl 4; have fc3_gr_5 := HR.out.free 0 rfl 5; have fc3_gr_6 := HR.out.free 0 rfl 6; have fc3_gr_7 := HR.out.free 0 rfl 7; have fc3_gr_8 := HR.out.free 0 rfl 8)
  | ((with_reducible refine gate_store (t := 48) (p := 4) rfl ?_); refine store_event (t := 48) (p := 4) (v := ?vo_1) (w1 := w3.setCells gr 0 [.int .i64 0, .string (⟨#[]⟩ : ByteArray), .int .i64 0, .slice none 0 0, .int .i64 0, .string (⟨#[]⟩ : ByteArray), .int .i64 0, .slice none 0 0, .string (⟨#[]⟩ : ByteArray)]) ?hgs_1 ?hos_1 ?hns_1 ?hrs_1 ?_; (case hos_1 => rfl); (case hgs_1 => rfl); (case hns_1 => rfl); (case hrs_1 => first | (go_simp; done) | (go_simp; rfl)); intro w4 hw; have q_ := Aside0.mk (hw ▸ HR.out.store 0 rfl [.int .i64 0, .string (⟨#[]⟩ : ByteArray), .int .i64 0, .slice none 0 0, .int .i64 0, .string (⟨#[]⟩ : ByteArray), .int .i64 0, .slice none 0 0, .string (⟨#[]⟩ : ByteArray)] rfl); clear HR; have HR := q_; clear q_; clear hw; clear hc3_gr_0 hc3_gr_1 hc3_gr_2 hc3_gr_3 hc3_gr_4 hc3_gr_5 hc3_gr_6 hc3_gr_7 hc3_gr_8 fc3_gr_0 fc3_gr_1 fc3_gr_2 fc3_gr_3 fc3_gr_4 fc3_gr_5 fc3_gr_6 fc3_gr_7 fc3_gr_8))
 refine bodyPost_ret (results_ct rfl _ _ gr 48 #[.int .i64 0,.string (⟨#[]⟩ : ByteArray),.int .i64 0,.slice none 0 0,.int .i64 0,.string (⟨#[]⟩ : ByteArray),.int .i64 0,.slice none 0 0,.string (⟨#[]⟩ : ByteArray)] (0,0) _ rfl (HR.out.has 0 rfl).2 Tryd.underlying48 rfl (by kernel_rfl)) rfl ?_
 exact (show MadeCB zC false w _ _ from ⟨none,0,none,0,rfl,⟨fun _ => True,Kd.S_nil _ _ _ _ _,Kd.S_nil _ _ _ _ _⟩,HR.out.bel⟩)
set_option maxHeartbeats 16000000 in
set_option maxRecDepth 100000 in
theorem impl_clo_A (t : S29) (file : ByteArray) (A : Option Addr) (c : Nat) (w : World) (hC : Kd.C k29 w A t.f3.length t.f3) (hc : t.f3.length ≤ c)
  (h1 : ∀ W,Below w.heap.size w W → Calls Tryd.prog 56 #[.agg #[.int .i64 t.f0,.string t.f1,.int .i64 t.f2,.slice A t.f3.length c]] W fun e W' => e = .returned (.bool true) ∧ Below W.heap.size W W') (h2 : ∀ W,Below w.heap.size w W → Calls Tryd.prog 61 #[.agg #[.int .i64 t.f0,.string t.f1,.int .i64 t.f2,.slice A t.f3.length c],.string (⟨#[58,45]⟩ : ByteArray),.int .i64 2] W fun e W' => e = .returned (.bool false) ∧ Below W.heap.size W W') (bh : Bool) (h3 : ∀ W (A : Option Addr) (c : Nat),Below w.heap.size w W → Kd.C k29 W A t.f3.length t.f3 → t.f3.length ≤ c → Calls Tryd.prog 57 #[.agg #[.int .i64 t.f0,.string t.f1,.int .i64 t.f2,.slice A t.f3.length c]] W fun e W' => e = .returned (.bool bh) ∧ Below W.heap.size W W') (bb : Bool) (h4 : ∀ W ,Calls Tryd.prog 56 #[.agg #[.int .i64 2,.string (⟨#[116,114,117,101]⟩ : ByteArray),.int .i64 0,.slice none 0 0]] W fun e W' => e = .returned (.bool bb) ∧ Below W.heap.size W W') (h5 : ∀ W (A : Option Addr) (c : Nat) ,Kd.C k29 W A t.f3.length t.f3 → t.f3.length ≤ c → Calls Tryd.prog 63 #[.agg #[.int .i64 t.f0,.string t.f1,.int .i64 t.f2,.slice A t.f3.length c,.int .i64 2,.string (⟨#[116,114,117,101]⟩ : ByteArray),.int .i64 0,.slice none 0 0,.string file]] W fun e W' => ∃ A c B d,e = .returned (.agg #[.int .i64 t.f0,.string t.f1,.int .i64 t.f2,.slice A t.f3.length c,.int .i64 2,.string (⟨#[116,114,117,101]⟩ : ByteArray),.int .i64 0,.slice B 0 d,.string file]) ∧ (ac (⟨t,(⟨2,(⟨#[116,114,117,101]⟩ : ByteArray),0,[]⟩ : S29),file⟩ : S48) (.slice A t.f3.length c) (.slice B 0 d)).M W.heap.size W' (fun k => W.heap.size ≤ k) ∧ Below W.heap.size W W') : Calls Tryd.prog 23 #[.agg #[.int .i64 t.f0,.string t.f1,.int .i64 t.f2,.slice A t.f3.length c],.string file] w fun e w' => MadeCB (if (bh && bb) = true then (⟨t,(⟨2,(⟨#[116,114,117,101]⟩ : ByteArray),0,[]⟩ : S29),file⟩ : S48) else zC) (bh && bb) w e w':=by
 have HC:=Aside0.mk hC
 have HCC:=Aside0.mk hc
 have H1:=Aside0.mk h1
 have H2:=Aside0.mk h2
 have H3:=Aside0.mk h3
 have H4:=Aside0.mk h4
 have H5:=Aside0.mk h5
 have HR:=Aside0.mk (run_law w)
 clear hC hc h1 h2 h3 h4 h5
 go_enter Tryd.func23,Tryd.ntmps23
 go_wp2_with (first
  | ((with_reducible refine gate_dst (N := 2) rfl ?_); refine box_event ?hg2 (N := 2) ?hd2 (cs := #[.int .i64 t.f0, .string t.f1, .int .i64 t.f2, .slice A t.f3.length c]) (t := 29) ?hr2 ?_; (case hd2 => rfl); (case hg2 => rfl); (case hr2 => first | (go_simp; done) | (go_simp; rfl)); intro ga hg w1 hbox hb; have q_ := Aside0.mk (HR.out.box hg hb hbox); clear HR; have HR := q_; clear q_; clear hg hbox hb)
  | ((with_reducible refine gate_dst (N := 4) rfl ?_); refine box_event ?hg4 (N := 4) ?hd4 (cs := #[.int .i64 0, .string (⟨#[]⟩ : ByteArray), .int .i64 0, .slice none 0 0, .int .i64 0, .string (⟨#[]⟩ : ByteArray), .int .i64 0, .slice none 0 0, .string (⟨#[]⟩ : ByteArray)]) (t := 48) ?hr4 ?_; (case hd4 => rfl); (case hg4 => rfl); (case hr4 => first | (go_simp; done) | (go_simp; rfl)); intro gr hg w2 hbox hb; have q_ := Aside0.mk (HR.out.box hg hb hbox); clear HR; have HR := q_; clear q_; clear hg hbox hb; have hc2_ga_0 : w2.cell? ⟨ga, 0, none⟩ = some (.int .i64 t.f0) := HR.out.cell 1 rfl 0 rfl; have hc2_ga_1 : w2.cell? ⟨ga, 1, none⟩ = some (.string t.f1) := HR.out.cell 1 rfl 1 rfl; have hc2_ga_2 : w2.cell? ⟨ga, 2, none⟩ = some (.int .i64 t.f2) := HR.out.cell 1 rfl 2 rfl; have hc2_ga_3 : w2.cell? ⟨ga, 3, none⟩ = some (.slice A t.f3.length c) := HR.out.cell 1 rfl 3 rfl)
  | (go_at_call 56; with_reducible refine (H1.out w2 HR.out.bel).mono ?_; rintro e w3 ⟨rfl, hb⟩; have q_ := Aside0.mk (HR.out.step hb); clear HR; have HR := q_; clear q_; clear hb; clear hc2_ga_0 hc2_ga_1 hc2_ga_2 hc2_ga_3))
 have q_:=Aside0.mk (HR.out.drew)
 clear HR
 have HR:=q_
 clear q_
 refine start_ (n:=6) (S:=fun w' => w'.cell? ⟨ga,0,none⟩ = some (.int .i64 t.f0) ∧ w'.cell? ⟨ga,1,none⟩ = some (.string t.f1) ∧ w'.cell? ⟨ga,2,none⟩ = some (.int .i64 t.f2) ∧ w'.cell? ⟨ga,3,none⟩ = some (.slice A t.f3.length c)) (ds:=[5]) #[false,false,false,false,false,false] (by kernel_rfl) rfl rfl ⟨HR.out.cell 1 rfl 0 rfl,HR.out.cell 1 rfl 1 rfl,HR.out.cell 1 rfl 2 rfl,HR.out.cell 1 rfl 3 rfl⟩ (fun hHeld => ?_);refine with_tabW implclo3_tab implclo3_bits (fun HT_ HW_ => ?_)
 generalize w3.drew = w4 at HR hHeld ⊢
 refine take_ (i:=0) (N:=some 11) (v:=?_) (a':=?_) #[true,false,false,false,false,false] rfl rfl (take_ofW HT_.out HW_.out (by kernel_rfl)) (fun _ _ _ h => h) (Or.inl ⟨by rfl,?_⟩) hHeld ?_ ?_
 rotate_left
 ·rintro w' ⟨s0,s1,s2,s3⟩
  go_simp
  with_reducible rfl
 rotate_left
 ·simp only [Act.put,List.setIfInBounds_toArray,List.set_cons_zero,List.set_cons_succ,i64_w,i32_w]
  rfl
 refine pure_ (i:=2) (N:=some 13) (v:=?_) (a':=?_) #[true,false,true,false,false,false] rfl rfl (any_of HT_.out (by kernel_rfl)) (fun _ _ _ h => h) (Or.inl ⟨by rfl,?_⟩) ?_ ?_
 rotate_left
 ·intro w'
  go_simp
  with_reducible rfl
 rotate_left
 ·simp only [Act.put,List.setIfInBounds_toArray,List.set_cons_zero,List.set_cons_succ,i64_w,i32_w]
  rfl
 refine join_ (σ:=Nat) 1 #[true,true,true,true,true,false] (fun go => [(12,.agg #[.int .i64 2,.string (⟨#[116,114,117,101]⟩ : ByteArray),.int .i64 0,.slice none 0 0]),(14,.agg #[.int .i64 t.f0,.string t.f1,.int .i64 t.f2,.slice A t.f3.length c,.int .i64 2,.string (⟨#[116,114,117,101]⟩ : ByteArray),.int .i64 0,.slice none 0 0,.string file]),(6,.pointer (some ⟨go,0,none⟩))]) (fun go w' => Run w w (fun _ => False) [As.box go 48 #[.int .i64 0,.string (⟨#[]⟩ : ByteArray),.int .i64 0,.slice none 0 0,.int .i64 0,.string (⟨#[]⟩ : ByteArray),.int .i64 0,.slice none 0 0,.string (⟨#[]⟩ : ByteArray)],As.box gr 48 #[.int .i64 0,.string (⟨#[]⟩ : ByteArray),.int .i64 0,.slice none 0 0,.int .i64 0,.string (⟨#[]⟩ : ByteArray),.int .i64 0,.slice none 0 0,.string (⟨#[]⟩ : ByteArray)],As.box ga 29 #[.int .i64 t.f0,.string t.f1,.int .i64 t.f2,.slice A t.f3.length c]] w') ?_ ?_
 rotate_left
 ·intro hCont
  refine two_ (i:=1) (j:=4) (Ni:=some 12) (Nj:=some 6) #[true,true,true,false,false,false] #[true,false,true,false,true,false] rfl rfl rfl rfl (two_of HT_.out (by kernel_rfl)) (by decide) (by decide) (fun K hK => ?_) (fun K hK => ?_)
  ·skip
   refine goes_ Tryd.func60 (by kernel_rfl) rfl #[.string (⟨#[116,114,117,101]⟩ : ByteArray)] (by rfl) rfl rfl (by (try simp only [List.map_toArray,List.map_cons,List.map_nil]);first|done|rfl) ?_
   refine (atom_calls (⟨#[116,114,117,101]⟩ : ByteArray) w4).mono ?_
   rintro e w5 ⟨rfl,hb⟩
   refine ⟨_,rfl,?_⟩
   have q_:=Aside0.mk (HR.out.step hb)
   clear HR
   have HR:=q_
   clear q_
   clear hb
   refine hK.out _ _ ⟨HR.out.cell 1 rfl 0 rfl,HR.out.cell 1 rfl 1 rfl,HR.out.cell 1 rfl 2 rfl,HR.out.cell 1 rfl 3 rfl⟩ (fun hHeld => ?_)
   clear hK K
   refine norm_ (a':=?_) ?_ ?_
   rotate_left
   ·show Act.put _ (some 12) _ = _
    simp only [Act.put,List.setIfInBounds_toArray,List.set_cons_zero,List.set_cons_succ,i64_w,i32_w]
    rfl
   refine pure_ (i:=3) (N:=some 14) (v:=?_) (a':=?_) #[true,true,true,true,false,false] rfl rfl (any_of HT_.out (by kernel_rfl)) (fun _ _ _ h => h) (Or.inl ⟨by rfl,?_⟩) ?_ ?_
   rotate_left
   ·intro w'
    go_simp
    with_reducible rfl
   rotate_left
   ·simp only [Act.put,List.setIfInBounds_toArray,List.set_cons_zero,List.set_cons_succ,i64_w,i32_w]
    rfl
   refine one_ (i:=4) (N:=some 6) #[true,true,true,true,true,false] rfl rfl (one_of HT_.out (by kernel_rfl)) (by decide) (fun K hK => ?_)
   refine box_step (by rfl) (N:=6) rfl (cs:=#[.int .i64 0,.string (⟨#[]⟩ : ByteArray),.int .i64 0,.slice none 0 0,.int .i64 0,.string (⟨#[]⟩ : ByteArray),.int .i64 0,.slice none 0 0,.string (⟨#[]⟩ : ByteArray)]) (t:=48) ?hra ?_
   (case hra => first|(go_simp;done)|(go_simp;rfl))
   intro go hg w6 hbox hb
   have q_:=Aside0.mk (HR.out.box hg hb hbox)
   clear HR
   have HR:=q_
   clear q_
   clear hg hbox hb
   refine hK.out _ _ ⟨HR.out.cell 2 rfl 0 rfl,HR.out.cell 2 rfl 1 rfl,HR.out.cell 2 rfl 2 rfl,HR.out.cell 2 rfl 3 rfl⟩ (fun hHeld => ?_)
   clear hK K
   refine norm_ (a':=?_) ?_ ?_
   rotate_left
   ·show Act.put _ (some 6) _ = _
    simp only [Act.put,List.setIfInBounds_toArray,List.set_cons_zero,List.set_cons_succ,i64_w,i32_w]
    rfl
   exact norm_ (by simp only [putAll,Act.put,List.setIfInBounds_toArray,List.set_cons_zero,List.set_cons_succ]) (hCont go _ HR.out)
  ·skip
   refine box_step (by rfl) (N:=6) rfl (cs:=#[.int .i64 0,.string (⟨#[]⟩ : ByteArray),.int .i64 0,.slice none 0 0,.int .i64 0,.string (⟨#[]⟩ : ByteArray),.int .i64 0,.slice none 0 0,.string (⟨#[]⟩ : ByteArray)]) (t:=48) ?hra ?_
   (case hra => first|(go_simp;done)|(go_simp;rfl))
   intro go hg w5 hbox hb
   have q_:=Aside0.mk (HR.out.box hg hb hbox)
   clear HR
   have HR:=q_
   clear q_
   clear hg hbox hb
   refine hK.out _ _ ⟨HR.out.cell 2 rfl 0 rfl,HR.out.cell 2 rfl 1 rfl,HR.out.cell 2 rfl 2 rfl,HR.out.cell 2 rfl 3 rfl⟩ (fun hHeld => ?_)
   clear hK K
   refine norm_ (a':=?_) ?_ ?_
   rotate_left
   ·show Act.put _ (some 6) _ = _
    simp only [Act.put,List.setIfInBounds_toArray,List.set_cons_zero,List.set_cons_succ,i64_w,i32_w]
    rfl
   refine one_ (i:=1) (N:=some 12) #[true,true,true,false,true,false] rfl rfl (one_of HT_.out (by kernel_rfl)) (by decide) (fun K hK => ?_)
   refine goes_ Tryd.func60 (by kernel_rfl) rfl #[.string (⟨#[116,114,117,101]⟩ : ByteArray)] (by rfl) rfl rfl (by (try simp only [List.map_toArray,List.map_cons,List.map_nil]);first|done|rfl) ?_
   refine (atom_calls (⟨#[116,114,117,101]⟩ : ByteArray) w5).mono ?_
   rintro e w6 ⟨rfl,hb⟩
   refine ⟨_,rfl,?_⟩
   have q_:=Aside0.mk (HR.out.step hb)
   clear HR
   have HR:=q_
   clear q_
   clear hb
   refine hK.out _ _ ⟨HR.out.cell 2 rfl 0 rfl,HR.out.cell 2 rfl 1 rfl,HR.out.cell 2 rfl 2 rfl,HR.out.cell 2 rfl 3 rfl⟩ (fun hHeld => ?_)
   clear hK K
   refine norm_ (a':=?_) ?_ ?_
   rotate_left
   ·show Act.put _ (some 12) _ = _
    simp only [Act.put,List.setIfInBounds_toArray,List.set_cons_zero,List.set_cons_succ,i64_w,i32_w]
    rfl
   refine pure_ (i:=3) (N:=some 14) (v:=?_) (a':=?_) #[true,true,true,true,true,false] rfl rfl (any_of HT_.out (by kernel_rfl)) (fun _ _ _ h => h) (Or.inl ⟨by rfl,?_⟩) ?_ ?_
   rotate_left
   ·intro w'
    go_simp
    with_reducible rfl
   rotate_left
   ·simp only [Act.put,List.setIfInBounds_toArray,List.set_cons_zero,List.set_cons_succ,i64_w,i32_w]
    rfl
   exact norm_ (by simp only [putAll,Act.put,List.setIfInBounds_toArray,List.set_cons_zero,List.set_cons_succ]) (hCont go _ HR.out)
 rintro go w7 hR_
 clear HR
 have HR:=Aside0.mk (show Run w w (fun _ => False) [As.box go 48 #[.int .i64 0,.string (⟨#[]⟩ : ByteArray),.int .i64 0,.slice none 0 0,.int .i64 0,.string (⟨#[]⟩ : ByteArray),.int .i64 0,.slice none 0 0,.string (⟨#[]⟩ : ByteArray)],As.box gr 48 #[.int .i64 0,.string (⟨#[]⟩ : ByteArray),.int .i64 0,.slice none 0 0,.int .i64 0,.string (⟨#[]⟩ : ByteArray),.int .i64 0,.slice none 0 0,.string (⟨#[]⟩ : ByteArray)],As.box ga 29 #[.int .i64 t.f0,.string t.f1,.int .i64 t.f2,.slice A t.f3.length c]] w7 from hR_)
 clear hR_
 refine norm_ (a':=?_) ?_ ?_
 rotate_left
 ·simp only [putAll,Act.put,List.setIfInBounds_toArray,List.set_cons_zero,List.set_cons_succ]
  rfl
 refine last_ (i:=5) (N:=none) #[true,true,true,true,true,true] rfl rfl (one_of HT_.out (by kernel_rfl)) (by decide) (fun K hK => ?_)
 have hz0_ : w7.cell? ⟨go,0,none⟩ = some (.int .i64 0):=HR.out.cell 0 rfl 0 rfl
 have fz0_:=HR.out.free 0 rfl 0
 have hz1_ : w7.cell? ⟨go,1,none⟩ = some (.string (⟨#[]⟩ : ByteArray)):=HR.out.cell 0 rfl 1 rfl
 have fz1_:=HR.out.free 0 rfl 1
 have hz2_ : w7.cell? ⟨go,2,none⟩ = some (.int .i64 0):=HR.out.cell 0 rfl 2 rfl
 have fz2_:=HR.out.free 0 rfl 2
 have hz3_ : w7.cell? ⟨go,3,none⟩ = some (.slice none 0 0):=HR.out.cell 0 rfl 3 rfl
 have fz3_:=HR.out.free 0 rfl 3
 have hz4_ : w7.cell? ⟨go,4,none⟩ = some (.int .i64 0):=HR.out.cell 0 rfl 4 rfl
 have fz4_:=HR.out.free 0 rfl 4
 have hz5_ : w7.cell? ⟨go,5,none⟩ = some (.string (⟨#[]⟩ : ByteArray)):=HR.out.cell 0 rfl 5 rfl
 have fz5_:=HR.out.free 0 rfl 5
 have hz6_ : w7.cell? ⟨go,6,none⟩ = some (.int .i64 0):=HR.out.cell 0 rfl 6 rfl
 have fz6_:=HR.out.free 0 rfl 6
 have hz7_ : w7.cell? ⟨go,7,none⟩ = some (.slice none 0 0):=HR.out.cell 0 rfl 7 rfl
 have fz7_:=HR.out.free 0 rfl 7
 have hz8_ : w7.cell? ⟨go,8,none⟩ = some (.string (⟨#[]⟩ : ByteArray)):=HR.out.cell 0 rfl 8 rfl
 have fz8_:=HR.out.free 0 rfl 8
 refine skip_ (w1:=w7.setCells go 0 [.int .i64 t.f0,.string t.f1,.int .i64 t.f2,.slice A t.f3.length c,.int .i64 2,.string (⟨#[116,114,117,101]⟩ : ByteArray),.int .i64 0,.slice none 0 0,.string file]) (by rfl) rfl ?_ ?_
 ·first|(go_simp;done)|(go_simp;rfl)
 refine hK.out _ _ ?_
 clear hK K hz0_ fz0_ hz1_ fz1_ hz2_ fz2_ hz3_ fz3_ hz4_ fz4_ hz5_ fz5_ hz6_ fz6_ hz7_ fz7_ hz8_ fz8_
 have q_:=Aside0.mk (HR.out.store 0 rfl [.int .i64 t.f0,.string t.f1,.int .i64 t.f2,.slice A t.f3.length c,.int .i64 2,.string (⟨#[116,114,117,101]⟩ : ByteArray),.int .i64 0,.slice none 0 0,.string file] rfl)
 clear HR
 have HR:=q_
 clear q_
 generalize w7.setCells go 0 [.int .i64 t.f0,.string t.f1,.int .i64 t.f2,.slice A t.f3.length c,.int .i64 2,.string (⟨#[116,114,117,101]⟩ : ByteArray),.int .i64 0,.slice none 0 0,.string file] = w8 at HR ⊢
 refine done_ (done_of HT_.out (by kernel_rfl)) ?_
 have hc4_ga_0 : w8.cell? ⟨ga,0,none⟩ = some (.int .i64 t.f0):=HR.out.cell 2 rfl 0 rfl
 have hc4_ga_1 : w8.cell? ⟨ga,1,none⟩ = some (.string t.f1):=HR.out.cell 2 rfl 1 rfl
 have hc4_ga_2 : w8.cell? ⟨ga,2,none⟩ = some (.int .i64 t.f2):=HR.out.cell 2 rfl 2 rfl
 have hc4_ga_3 : w8.cell? ⟨ga,3,none⟩ = some (.slice A t.f3.length c):=HR.out.cell 2 rfl 3 rfl
 rcases Bool.eq_false_or_eq_true bh with rfl|rfl
 ·rcases Bool.eq_false_or_eq_true bb with rfl|rfl
  ·skip
   go_wp2_with (first
    | (go_at_call 61; with_reducible refine (H2.out w8 HR.out.bel).mono ?_; rintro e w9 ⟨rfl, hb⟩; have q_ := Aside0.mk (HR.out.step hb); clear HR; have HR := q_; clear q_; clear hb; clear hc4_ga_0 hc4_ga_1 hc4_ga_2 hc4_ga_3; have hc5_go_0 : w9.cell? ⟨go, 0, none⟩ = some (.int .i64 t.f0) := HR.out.cell 0 rfl 0 rfl; have hc5_go_1 : w9.cell? ⟨go, 1, none⟩ = some (.string t.f1) := HR.out.cell 0 rfl 1 rfl; have hc5_go_2 : w9.cell? ⟨go, 2, none⟩ = some (.int .i64 t.f2) := HR.out.cell 0 rfl 2 rfl; have hc5_go_3 : w9.cell? ⟨go, 3, none⟩ = some (.slice A t.f3.length c) := HR.out.cell 0 rfl 3 rfl; have hc5_go_4 : w9.cell? ⟨go, 4, none⟩ = some (.int .i64 2) := HR.out.cell 0 rfl 4 rfl; have hc5_go_5 : w9.cell? ⟨go, 5, none⟩ = some (.string (⟨#[116, 114, 117, 101]⟩ : ByteArray)) := HR.out.cell 0 rfl 5 rfl; have hc5_go_6 : w9.cell? ⟨go, 6, none⟩ = some (.int .i64 0) := HR.out.cell 0 rfl 6 rfl; have hc5_go_7 : w9.cell? ⟨go, 7, none⟩ = some (.slice none 0 0) := HR.out.cell 0 rfl 7 rfl; have hc5_go_8 : w9.cell? ⟨go, 8, none⟩ = some (.string file) := HR.out.cell 0 rfl 8 rfl)
    | (go_at_call 57; with_reducible refine (H3.out w9 A c HR.out.bel (Kd.C_below HC.out HR.out.bel) HCC.out).mono ?_; rintro e w10 ⟨rfl, hb⟩; have q_ := Aside0.mk (HR.out.step hb); clear HR; have HR := q_; clear q_; clear hb; clear hc5_go_0 hc5_go_1 hc5_go_2 hc5_go_3 hc5_go_4 hc5_go_5 hc5_go_6 hc5_go_7 hc5_go_8; have hc6_go_0 : w10.cell? ⟨go, 0, none⟩ = some (.int .i64 t.f0) := HR.out.cell 0 rfl 0 rfl; have hc6_go_1 : w10.cell? ⟨go, 1, none⟩ = some (.string t.f1) := HR.out.cell 0 rfl 1 rfl; have hc6_go_2 : w10.cell? ⟨go, 2, none⟩ = some (.int .i64 t.f2) := HR.out.cell 0 rfl 2 rfl; have hc6_go_3 : w10.cell? ⟨go, 3, none⟩ = some (.slice A t.f3.length c) := HR.out.cell 0 rfl 3 rfl; have hc6_go_4 : w10.cell? ⟨go, 4, none⟩ = some (.int .i64 2) := HR.out.cell 0 rfl 4 rfl; have hc6_go_5 : w10.cell? ⟨go, 5, none⟩ = some (.string (⟨#[116, 114, 117, 101]⟩ : ByteArray)) := HR.out.cell 0 rfl 5 rfl; have hc6_go_6 : w10.cell? ⟨go, 6, none⟩ = some (.int .i64 0) := HR.out.cell 0 rfl 6 rfl; have hc6_go_7 : w10.cell? ⟨go, 7, none⟩ = some (.slice none 0 0) := HR.out.cell 0 rfl 7 rfl; have hc6_go_8 : w10.cell? ⟨go, 8, none⟩ = some (.string file) := HR.out.cell 0 rfl 8 rfl)
    | (go_at_call 56; with_reducible refine (H4.out w10).mono ?_; rintro e w11 ⟨rfl, hb⟩; have q_ := Aside0.mk (HR.out.step hb); clear HR; have HR := q_; clear q_; clear hb; clear hc6_go_0 hc6_go_1 hc6_go_2 hc6_go_3 hc6_go_4 hc6_go_5 hc6_go_6 hc6_go_7 hc6_go_8; have hc7_go_0 : w11.cell? ⟨go, 0, none⟩ = some (.int .i64 t.f0) := HR.out.cell 0 rfl 0 rfl; have hc7_go_1 : w11.cell? ⟨go, 1, none⟩ = some (.string t.f1) := HR.out.cell 0 rfl 1 rfl; have hc7_go_2 : w11.cell? ⟨go, 2, none⟩ = some (.int .i64 t.f2) := HR.out.cell 0 rfl 2 rfl; have hc7_go_3 : w11.cell? ⟨go, 3, none⟩ = some (.slice A t.f3.length c) := HR.out.cell 0 rfl 3 rfl; have hc7_go_4 : w11.cell? ⟨go, 4, none⟩ = some (.int .i64 2) := HR.out.cell 0 rfl 4 rfl; have hc7_go_5 : w11.cell? ⟨go, 5, none⟩ = some (.string (⟨#[116, 114, 117, 101]⟩ : ByteArray)) := HR.out.cell 0 rfl 5 rfl; have hc7_go_6 : w11.cell? ⟨go, 6, none⟩ = some (.int .i64 0) := HR.out.cell 0 rfl 6 rfl; have hc7_go_7 : w11.cell? ⟨go, 7, none⟩ = some (.slice none 0 0) := HR.out.cell 0 rfl 7 rfl; have hc7_go_8 : w11.cell? ⟨go, 8, none⟩ = some (.string file) := HR.out.cell 0 rfl 8 rfl)
    | (go_at_call 63; with_reducible refine (H5.out w11 A c (Kd.C_below HC.out HR.out.bel) HCC.out).mono ?_; rintro e w12 ⟨A8, c8, B8, d8, rfl, ho, hb⟩; have q_ := Aside0.mk (HR.out.push _ hb ho); clear HR; have HR := q_; clear q_; clear hb ho; clear hc7_go_0 hc7_go_1 hc7_go_2 hc7_go_3 hc7_go_4 hc7_go_5 hc7_go_6 hc7_go_7 hc7_go_8; have hc8_gr_0 : w12.cell? ⟨gr, 0, none⟩ = some (.int .i64 0) := HR.out.cell 2 rfl 0 rfl; have hc8_gr_1 : w12.cell? ⟨gr, 1, none⟩ = some (.string (⟨#[]⟩ : ByteArray)) := HR.out.cell 2 rfl 1 rfl; have hc8_gr_2 : w12.cell? ⟨gr, 2, none⟩ = some (.int .i64 0) := HR.out.cell 2 rfl 2 rfl; have hc8_gr_3 : w12.cell? ⟨gr, 3, none⟩ = some (.slice none 0 0) := HR.out.cell 2 rfl 3 rfl; have hc8_gr_4 : w12.cell? ⟨gr, 4, none⟩ = some (.int .i64 0) := HR.out.cell 2 rfl 4 rfl; have hc8_gr_5 : w12.cell? ⟨gr, 5, none⟩ = some (.string (⟨#[]⟩ : ByteArray)) := HR.out.cell 2 rfl 5 rfl; have hc8_gr_6 : w12.cell? ⟨gr, 6, none⟩ = some (.int .i64 0) := HR.out.cell 2 rfl 6 rfl; have hc8_gr_7 : w12.cell? ⟨gr, 7, none⟩ = some (.slice none 0 0) := HR.out.cell 2 rfl 7 rfl; have hc8_gr_8 : w12.cell? ⟨gr, 8, none⟩ = some (.string (⟨#[]⟩ : ByteArray)) := HR.out.cell 2 rfl 8 rfl; have fc8_gr_0 := HR.out.free 2 rfl 0; have fc8_gr_1 := HR.out.free 2 rfl 1; have fc8_gr_2 := HR.out.free 2 rfl 2; have fc8_gr_3 := HR.out.free 2 rfl 3; have fc8_gr_4 := HR.out.free 2 rfl 4; have fc8_gr_5 := HR.out.free 2 rfl 5; have fc8_gr_6 := HR.out.free 2 rfl 6; have fc8_gr_7 := HR.out.free 2 rfl 7; have fc8_gr_8 := HR.out.free 2 rfl 8)
    | ((with_reducible refine gate_store (t := 48) (p := 4) rfl ?_); refine store_event (t := 48) (p := 4) (v := ?vo_2) (w1 := w12.setCells gr 0 [.int .i64 t.f0, .string t.f1, .int .i64 t.f2, .slice A8 t.f3.length c8, .int .i64 2, .string (⟨#[116, 114, 117, 101]⟩ : ByteArray), .int .i64 0, .slice B8 0 d8, .string file]) ?hgs_2 ?hos_2 ?hns_2 ?hrs_2 ?_; (case hos_2 => rfl); (case hgs_2 => rfl); (case hns_2 => rfl); (case hrs_2 => first | (go_simp; done) | (go_simp; rfl)); intro w13 hw; have q_ := Aside0.mk (hw ▸ HR.out.store 2 rfl [.int .i64 t.f0, .string t.f1, .int .i64 t.f2, .slice A8 t.f3.length c8, .int .i64 2, .string (⟨#[116, 114, 117, 101]⟩ : ByteArray), .int .i64 0, .slice B8 0 d8, .string file] rfl); clear HR; have HR := q_; clear q_; clear hw; clear hc8_gr_0 hc8_gr_1 hc8_gr_2 hc8_gr_3 hc8_gr_4 hc8_gr_5 hc8_gr_6 hc8_gr_7 hc8_gr_8 fc8_gr_0 fc8_gr_1 fc8_gr_2 fc8_gr_3 fc8_gr_4 fc8_gr_5 fc8_gr_6 fc8_gr_7 fc8_gr_8))
   refine bodyPost_ret (results_ct rfl _ _ gr 48 #[.int .i64 t.f0,.string t.f1,.int .i64 t.f2,.slice A8 t.f3.length c8,.int .i64 2,.string (⟨#[116,114,117,101]⟩ : ByteArray),.int .i64 0,.slice B8 0 d8,.string file] (0,0) _ rfl (HR.out.has 2 rfl).2 Tryd.underlying48 rfl (by kernel_rfl)) rfl ?_
   exact (show MadeCB (⟨t,(⟨2,(⟨#[116,114,117,101]⟩ : ByteArray),0,[]⟩ : S29),file⟩ : S48) true w _ _ from ⟨A8,c8,B8,d8,rfl,As.mono _ (fun k hk => hk.elim False.elim id) (HR.out.one 0 rfl),HR.out.bel⟩)
  ·skip
   go_wp2_with (first
    | (go_at_call 61; with_reducible refine (H2.out w8 HR.out.bel).mono ?_; rintro e w9 ⟨rfl, hb⟩; have q_ := Aside0.mk (HR.out.step hb); clear HR; have HR := q_; clear q_; clear hb; clear hc4_ga_0 hc4_ga_1 hc4_ga_2 hc4_ga_3; have hc5_go_0 : w9.cell? ⟨go, 0, none⟩ = some (.int .i64 t.f0) := HR.out.cell 0 rfl 0 rfl; have hc5_go_1 : w9.cell? ⟨go, 1, none⟩ = some (.string t.f1) := HR.out.cell 0 rfl 1 rfl; have hc5_go_2 : w9.cell? ⟨go, 2, none⟩ = some (.int .i64 t.f2) := HR.out.cell 0 rfl 2 rfl; have hc5_go_3 : w9.cell? ⟨go, 3, none⟩ = some (.slice A t.f3.length c) := HR.out.cell 0 rfl 3 rfl; have hc5_go_4 : w9.cell? ⟨go, 4, none⟩ = some (.int .i64 2) := HR.out.cell 0 rfl 4 rfl; have hc5_go_5 : w9.cell? ⟨go, 5, none⟩ = some (.string (⟨#[116, 114, 117, 101]⟩ : ByteArray)) := HR.out.cell 0 rfl 5 rfl; have hc5_go_6 : w9.cell? ⟨go, 6, none⟩ = some (.int .i64 0) := HR.out.cell 0 rfl 6 rfl; have hc5_go_7 : w9.cell? ⟨go, 7, none⟩ = some (.slice none 0 0) := HR.out.cell 0 rfl 7 rfl; have hc5_go_8 : w9.cell? ⟨go, 8, none⟩ = some (.string file) := HR.out.cell 0 rfl 8 rfl)
    | (go_at_call 57; with_reducible refine (H3.out w9 A c HR.out.bel (Kd.C_below HC.out HR.out.bel) HCC.out).mono ?_; rintro e w10 ⟨rfl, hb⟩; have q_ := Aside0.mk (HR.out.step hb); clear HR; have HR := q_; clear q_; clear hb; clear hc5_go_0 hc5_go_1 hc5_go_2 hc5_go_3 hc5_go_4 hc5_go_5 hc5_go_6 hc5_go_7 hc5_go_8; have hc6_go_0 : w10.cell? ⟨go, 0, none⟩ = some (.int .i64 t.f0) := HR.out.cell 0 rfl 0 rfl; have hc6_go_1 : w10.cell? ⟨go, 1, none⟩ = some (.string t.f1) := HR.out.cell 0 rfl 1 rfl; have hc6_go_2 : w10.cell? ⟨go, 2, none⟩ = some (.int .i64 t.f2) := HR.out.cell 0 rfl 2 rfl; have hc6_go_3 : w10.cell? ⟨go, 3, none⟩ = some (.slice A t.f3.length c) := HR.out.cell 0 rfl 3 rfl; have hc6_go_4 : w10.cell? ⟨go, 4, none⟩ = some (.int .i64 2) := HR.out.cell 0 rfl 4 rfl; have hc6_go_5 : w10.cell? ⟨go, 5, none⟩ = some (.string (⟨#[116, 114, 117, 101]⟩ : ByteArray)) := HR.out.cell 0 rfl 5 rfl; have hc6_go_6 : w10.cell? ⟨go, 6, none⟩ = some (.int .i64 0) := HR.out.cell 0 rfl 6 rfl; have hc6_go_7 : w10.cell? ⟨go, 7, none⟩ = some (.slice none 0 0) := HR.out.cell 0 rfl 7 rfl; have hc6_go_8 : w10.cell? ⟨go, 8, none⟩ = some (.string file) := HR.out.cell 0 rfl 8 rfl)
    | (go_at_call 56; with_reducible refine (H4.out w10).mono ?_; rintro e w11 ⟨rfl, hb⟩; have q_ := Aside0.mk (HR.out.step hb); clear HR; have HR := q_; clear q_; clear hb; clear hc6_go_0 hc6_go_1 hc6_go_2 hc6_go_3 hc6_go_4 hc6_go_5 hc6_go_6 hc6_go_7 hc6_go_8; have hc7_gr_0 : w11.cell? ⟨gr, 0, none⟩ = some (.int .i64 0) := HR.out.cell 1 rfl 0 rfl; have hc7_gr_1 : w11.cell? ⟨gr, 1, none⟩ = some (.string (⟨#[]⟩ : ByteArray)) := HR.out.cell 1 rfl 1 rfl; have hc7_gr_2 : w11.cell? ⟨gr, 2, none⟩ = some (.int .i64 0) := HR.out.cell 1 rfl 2 rfl; have hc7_gr_3 : w11.cell? ⟨gr, 3, none⟩ = some (.slice none 0 0) := HR.out.cell 1 rfl 3 rfl; have hc7_gr_4 : w11.cell? ⟨gr, 4, none⟩ = some (.int .i64 0) := HR.out.cell 1 rfl 4 rfl; have hc7_gr_5 : w11.cell? ⟨gr, 5, none⟩ = some (.string (⟨#[]⟩ : ByteArray)) := HR.out.cell 1 rfl 5 rfl; have hc7_gr_6 : w11.cell? ⟨gr, 6, none⟩ = some (.int .i64 0) := HR.out.cell 1 rfl 6 rfl; have hc7_gr_7 : w11.cell? ⟨gr, 7, none⟩ = some (.slice none 0 0) := HR.out.cell 1 rfl 7 rfl; have hc7_gr_8 : w11.cell? ⟨gr, 8, none⟩ = some (.string (⟨#[]⟩ : ByteArray)) := HR.out.cell 1 rfl 8 rfl; have fc7_gr_0 := HR.out.free 1 rfl 0; have fc7_gr_1 := HR.out.free 1 rfl 1; have fc7_gr_2 := HR.out.free 1 rfl 2; have fc7_gr_3 := HR.out.free 1 rfl 3; have fc7_gr_4 := HR.out.free 1 rfl 4; have fc7_gr_5 := HR.out.free 1 rfl 5; have fc7_gr_6 := HR.out.free 1 rfl 6; have fc7_gr_7 := HR.out.free 1 rfl 7; have fc7_gr_8 := HR.out.free 1 rfl 8)
    | ((with_reducible refine gate_store (t := 48) (p := 4) rfl ?_); refine store_event (t := 48) (p := 4) (v := ?vo_3) (w1 := w11.setCells gr 0 [.int .i64 0, .string (⟨#[]⟩ : ByteArray), .int .i64 0, .slice none 0 0, .int .i64 0, .string (⟨#[]⟩ : ByteArray), .int .i64 0, .slice none 0 0, .string (⟨#[]⟩ : ByteArray)]) ?hgs_3 ?hos_3 ?hns_3 ?hrs_3 ?_; (case hos_3 => rfl); (case hgs_3 => rfl); (case hns_3 => rfl); (case hrs_3 => first | (go_simp; done) | (go_simp; rfl)); intro w12 hw; have q_ := Aside0.mk (hw ▸ HR.out.store 1 rfl [.int .i64 0, .string (⟨#[]⟩ : ByteArray), .int .i64 0, .slice none 0 0, .int .i64 0, .string (⟨#[]⟩ : ByteArray), .int .i64 0, .slice none 0 0, .string (⟨#[]⟩ : ByteArray)] rfl); clear HR; have HR := q_; clear q_; clear hw; clear hc7_gr_0 hc7_gr_1 hc7_gr_2 hc7_gr_3 hc7_gr_4 hc7_gr_5 hc7_gr_6 hc7_gr_7 hc7_gr_8 fc7_gr_0 fc7_gr_1 fc7_gr_2 fc7_gr_3 fc7_gr_4 fc7_gr_5 fc7_gr_6 fc7_gr_7 fc7_gr_8))
   refine bodyPost_ret (results_ct rfl _ _ gr 48 #[.int .i64 0,.string (⟨#[]⟩ : ByteArray),.int .i64 0,.slice none 0 0,.int .i64 0,.string (⟨#[]⟩ : ByteArray),.int .i64 0,.slice none 0 0,.string (⟨#[]⟩ : ByteArray)] (0,0) _ rfl (HR.out.has 1 rfl).2 Tryd.underlying48 rfl (by kernel_rfl)) rfl ?_
   exact (show MadeCB zC false w _ _ from ⟨none,0,none,0,rfl,⟨fun _ => True,Kd.S_nil _ _ _ _ _,Kd.S_nil _ _ _ _ _⟩,HR.out.bel⟩)
 ·skip
  go_wp2_with (first
   | (go_at_call 61; with_reducible refine (H2.out w8 HR.out.bel).mono ?_; rintro e w9 ⟨rfl, hb⟩; have q_ := Aside0.mk (HR.out.step hb); clear HR; have HR := q_; clear q_; clear hb; clear hc4_ga_0 hc4_ga_1 hc4_ga_2 hc4_ga_3; have hc5_go_0 : w9.cell? ⟨go, 0, none⟩ = some (.int .i64 t.f0) := HR.out.cell 0 rfl 0 rfl; have hc5_go_1 : w9.cell? ⟨go, 1, none⟩ = some (.string t.f1) := HR.out.cell 0 rfl 1 rfl; have hc5_go_2 : w9.cell? ⟨go, 2, none⟩ = some (.int .i64 t.f2) := HR.out.cell 0 rfl 2 rfl; have hc5_go_3 : w9.cell? ⟨go, 3, none⟩ = some (.slice A t.f3.length c) := HR.out.cell 0 rfl 3 rfl; have hc5_go_4 : w9.cell? ⟨go, 4, none⟩ = some (.int .i64 2) := HR.out.cell 0 rfl 4 rfl; have hc5_go_5 : w9.cell? ⟨go, 5, none⟩ = some (.string (⟨#[116, 114, 117, 101]⟩ : ByteArray)) := HR.out.cell 0 rfl 5 rfl; have hc5_go_6 : w9.cell? ⟨go, 6, none⟩ = some (.int .i64 0) := HR.out.cell 0 rfl 6 rfl; have hc5_go_7 : w9.cell? ⟨go, 7, none⟩ = some (.slice none 0 0) := HR.out.cell 0 rfl 7 rfl; have hc5_go_8 : w9.cell? ⟨go, 8, none⟩ = some (.string file) := HR.out.cell 0 rfl 8 rfl)
   | (go_at_call 57; with_reducible refine (H3.out w9 A c HR.out.bel (Kd.C_below HC.out HR.out.bel) HCC.out).mono ?_; rintro e w10 ⟨rfl, hb⟩; have q_ := Aside0.mk (HR.out.step hb); clear HR; have HR := q_; clear q_; clear hb; clear hc5_go_0 hc5_go_1 hc5_go_2 hc5_go_3 hc5_go_4 hc5_go_5 hc5_go_6 hc5_go_7 hc5_go_8; have hc6_gr_0 : w10.cell? ⟨gr, 0, none⟩ = some (.int .i64 0) := HR.out.cell 1 rfl 0 rfl; have hc6_gr_1 : w10.cell? ⟨gr, 1, none⟩ = some (.string (⟨#[]⟩ : ByteArray)) := HR.out.cell 1 rfl 1 rfl; have hc6_gr_2 : w10.cell? ⟨gr, 2, none⟩ = some (.int .i64 0) := HR.out.cell 1 rfl 2 rfl; have hc6_gr_3 : w10.cell? ⟨gr, 3, none⟩ = some (.slice none 0 0) := HR.out.cell 1 rfl 3 rfl; have hc6_gr_4 : w10.cell? ⟨gr, 4, none⟩ = some (.int .i64 0) := HR.out.cell 1 rfl 4 rfl; have hc6_gr_5 : w10.cell? ⟨gr, 5, none⟩ = some (.string (⟨#[]⟩ : ByteArray)) := HR.out.cell 1 rfl 5 rfl; have hc6_gr_6 : w10.cell? ⟨gr, 6, none⟩ = some (.int .i64 0) := HR.out.cell 1 rfl 6 rfl; have hc6_gr_7 : w10.cell? ⟨gr, 7, none⟩ = some (.slice none 0 0) := HR.out.cell 1 rfl 7 rfl; have hc6_gr_8 : w10.cell? ⟨gr, 8, none⟩ = some (.string (⟨#[]⟩ : ByteArray)) := HR.out.cell 1 rfl 8 rfl; have fc6_gr_0 := HR.out.free 1 rfl 0; have fc6_gr_1 := HR.out.free 1 rfl 1; have fc6_gr_2 := HR.out.free 1 rfl 2; have fc6_gr_3 := HR.out.free 1 rfl 3; have fc6_gr_4 := HR.out.free 1 rfl 4; have fc6_gr_5 := HR.out.free 1 rfl 5; have fc6_gr_6 := HR.out.free 1 rfl 6; have fc6_gr_7 := HR.out.free 1 rfl 7; have fc6_gr_8 := HR.out.free 1 rfl 8)
   | ((with_reducible refine gate_store (t := 48) (p := 4) rfl ?_); refine store_event (t := 48) (p := 4) (v := ?vo_4) (w1 := w10.setCells gr 0 [.int .i64 0, .string (⟨#[]⟩ : ByteArray), .int .i64 0, .slice none 0 0, .int .i64 0, .string (⟨#[]⟩ : ByteArray), .int .i64 0, .slice none 0 0, .string (⟨#[]⟩ : ByteArray)]) ?hgs_4 ?hos_4 ?hns_4 ?hrs_4 ?_; (case hos_4 => rfl); (case hgs_4 => rfl); (case hns_4 => rfl); (case hrs_4 => first | (go_simp; done) | (go_simp; rfl)); intro w11 hw; have q_ := Aside0.mk (hw ▸ HR.out.store 1 rfl [.int .i64 0, .string (⟨#[]⟩ : ByteArray), .int .i64 0, .slice none 0 0, .int .i64 0, .string (⟨#[]⟩ : ByteArray), .int .i64 0, .slice none 0 0, .string (⟨#[]⟩ : ByteArray)] rfl); clear HR; have HR := q_; clear q_; clear hw; clear hc6_gr_0 hc6_gr_1 hc6_gr_2 hc6_gr_3 hc6_gr_4 hc6_gr_5 hc6_gr_6 hc6_gr_7 hc6_gr_8 fc6_gr_0 fc6_gr_1 fc6_gr_2 fc6_gr_3 fc6_gr_4 fc6_gr_5 fc6_gr_6 fc6_gr_7 fc6_gr_8))
  refine bodyPost_ret (results_ct rfl _ _ gr 48 #[.int .i64 0,.string (⟨#[]⟩ : ByteArray),.int .i64 0,.slice none 0 0,.int .i64 0,.string (⟨#[]⟩ : ByteArray),.int .i64 0,.slice none 0 0,.string (⟨#[]⟩ : ByteArray)] (0,0) _ rfl (HR.out.has 1 rfl).2 Tryd.underlying48 rfl (by kernel_rfl)) rfl ?_
  exact (show MadeCB zC false w _ _ from ⟨none,0,none,0,rfl,⟨fun _ => True,Kd.S_nil _ _ _ _ _,Kd.S_nil _ _ _ _ _⟩,HR.out.bel⟩)
set_option maxHeartbeats 16000000 in
set_option maxRecDepth 100000 in
theorem impl_clo_B (a0 : Int) (a1 : ByteArray) (a2 : Int) (x y : S29) (file : ByteArray) (ad : Addr) (c : Nat) (w : World) (hC : Kd.C k29 w (some ad) 2 [x,y]) (hc : 2 ≤ c)
  (h1 : ∀ W,Below w.heap.size w W → Calls Tryd.prog 56 #[.agg #[.int .i64 a0,.string a1,.int .i64 a2,.slice (some ad) 2 c]] W fun e W' => e = .returned (.bool true) ∧ Below W.heap.size W W') (h2 : ∀ W,Below w.heap.size w W → Calls Tryd.prog 61 #[.agg #[.int .i64 a0,.string a1,.int .i64 a2,.slice (some ad) 2 c],.string (⟨#[58,45]⟩ : ByteArray),.int .i64 2] W fun e W' => e = .returned (.bool true) ∧ Below W.heap.size W W') (hk : y.f0 ≠ 1) (bh : Bool) (h3 : ∀ W (A : Option Addr) (c : Nat),Below w.heap.size w W → Kd.C k29 W A x.f3.length x.f3 → x.f3.length ≤ c → Calls Tryd.prog 57 #[.agg #[.int .i64 x.f0,.string x.f1,.int .i64 x.f2,.slice A x.f3.length c]] W fun e W' => e = .returned (.bool bh) ∧ Below W.heap.size W W') (bb : Bool) (h4 : ∀ W (B : Option Addr) (d : Nat),Kd.C k29 W B y.f3.length y.f3 → y.f3.length ≤ d → Calls Tryd.prog 56 #[.agg #[.int .i64 y.f0,.string y.f1,.int .i64 y.f2,.slice B y.f3.length d]] W fun e W' => e = .returned (.bool bb) ∧ Below W.heap.size W W') (h5 : ∀ W (A : Option Addr) (c : Nat) (B : Option Addr) (d : Nat),Kd.C k29 W A x.f3.length x.f3 → x.f3.length ≤ c → Kd.C k29 W B y.f3.length y.f3 → y.f3.length ≤ d → Calls Tryd.prog 63 #[.agg #[.int .i64 x.f0,.string x.f1,.int .i64 x.f2,.slice A x.f3.length c,.int .i64 y.f0,.string y.f1,.int .i64 y.f2,.slice B y.f3.length d,.string file]] W fun e W' => ∃ A c B d,e = .returned (.agg #[.int .i64 x.f0,.string x.f1,.int .i64 x.f2,.slice A x.f3.length c,.int .i64 y.f0,.string y.f1,.int .i64 y.f2,.slice B y.f3.length d,.string file]) ∧ (ac (⟨x,y,file⟩ : S48) (.slice A x.f3.length c) (.slice B y.f3.length d)).M W.heap.size W' (fun k => W.heap.size ≤ k) ∧ Below W.heap.size W W') : Calls Tryd.prog 23 #[.agg #[.int .i64 a0,.string a1,.int .i64 a2,.slice (some ad) 2 c],.string file] w fun e w' => MadeCB (if (bh && bb) = true then (⟨x,y,file⟩ : S48) else zC) (bh && bb) w e w':=by
 have HC:=Aside0.mk hC
 have HCC:=Aside0.mk hc
 have H1:=Aside0.mk h1
 have H2:=Aside0.mk h2
 have H3:=Aside0.mk h3
 have H4:=Aside0.mk h4
 have H5:=Aside0.mk h5
 have HR:=Aside0.mk (run_law w)
 have cv0 : (y.f0 == 1) = false:=beq_eq_false_iff_ne.2 hk
 have cv1 : decide (y.f0 = 1) = false:=decide_eq_false hk
 obtain ⟨ad1,A3,c3,e1,hx0,hx1,hx2,hx3,hl3,hi3⟩:=at_T29 hC 0 (by decide) (by decide)
 obtain ⟨ad2,A7,c7,e2,hy0,hy1,hy2,hy3,hl7,hi7⟩:=at_T29 hC 1 (by decide) (by decide)
 injection e1 with e1
 injection e2 with e2
 rw [← e1] at hx0 hx1 hx2 hx3
 rw [← e2] at hy0 hy1 hy2 hy3
 clear e1 e2 ad1 ad2
 rw [show rd_T29 [x,y] 0 = x from rfl] at hx0 hx1 hx2 hx3 hl3 hi3
 rw [show rd_T29 [x,y] 1 = y from rfl] at hy0 hy1 hy2 hy3 hl7 hi7
 have E0 : ad.add ((0 : Int).toNat * 4) = ad:=ad_zero ad
 have E1 : ad.add ((1 : Int).toNat * 4) = ⟨ad.block,ad.off + 4,none⟩:=ad_four ad
 rw [E0] at hx0 hx1 hx2 hx3
 rw [E1] at hy0 hy1 hy2 hy3
 clear E0 E1
 replace hy1 : w.cell? ⟨ad.block,ad.off + 5,none⟩ = _:=hy1
 replace hy2 : w.cell? ⟨ad.block,ad.off + 6,none⟩ = _:=hy2
 replace hy3 : w.cell? ⟨ad.block,ad.off + 7,none⟩ = _:=hy3
 have HL3:=Aside0.mk hl3
 have HI3:=Aside0.mk hi3
 have HL7:=Aside0.mk hl7
 have HI7:=Aside0.mk hi7
 have HX0:=Aside0.mk hx0
 have HX1:=Aside0.mk hx1
 have HX2:=Aside0.mk hx2
 have HX3:=Aside0.mk hx3
 have HY0:=Aside0.mk hy0
 have HY1:=Aside0.mk hy1
 have HY2:=Aside0.mk hy2
 have HY3:=Aside0.mk hy3
 clear hl3 hi3 hl7 hi7 hx0 hx1 hx2 hx3 hy0 hy1 hy2 hy3
 clear hC hc h1 h2 h3 h4 h5 hk
 go_enter Tryd.func23,Tryd.ntmps23
 go_wp2_with (first
  | ((with_reducible refine gate_dst (N := 2) rfl ?_); refine box_event ?hg2 (N := 2) ?hd2 (cs := #[.int .i64 a0, .string a1, .int .i64 a2, .slice (some ad) 2 c]) (t := 29) ?hr2 ?_; (case hd2 => rfl); (case hg2 => rfl); (case hr2 => first | (go_simp; done) | (go_simp; rfl)); intro ga hg w1 hbox hb; have q_ := Aside0.mk (HR.out.box hg hb hbox); clear HR; have HR := q_; clear q_; clear hg hbox hb)
  | ((with_reducible refine gate_dst (N := 4) rfl ?_); refine box_event ?hg4 (N := 4) ?hd4 (cs := #[.int .i64 0, .string (⟨#[]⟩ : ByteArray), .int .i64 0, .slice none 0 0, .int .i64 0, .string (⟨#[]⟩ : ByteArray), .int .i64 0, .slice none 0 0, .string (⟨#[]⟩ : ByteArray)]) (t := 48) ?hr4 ?_; (case hd4 => rfl); (case hg4 => rfl); (case hr4 => first | (go_simp; done) | (go_simp; rfl)); intro gr hg w2 hbox hb; have q_ := Aside0.mk (HR.out.box hg hb hbox); clear HR; have HR := q_; clear q_; clear hg hbox hb; have hc2_ga_0 : w2.cell? ⟨ga, 0, none⟩ = some (.int .i64 a0) := HR.out.cell 1 rfl 0 rfl; have hc2_ga_1 : w2.cell? ⟨ga, 1, none⟩ = some (.string a1) := HR.out.cell 1 rfl 1 rfl; have hc2_ga_2 : w2.cell? ⟨ga, 2, none⟩ = some (.int .i64 a2) := HR.out.cell 1 rfl 2 rfl; have hc2_ga_3 : w2.cell? ⟨ga, 3, none⟩ = some (.slice (some ad) 2 c) := HR.out.cell 1 rfl 3 rfl)
  | (go_at_call 56; with_reducible refine (H1.out w2 HR.out.bel).mono ?_; rintro e w3 ⟨rfl, hb⟩; have q_ := Aside0.mk (HR.out.step hb); clear HR; have HR := q_; clear q_; clear hb; clear hc2_ga_0 hc2_ga_1 hc2_ga_2 hc2_ga_3))
 have q_:=Aside0.mk (HR.out.drew)
 clear HR
 have HR:=q_
 clear q_
 refine start_ (n:=6) (S:=fun w' => w'.cell? ⟨ga,0,none⟩ = some (.int .i64 a0) ∧ w'.cell? ⟨ga,1,none⟩ = some (.string a1) ∧ w'.cell? ⟨ga,2,none⟩ = some (.int .i64 a2) ∧ w'.cell? ⟨ga,3,none⟩ = some (.slice (some ad) 2 c)) (ds:=[5]) #[false,false,false,false,false,false] (by kernel_rfl) rfl rfl ⟨HR.out.cell 1 rfl 0 rfl,HR.out.cell 1 rfl 1 rfl,HR.out.cell 1 rfl 2 rfl,HR.out.cell 1 rfl 3 rfl⟩ (fun hHeld => ?_);refine with_tabW implclo3_tab implclo3_bits (fun HT_ HW_ => ?_)
 generalize w3.drew = w4 at HR hHeld ⊢
 refine take_ (i:=0) (N:=some 11) (v:=?_) (a':=?_) #[true,false,false,false,false,false] rfl rfl (take_ofW HT_.out HW_.out (by kernel_rfl)) (fun _ _ _ h => h) (Or.inl ⟨by rfl,?_⟩) hHeld ?_ ?_
 rotate_left
 ·rintro w' ⟨s0,s1,s2,s3⟩
  go_simp
  with_reducible rfl
 rotate_left
 ·simp only [Act.put,List.setIfInBounds_toArray,List.set_cons_zero,List.set_cons_succ,i64_w,i32_w]
  rfl
 refine pure_ (i:=2) (N:=some 13) (v:=?_) (a':=?_) #[true,false,true,false,false,false] rfl rfl (any_of HT_.out (by kernel_rfl)) (fun _ _ _ h => h) (Or.inl ⟨by rfl,?_⟩) ?_ ?_
 rotate_left
 ·intro w'
  go_simp
  with_reducible rfl
 rotate_left
 ·simp only [Act.put,List.setIfInBounds_toArray,List.set_cons_zero,List.set_cons_succ,i64_w,i32_w]
  rfl
 refine join_ (σ:=Nat) 1 #[true,true,true,true,true,false] (fun go => [(12,.agg #[.int .i64 2,.string (⟨#[116,114,117,101]⟩ : ByteArray),.int .i64 0,.slice none 0 0]),(14,.agg #[.int .i64 a0,.string a1,.int .i64 a2,.slice (some ad) 2 c,.int .i64 2,.string (⟨#[116,114,117,101]⟩ : ByteArray),.int .i64 0,.slice none 0 0,.string file]),(6,.pointer (some ⟨go,0,none⟩))]) (fun go w' => Run w w (fun _ => False) [As.box go 48 #[.int .i64 0,.string (⟨#[]⟩ : ByteArray),.int .i64 0,.slice none 0 0,.int .i64 0,.string (⟨#[]⟩ : ByteArray),.int .i64 0,.slice none 0 0,.string (⟨#[]⟩ : ByteArray)],As.box gr 48 #[.int .i64 0,.string (⟨#[]⟩ : ByteArray),.int .i64 0,.slice none 0 0,.int .i64 0,.string (⟨#[]⟩ : ByteArray),.int .i64 0,.slice none 0 0,.string (⟨#[]⟩ : ByteArray)],As.box ga 29 #[.int .i64 a0,.string a1,.int .i64 a2,.slice (some ad) 2 c]] w') ?_ ?_
 rotate_left
 ·intro hCont
  refine two_ (i:=1) (j:=4) (Ni:=some 12) (Nj:=some 6) #[true,true,true,false,false,false] #[true,false,true,false,true,false] rfl rfl rfl rfl (two_of HT_.out (by kernel_rfl)) (by decide) (by decide) (fun K hK => ?_) (fun K hK => ?_)
  ·skip
   refine goes_ Tryd.func60 (by kernel_rfl) rfl #[.string (⟨#[116,114,117,101]⟩ : ByteArray)] (by rfl) rfl rfl (by (try simp only [List.map_toArray,List.map_cons,List.map_nil]);first|done|rfl) ?_
   refine (atom_calls (⟨#[116,114,117,101]⟩ : ByteArray) w4).mono ?_
   rintro e w5 ⟨rfl,hb⟩
   refine ⟨_,rfl,?_⟩
   have q_:=Aside0.mk (HR.out.step hb)
   clear HR
   have HR:=q_
   clear q_
   clear hb
   refine hK.out _ _ ⟨HR.out.cell 1 rfl 0 rfl,HR.out.cell 1 rfl 1 rfl,HR.out.cell 1 rfl 2 rfl,HR.out.cell 1 rfl 3 rfl⟩ (fun hHeld => ?_)
   clear hK K
   refine norm_ (a':=?_) ?_ ?_
   rotate_left
   ·show Act.put _ (some 12) _ = _
    simp only [Act.put,List.setIfInBounds_toArray,List.set_cons_zero,List.set_cons_succ,i64_w,i32_w]
    rfl
   refine pure_ (i:=3) (N:=some 14) (v:=?_) (a':=?_) #[true,true,true,true,false,false] rfl rfl (any_of HT_.out (by kernel_rfl)) (fun _ _ _ h => h) (Or.inl ⟨by rfl,?_⟩) ?_ ?_
   rotate_left
   ·intro w'
    go_simp
    with_reducible rfl
   rotate_left
   ·simp only [Act.put,List.setIfInBounds_toArray,List.set_cons_zero,List.set_cons_succ,i64_w,i32_w]
    rfl
   refine one_ (i:=4) (N:=some 6) #[true,true,true,true,true,false] rfl rfl (one_of HT_.out (by kernel_rfl)) (by decide) (fun K hK => ?_)
   refine box_step (by rfl) (N:=6) rfl (cs:=#[.int .i64 0,.string (⟨#[]⟩ : ByteArray),.int .i64 0,.slice none 0 0,.int .i64 0,.string (⟨#[]⟩ : ByteArray),.int .i64 0,.slice none 0 0,.string (⟨#[]⟩ : ByteArray)]) (t:=48) ?hra ?_
   (case hra => first|(go_simp;done)|(go_simp;rfl))
   intro go hg w6 hbox hb
   have q_:=Aside0.mk (HR.out.box hg hb hbox)
   clear HR
   have HR:=q_
   clear q_
   clear hg hbox hb
   refine hK.out _ _ ⟨HR.out.cell 2 rfl 0 rfl,HR.out.cell 2 rfl 1 rfl,HR.out.cell 2 rfl 2 rfl,HR.out.cell 2 rfl 3 rfl⟩ (fun hHeld => ?_)
   clear hK K
   refine norm_ (a':=?_) ?_ ?_
   rotate_left
   ·show Act.put _ (some 6) _ = _
    simp only [Act.put,List.setIfInBounds_toArray,List.set_cons_zero,List.set_cons_succ,i64_w,i32_w]
    rfl
   exact norm_ (by simp only [putAll,Act.put,List.setIfInBounds_toArray,List.set_cons_zero,List.set_cons_succ]) (hCont go _ HR.out)
  ·skip
   refine box_step (by rfl) (N:=6) rfl (cs:=#[.int .i64 0,.string (⟨#[]⟩ : ByteArray),.int .i64 0,.slice none 0 0,.int .i64 0,.string (⟨#[]⟩ : ByteArray),.int .i64 0,.slice none 0 0,.string (⟨#[]⟩ : ByteArray)]) (t:=48) ?hra ?_
   (case hra => first|(go_simp;done)|(go_simp;rfl))
   intro go hg w5 hbox hb
   have q_:=Aside0.mk (HR.out.box hg hb hbox)
   clear HR
   have HR:=q_
   clear q_
   clear hg hbox hb
   refine hK.out _ _ ⟨HR.out.cell 2 rfl 0 rfl,HR.out.cell 2 rfl 1 rfl,HR.out.cell 2 rfl 2 rfl,HR.out.cell 2 rfl 3 rfl⟩ (fun hHeld => ?_)
   clear hK K
   refine norm_ (a':=?_) ?_ ?_
   rotate_left
   ·show Act.put _ (some 6) _ = _
    simp only [Act.put,List.setIfInBounds_toArray,List.set_cons_zero,List.set_cons_succ,i64_w,i32_w]
    rfl
   refine one_ (i:=1) (N:=some 12) #[true,true,true,false,true,false] rfl rfl (one_of HT_.out (by kernel_rfl)) (by decide) (fun K hK => ?_)
   refine goes_ Tryd.func60 (by kernel_rfl) rfl #[.string (⟨#[116,114,117,101]⟩ : ByteArray)] (by rfl) rfl rfl (by (try simp only [List.map_toArray,List.map_cons,List.map_nil]);first|done|rfl) ?_
   refine (atom_calls (⟨#[116,114,117,101]⟩ : ByteArray) w5).mono ?_
   rintro e w6 ⟨rfl,hb⟩
   refine ⟨_,rfl,?_⟩
   have q_:=Aside0.mk (HR.out.step hb)
   clear HR
   have HR:=q_
   clear q_
   clear hb
   refine hK.out _ _ ⟨HR.out.cell 2 rfl 0 rfl,HR.out.cell 2 rfl 1 rfl,HR.out.cell 2 rfl 2 rfl,HR.out.cell 2 rfl 3 rfl⟩ (fun hHeld => ?_)
   clear hK K
   refine norm_ (a':=?_) ?_ ?_
   rotate_left
   ·show Act.put _ (some 12) _ = _
    simp only [Act.put,List.setIfInBounds_toArray,List.set_cons_zero,List.set_cons_succ,i64_w,i32_w]
    rfl
   refine pure_ (i:=3) (N:=some 14) (v:=?_) (a':=?_) #[true,true,true,true,true,false] rfl rfl (any_of HT_.out (by kernel_rfl)) (fun _ _ _ h => h) (Or.inl ⟨by rfl,?_⟩) ?_ ?_
   rotate_left
   ·intro w'
    go_simp
    with_reducible rfl
   rotate_left
   ·simp only [Act.put,List.setIfInBounds_toArray,List.set_cons_zero,List.set_cons_succ,i64_w,i32_w]
    rfl
   exact norm_ (by simp only [putAll,Act.put,List.setIfInBounds_toArray,List.set_cons_zero,List.set_cons_succ]) (hCont go _ HR.out)
 rintro go w7 hR_
 clear HR
 have HR:=Aside0.mk (show Run w w (fun _ => False) [As.box go 48 #[.int .i64 0,.string (⟨#[]⟩ : ByteArray),.int .i64 0,.slice none 0 0,.int .i64 0,.string (⟨#[]⟩ : ByteArray),.int .i64 0,.slice none 0 0,.string (⟨#[]⟩ : ByteArray)],As.box gr 48 #[.int .i64 0,.string (⟨#[]⟩ : ByteArray),.int .i64 0,.slice none 0 0,.int .i64 0,.string (⟨#[]⟩ : ByteArray),.int .i64 0,.slice none 0 0,.string (⟨#[]⟩ : ByteArray)],As.box ga 29 #[.int .i64 a0,.string a1,.int .i64 a2,.slice (some ad) 2 c]] w7 from hR_)
 clear hR_
 refine norm_ (a':=?_) ?_ ?_
 rotate_left
 ·simp only [putAll,Act.put,List.setIfInBounds_toArray,List.set_cons_zero,List.set_cons_succ]
  rfl
 refine last_ (i:=5) (N:=none) #[true,true,true,true,true,true] rfl rfl (one_of HT_.out (by kernel_rfl)) (by decide) (fun K hK => ?_)
 have hz0_ : w7.cell? ⟨go,0,none⟩ = some (.int .i64 0):=HR.out.cell 0 rfl 0 rfl
 have fz0_:=HR.out.free 0 rfl 0
 have hz1_ : w7.cell? ⟨go,1,none⟩ = some (.string (⟨#[]⟩ : ByteArray)):=HR.out.cell 0 rfl 1 rfl
 have fz1_:=HR.out.free 0 rfl 1
 have hz2_ : w7.cell? ⟨go,2,none⟩ = some (.int .i64 0):=HR.out.cell 0 rfl 2 rfl
 have fz2_:=HR.out.free 0 rfl 2
 have hz3_ : w7.cell? ⟨go,3,none⟩ = some (.slice none 0 0):=HR.out.cell 0 rfl 3 rfl
 have fz3_:=HR.out.free 0 rfl 3
 have hz4_ : w7.cell? ⟨go,4,none⟩ = some (.int .i64 0):=HR.out.cell 0 rfl 4 rfl
 have fz4_:=HR.out.free 0 rfl 4
 have hz5_ : w7.cell? ⟨go,5,none⟩ = some (.string (⟨#[]⟩ : ByteArray)):=HR.out.cell 0 rfl 5 rfl
 have fz5_:=HR.out.free 0 rfl 5
 have hz6_ : w7.cell? ⟨go,6,none⟩ = some (.int .i64 0):=HR.out.cell 0 rfl 6 rfl
 have fz6_:=HR.out.free 0 rfl 6
 have hz7_ : w7.cell? ⟨go,7,none⟩ = some (.slice none 0 0):=HR.out.cell 0 rfl 7 rfl
 have fz7_:=HR.out.free 0 rfl 7
 have hz8_ : w7.cell? ⟨go,8,none⟩ = some (.string (⟨#[]⟩ : ByteArray)):=HR.out.cell 0 rfl 8 rfl
 have fz8_:=HR.out.free 0 rfl 8
 refine skip_ (w1:=w7.setCells go 0 [.int .i64 a0,.string a1,.int .i64 a2,.slice (some ad) 2 c,.int .i64 2,.string (⟨#[116,114,117,101]⟩ : ByteArray),.int .i64 0,.slice none 0 0,.string file]) (by rfl) rfl ?_ ?_
 ·first|(go_simp;done)|(go_simp;rfl)
 refine hK.out _ _ ?_
 clear hK K hz0_ fz0_ hz1_ fz1_ hz2_ fz2_ hz3_ fz3_ hz4_ fz4_ hz5_ fz5_ hz6_ fz6_ hz7_ fz7_ hz8_ fz8_
 have q_:=Aside0.mk (HR.out.store 0 rfl [.int .i64 a0,.string a1,.int .i64 a2,.slice (some ad) 2 c,.int .i64 2,.string (⟨#[116,114,117,101]⟩ : ByteArray),.int .i64 0,.slice none 0 0,.string file] rfl)
 clear HR
 have HR:=q_
 clear q_
 generalize w7.setCells go 0 [.int .i64 a0,.string a1,.int .i64 a2,.slice (some ad) 2 c,.int .i64 2,.string (⟨#[116,114,117,101]⟩ : ByteArray),.int .i64 0,.slice none 0 0,.string file] = w8 at HR ⊢
 refine done_ (done_of HT_.out (by kernel_rfl)) ?_
 have hc4_ga_0 : w8.cell? ⟨ga,0,none⟩ = some (.int .i64 a0):=HR.out.cell 2 rfl 0 rfl
 have hc4_ga_1 : w8.cell? ⟨ga,1,none⟩ = some (.string a1):=HR.out.cell 2 rfl 1 rfl
 have hc4_ga_2 : w8.cell? ⟨ga,2,none⟩ = some (.int .i64 a2):=HR.out.cell 2 rfl 2 rfl
 have hc4_ga_3 : w8.cell? ⟨ga,3,none⟩ = some (.slice (some ad) 2 c):=HR.out.cell 2 rfl 3 rfl
 go_wp2_with (first
  | (go_at_call 61; with_reducible refine (H2.out w8 HR.out.bel).mono ?_; rintro e w9 ⟨rfl, hb⟩; have q_ := Aside0.mk (HR.out.step hb); clear HR; have HR := q_; clear q_; clear hb; clear hc4_ga_0 hc4_ga_1 hc4_ga_2 hc4_ga_3; have hc5_ga_0 : w9.cell? ⟨ga, 0, none⟩ = some (.int .i64 a0) := HR.out.cell 2 rfl 0 rfl; have hc5_ga_1 : w9.cell? ⟨ga, 1, none⟩ = some (.string a1) := HR.out.cell 2 rfl 1 rfl; have hc5_ga_2 : w9.cell? ⟨ga, 2, none⟩ = some (.int .i64 a2) := HR.out.cell 2 rfl 2 rfl; have hc5_ga_3 : w9.cell? ⟨ga, 3, none⟩ = some (.slice (some ad) 2 c) := HR.out.cell 2 rfl 3 rfl))
 have q_:=Aside0.mk (HR.out.drew)
 clear HR
 have HR:=q_
 clear q_
 clear hc5_ga_0 hc5_ga_1 hc5_ga_2 hc5_ga_3
 refine start_ (n:=12) (S:=fun w' => w'.cell? ⟨ga,0,none⟩ = some (.int .i64 a0) ∧ w'.cell? ⟨ga,1,none⟩ = some (.string a1) ∧ w'.cell? ⟨ga,2,none⟩ = some (.int .i64 a2) ∧ w'.cell? ⟨ga,3,none⟩ = some (.slice (some ad) 2 c) ∧ w'.cell? ad = some (.int .i64 x.f0) ∧ w'.cell? ⟨ad.block,ad.off + 1,none⟩ = some (.string x.f1) ∧ w'.cell? ⟨ad.block,ad.off + 2,none⟩ = some (.int .i64 x.f2) ∧ w'.cell? ⟨ad.block,ad.off + 3,none⟩ = some (.slice A3 x.f3.length c3) ∧ w'.cell? ⟨ad.block,ad.off + 4,none⟩ = some (.int .i64 y.f0) ∧ w'.cell? ⟨ad.block,ad.off + 5,none⟩ = some (.string y.f1) ∧ w'.cell? ⟨ad.block,ad.off + 6,none⟩ = some (.int .i64 y.f2) ∧ w'.cell? ⟨ad.block,ad.off + 7,none⟩ = some (.slice A7 y.f3.length c7)) (ds:=[11]) #[false,false,false,false,false,false,false,false,false,false,false,false] (by kernel_rfl) rfl rfl ⟨HR.out.cell 2 rfl 0 rfl,HR.out.cell 2 rfl 1 rfl,HR.out.cell 2 rfl 2 rfl,HR.out.cell 2 rfl 3 rfl,(HR.out.bel.cell (World.block_lt_of_cell? w _ HX0.out)).trans HX0.out,(HR.out.bel.cell (World.block_lt_of_cell? w _ HX1.out)).trans HX1.out,(HR.out.bel.cell (World.block_lt_of_cell? w _ HX2.out)).trans HX2.out,(HR.out.bel.cell (World.block_lt_of_cell? w _ HX3.out)).trans HX3.out,(HR.out.bel.cell (World.block_lt_of_cell? w _ HY0.out)).trans HY0.out,(HR.out.bel.cell (World.block_lt_of_cell? w _ HY1.out)).trans HY1.out,(HR.out.bel.cell (World.block_lt_of_cell? w _ HY2.out)).trans HY2.out,(HR.out.bel.cell (World.block_lt_of_cell? w _ HY3.out)).trans HY3.out⟩ (fun hHeld => ?_);refine with_tabW implclo5_tab implclo5_bits (fun HT_ HW_ => ?_)
 generalize w9.drew = w10 at HR hHeld ⊢
 refine pure_ (i:=0) (N:=some 17) (v:=?_) (a':=?_) #[true,false,false,false,false,false,false,false,false,false,false,false] rfl rfl (any_of HT_.out (by kernel_rfl)) (fun _ _ _ h => h) (Or.inl ⟨by rfl,?_⟩) ?_ ?_
 rotate_left
 ·intro w'
  go_simp
  with_reducible rfl
 rotate_left
 ·simp only [Act.put,List.setIfInBounds_toArray,List.set_cons_zero,List.set_cons_succ,i64_w,i32_w]
  rfl
 refine take_ (i:=1) (N:=some 18) (v:=?_) (a':=?_) #[true,true,false,false,false,false,false,false,false,false,false,false] rfl rfl (take_ofW HT_.out HW_.out (by kernel_rfl)) (fun _ _ _ h => h) (Or.inl ⟨by rfl,?_⟩) hHeld ?_ ?_
 rotate_left
 ·rintro w' ⟨s0,s1,s2,s3,s4,s5,s6,s7,s8,s9,s10,s11⟩
  go_simp
  with_reducible rfl
 rotate_left
 ·simp only [Act.put,List.setIfInBounds_toArray,List.set_cons_zero,List.set_cons_succ,i64_w,i32_w]
  rfl
 refine pure_ (i:=2) (N:=some 19) (v:=?_) (a':=?_) #[true,true,true,false,false,false,false,false,false,false,false,false] rfl rfl (any_of HT_.out (by kernel_rfl)) (fun _ _ _ h => h) (Or.inl ⟨by rfl,?_⟩) ?_ ?_
 rotate_left
 ·intro w'
  go_simp
  with_reducible rfl
 rotate_left
 ·simp only [Act.put,List.setIfInBounds_toArray,List.set_cons_zero,List.set_cons_succ,i64_w,i32_w]
  rfl
 refine take_ (i:=3) (N:=some 20) (v:=?_) (a':=?_) #[true,true,true,true,false,false,false,false,false,false,false,false] rfl rfl (take_ofW HT_.out HW_.out (by kernel_rfl)) (fun _ _ _ h => h) (Or.inl ⟨by rfl,?_⟩) hHeld ?_ ?_
 rotate_left
 ·rintro w' ⟨s0,s1,s2,s3,s4,s5,s6,s7,s8,s9,s10,s11⟩
  go_simp
  with_reducible rfl
 rotate_left
 ·simp only [Act.put,List.setIfInBounds_toArray,List.set_cons_zero,List.set_cons_succ,i64_w,i32_w]
  rfl
 refine pure_ (i:=4) (N:=some 21) (v:=?_) (a':=?_) #[true,true,true,true,true,false,false,false,false,false,false,false] rfl rfl (any_of HT_.out (by kernel_rfl)) (fun _ _ _ h => h) (Or.inl ⟨by rfl,?_⟩) ?_ ?_
 rotate_left
 ·intro w'
  go_simp
  with_reducible rfl
 rotate_left
 ·simp only [Act.put,List.setIfInBounds_toArray,List.set_cons_zero,List.set_cons_succ,i64_w,i32_w]
  rfl
 refine take_ (i:=5) (N:=some 22) (v:=?_) (a':=?_) #[true,true,true,true,true,true,false,false,false,false,false,false] rfl rfl (take_ofW HT_.out HW_.out (by kernel_rfl)) (fun _ _ _ h => h) (Or.inl ⟨by rfl,?_⟩) hHeld ?_ ?_
 rotate_left
 ·rintro w' ⟨s0,s1,s2,s3,s4,s5,s6,s7,s8,s9,s10,s11⟩
  go_simp
  with_reducible rfl
 rotate_left
 ·simp only [Act.put,List.setIfInBounds_toArray,List.set_cons_zero,List.set_cons_succ,i64_w,i32_w]
  rfl
 refine pure_ (i:=6) (N:=some 23) (v:=?_) (a':=?_) #[true,true,true,true,true,true,true,false,false,false,false,false] rfl rfl (any_of HT_.out (by kernel_rfl)) (fun _ _ _ h => h) (Or.inl ⟨by rfl,?_⟩) ?_ ?_
 rotate_left
 ·intro w'
  go_simp
  with_reducible rfl
 rotate_left
 ·simp only [Act.put,List.setIfInBounds_toArray,List.set_cons_zero,List.set_cons_succ,i64_w,i32_w]
  rfl
 refine take_ (i:=7) (N:=some 24) (v:=?_) (a':=?_) #[true,true,true,true,true,true,true,true,false,false,false,false] rfl rfl (take_ofW HT_.out HW_.out (by kernel_rfl)) (fun _ _ _ h => h) (Or.inl ⟨by rfl,?_⟩) hHeld ?_ ?_
 rotate_left
 ·rintro w' ⟨s0,s1,s2,s3,s4,s5,s6,s7,s8,s9,s10,s11⟩
  go_simp
  with_reducible rfl
 rotate_left
 ·simp only [Act.put,List.setIfInBounds_toArray,List.set_cons_zero,List.set_cons_succ,i64_w,i32_w]
  rfl
 refine pure_ (i:=8) (N:=some 25) (v:=?_) (a':=?_) #[true,true,true,true,true,true,true,true,true,false,false,false] rfl rfl (any_of HT_.out (by kernel_rfl)) (fun _ _ _ h => h) (Or.inl ⟨by rfl,?_⟩) ?_ ?_
 rotate_left
 ·intro w'
  go_simp
  with_reducible rfl
 rotate_left
 ·simp only [Act.put,List.setIfInBounds_toArray,List.set_cons_zero,List.set_cons_succ,i64_w,i32_w]
  rfl
 refine one_ (i:=9) (N:=none) #[true,true,true,true,true,true,true,true,true,true,false,false] rfl rfl (one_of HT_.out (by kernel_rfl)) (by decide) (fun K hK => ?_)
 have hz0_ : w10.cell? ⟨go,0,none⟩ = some (.int .i64 a0):=HR.out.cell 0 rfl 0 rfl
 have fz0_:=HR.out.free 0 rfl 0
 have hz1_ : w10.cell? ⟨go,1,none⟩ = some (.string a1):=HR.out.cell 0 rfl 1 rfl
 have fz1_:=HR.out.free 0 rfl 1
 have hz2_ : w10.cell? ⟨go,2,none⟩ = some (.int .i64 a2):=HR.out.cell 0 rfl 2 rfl
 have fz2_:=HR.out.free 0 rfl 2
 have hz3_ : w10.cell? ⟨go,3,none⟩ = some (.slice (some ad) 2 c):=HR.out.cell 0 rfl 3 rfl
 have fz3_:=HR.out.free 0 rfl 3
 have hz4_ : w10.cell? ⟨go,4,none⟩ = some (.int .i64 2):=HR.out.cell 0 rfl 4 rfl
 have fz4_:=HR.out.free 0 rfl 4
 have hz5_ : w10.cell? ⟨go,5,none⟩ = some (.string (⟨#[116,114,117,101]⟩ : ByteArray)):=HR.out.cell 0 rfl 5 rfl
 have fz5_:=HR.out.free 0 rfl 5
 have hz6_ : w10.cell? ⟨go,6,none⟩ = some (.int .i64 0):=HR.out.cell 0 rfl 6 rfl
 have fz6_:=HR.out.free 0 rfl 6
 have hz7_ : w10.cell? ⟨go,7,none⟩ = some (.slice none 0 0):=HR.out.cell 0 rfl 7 rfl
 have fz7_:=HR.out.free 0 rfl 7
 have hz8_ : w10.cell? ⟨go,8,none⟩ = some (.string file):=HR.out.cell 0 rfl 8 rfl
 have fz8_:=HR.out.free 0 rfl 8
 refine skip_ (w1:=w10.setCells go 0 [.int .i64 x.f0,.string x.f1,.int .i64 x.f2,.slice A3 x.f3.length c3]) (by rfl) rfl ?_ ?_
 ·first|(go_simp;done)|(go_simp;rfl)
 have q_:=Aside0.mk (HR.out.seg 0 rfl 0 [.int .i64 x.f0,.string x.f1,.int .i64 x.f2,.slice A3 x.f3.length c3] (Nat.le_of_ble_eq_true rfl))
 clear HR
 have HR:=q_
 clear q_
 clear hz0_ fz0_ hz1_ fz1_ hz2_ fz2_ hz3_ fz3_ hz4_ fz4_ hz5_ fz5_ hz6_ fz6_ hz7_ fz7_ hz8_ fz8_
 generalize w10.setCells go 0 [.int .i64 x.f0,.string x.f1,.int .i64 x.f2,.slice A3 x.f3.length c3] = w11 at HR ⊢
 refine hK.out _ _ ⟨HR.out.cell 2 rfl 0 rfl,HR.out.cell 2 rfl 1 rfl,HR.out.cell 2 rfl 2 rfl,HR.out.cell 2 rfl 3 rfl,(HR.out.bel.cell (World.block_lt_of_cell? w _ HX0.out)).trans HX0.out,(HR.out.bel.cell (World.block_lt_of_cell? w _ HX1.out)).trans HX1.out,(HR.out.bel.cell (World.block_lt_of_cell? w _ HX2.out)).trans HX2.out,(HR.out.bel.cell (World.block_lt_of_cell? w _ HX3.out)).trans HX3.out,(HR.out.bel.cell (World.block_lt_of_cell? w _ HY0.out)).trans HY0.out,(HR.out.bel.cell (World.block_lt_of_cell? w _ HY1.out)).trans HY1.out,(HR.out.bel.cell (World.block_lt_of_cell? w _ HY2.out)).trans HY2.out,(HR.out.bel.cell (World.block_lt_of_cell? w _ HY3.out)).trans HY3.out⟩ (fun hHeld => ?_)
 clear hK K
 refine pure_ (i:=10) (N:=some 26) (v:=?_) (a':=?_) #[true,true,true,true,true,true,true,true,true,true,true,false] rfl rfl (any_of HT_.out (by kernel_rfl)) (fun _ _ _ h => h) (Or.inl ⟨by rfl,?_⟩) ?_ ?_
 rotate_left
 ·intro w'
  go_simp
  with_reducible rfl
 rotate_left
 ·simp only [Act.put,List.setIfInBounds_toArray,List.set_cons_zero,List.set_cons_succ,i64_w,i32_w]
  rfl
 refine last_ (i:=11) (N:=none) #[true,true,true,true,true,true,true,true,true,true,true,true] rfl rfl (one_of HT_.out (by kernel_rfl)) (by decide) (fun K hK => ?_)
 have hz0_ : w11.cell? ⟨go,0,none⟩ = some (.int .i64 x.f0):=HR.out.cell 0 rfl 0 rfl
 have fz0_:=HR.out.free 0 rfl 0
 have hz1_ : w11.cell? ⟨go,1,none⟩ = some (.string x.f1):=HR.out.cell 0 rfl 1 rfl
 have fz1_:=HR.out.free 0 rfl 1
 have hz2_ : w11.cell? ⟨go,2,none⟩ = some (.int .i64 x.f2):=HR.out.cell 0 rfl 2 rfl
 have fz2_:=HR.out.free 0 rfl 2
 have hz3_ : w11.cell? ⟨go,3,none⟩ = some (.slice A3 x.f3.length c3):=HR.out.cell 0 rfl 3 rfl
 have fz3_:=HR.out.free 0 rfl 3
 have hz4_ : w11.cell? ⟨go,4,none⟩ = some (.int .i64 2):=HR.out.cell 0 rfl 4 rfl
 have fz4_:=HR.out.free 0 rfl 4
 have hz5_ : w11.cell? ⟨go,5,none⟩ = some (.string (⟨#[116,114,117,101]⟩ : ByteArray)):=HR.out.cell 0 rfl 5 rfl
 have fz5_:=HR.out.free 0 rfl 5
 have hz6_ : w11.cell? ⟨go,6,none⟩ = some (.int .i64 0):=HR.out.cell 0 rfl 6 rfl
 have fz6_:=HR.out.free 0 rfl 6
 have hz7_ : w11.cell? ⟨go,7,none⟩ = some (.slice none 0 0):=HR.out.cell 0 rfl 7 rfl
 have fz7_:=HR.out.free 0 rfl 7
 have hz8_ : w11.cell? ⟨go,8,none⟩ = some (.string file):=HR.out.cell 0 rfl 8 rfl
 have fz8_:=HR.out.free 0 rfl 8
 refine skip_ (w1:=w11.setCells go 4 [.int .i64 y.f0,.string y.f1,.int .i64 y.f2,.slice A7 y.f3.length c7]) (by rfl) rfl ?_ ?_
 ·first|(go_simp;done)|(go_simp;rfl)
 refine hK.out _ _ ?_
 clear hK K hz0_ fz0_ hz1_ fz1_ hz2_ fz2_ hz3_ fz3_ hz4_ fz4_ hz5_ fz5_ hz6_ fz6_ hz7_ fz7_ hz8_ fz8_
 have q_:=Aside0.mk (HR.out.seg 0 rfl 4 [.int .i64 y.f0,.string y.f1,.int .i64 y.f2,.slice A7 y.f3.length c7] (Nat.le_of_ble_eq_true rfl))
 clear HR
 have HR:=q_
 clear q_
 generalize w11.setCells go 4 [.int .i64 y.f0,.string y.f1,.int .i64 y.f2,.slice A7 y.f3.length c7] = w12 at HR ⊢
 refine done_ (done_of HT_.out (by kernel_rfl)) ?_
 have hc6_go_0 : w12.cell? ⟨go,0,none⟩ = some (.int .i64 x.f0):=HR.out.cell 0 rfl 0 rfl
 have hc6_go_1 : w12.cell? ⟨go,1,none⟩ = some (.string x.f1):=HR.out.cell 0 rfl 1 rfl
 have hc6_go_2 : w12.cell? ⟨go,2,none⟩ = some (.int .i64 x.f2):=HR.out.cell 0 rfl 2 rfl
 have hc6_go_3 : w12.cell? ⟨go,3,none⟩ = some (.slice A3 x.f3.length c3):=HR.out.cell 0 rfl 3 rfl
 have hc6_go_4 : w12.cell? ⟨go,4,none⟩ = some (.int .i64 y.f0):=HR.out.cell 0 rfl 4 rfl
 have hc6_go_5 : w12.cell? ⟨go,5,none⟩ = some (.string y.f1):=HR.out.cell 0 rfl 5 rfl
 have hc6_go_6 : w12.cell? ⟨go,6,none⟩ = some (.int .i64 y.f2):=HR.out.cell 0 rfl 6 rfl
 have hc6_go_7 : w12.cell? ⟨go,7,none⟩ = some (.slice A7 y.f3.length c7):=HR.out.cell 0 rfl 7 rfl
 have hc6_go_8 : w12.cell? ⟨go,8,none⟩ = some (.string file):=HR.out.cell 0 rfl 8 rfl
 rcases Bool.eq_false_or_eq_true bh with rfl|rfl
 ·rcases Bool.eq_false_or_eq_true bb with rfl|rfl
  ·skip
   go_wp2_with (first
    | (go_at_call 57; with_reducible refine (H3.out w12 A3 c3 HR.out.bel (Kd.C_below HI3.out HR.out.bel) HL3.out).mono ?_; rintro e w13 ⟨rfl, hb⟩; have q_ := Aside0.mk (HR.out.step hb); clear HR; have HR := q_; clear q_; clear hb; clear hc6_go_0 hc6_go_1 hc6_go_2 hc6_go_3 hc6_go_4 hc6_go_5 hc6_go_6 hc6_go_7 hc6_go_8; have hc7_go_0 : w13.cell? ⟨go, 0, none⟩ = some (.int .i64 x.f0) := HR.out.cell 0 rfl 0 rfl; have hc7_go_1 : w13.cell? ⟨go, 1, none⟩ = some (.string x.f1) := HR.out.cell 0 rfl 1 rfl; have hc7_go_2 : w13.cell? ⟨go, 2, none⟩ = some (.int .i64 x.f2) := HR.out.cell 0 rfl 2 rfl; have hc7_go_3 : w13.cell? ⟨go, 3, none⟩ = some (.slice A3 x.f3.length c3) := HR.out.cell 0 rfl 3 rfl; have hc7_go_4 : w13.cell? ⟨go, 4, none⟩ = some (.int .i64 y.f0) := HR.out.cell 0 rfl 4 rfl; have hc7_go_5 : w13.cell? ⟨go, 5, none⟩ = some (.string y.f1) := HR.out.cell 0 rfl 5 rfl; have hc7_go_6 : w13.cell? ⟨go, 6, none⟩ = some (.int .i64 y.f2) := HR.out.cell 0 rfl 6 rfl; have hc7_go_7 : w13.cell? ⟨go, 7, none⟩ = some (.slice A7 y.f3.length c7) := HR.out.cell 0 rfl 7 rfl; have hc7_go_8 : w13.cell? ⟨go, 8, none⟩ = some (.string file) := HR.out.cell 0 rfl 8 rfl)
    | (go_at_call 56; with_reducible refine (H4.out w13 A7 c7 (Kd.C_below HI7.out HR.out.bel) HL7.out).mono ?_; rintro e w14 ⟨rfl, hb⟩; have q_ := Aside0.mk (HR.out.step hb); clear HR; have HR := q_; clear q_; clear hb; clear hc7_go_0 hc7_go_1 hc7_go_2 hc7_go_3 hc7_go_4 hc7_go_5 hc7_go_6 hc7_go_7 hc7_go_8; have hc8_go_0 : w14.cell? ⟨go, 0, none⟩ = some (.int .i64 x.f0) := HR.out.cell 0 rfl 0 rfl; have hc8_go_1 : w14.cell? ⟨go, 1, none⟩ = some (.string x.f1) := HR.out.cell 0 rfl 1 rfl; have hc8_go_2 : w14.cell? ⟨go, 2, none⟩ = some (.int .i64 x.f2) := HR.out.cell 0 rfl 2 rfl; have hc8_go_3 : w14.cell? ⟨go, 3, none⟩ = some (.slice A3 x.f3.length c3) := HR.out.cell 0 rfl 3 rfl; have hc8_go_4 : w14.cell? ⟨go, 4, none⟩ = some (.int .i64 y.f0) := HR.out.cell 0 rfl 4 rfl; have hc8_go_5 : w14.cell? ⟨go, 5, none⟩ = some (.string y.f1) := HR.out.cell 0 rfl 5 rfl; have hc8_go_6 : w14.cell? ⟨go, 6, none⟩ = some (.int .i64 y.f2) := HR.out.cell 0 rfl 6 rfl; have hc8_go_7 : w14.cell? ⟨go, 7, none⟩ = some (.slice A7 y.f3.length c7) := HR.out.cell 0 rfl 7 rfl; have hc8_go_8 : w14.cell? ⟨go, 8, none⟩ = some (.string file) := HR.out.cell 0 rfl 8 rfl)
    | (go_at_call 63; with_reducible refine (H5.out w14 A3 c3 A7 c7 (Kd.C_below HI3.out HR.out.bel) HL3.out (Kd.C_below HI7.out HR.out.bel) HL7.out).mono ?_; rintro e w15 ⟨A8, c8, B8, d8, rfl, ho, hb⟩; have q_ := Aside0.mk (HR.out.push _ hb ho); clear HR; have HR := q_; clear q_; clear hb ho; clear hc8_go_0 hc8_go_1 hc8_go_2 hc8_go_3 hc8_go_4 hc8_go_5 hc8_go_6 hc8_go_7 hc8_go_8; have hc9_gr_0 : w15.cell? ⟨gr, 0, none⟩ = some (.int .i64 0) := HR.out.cell 2 rfl 0 rfl; have hc9_gr_1 : w15.cell? ⟨gr, 1, none⟩ = some (.string (⟨#[]⟩ : ByteArray)) := HR.out.cell 2 rfl 1 rfl; have hc9_gr_2 : w15.cell? ⟨gr, 2, none⟩ = some (.int .i64 0) := HR.out.cell 2 rfl 2 rfl; have hc9_gr_3 : w15.cell? ⟨gr, 3, none⟩ = some (.slice none 0 0) := HR.out.cell 2 rfl 3 rfl; have hc9_gr_4 : w15.cell? ⟨gr, 4, none⟩ = some (.int .i64 0) := HR.out.cell 2 rfl 4 rfl; have hc9_gr_5 : w15.cell? ⟨gr, 5, none⟩ = some (.string (⟨#[]⟩ : ByteArray)) := HR.out.cell 2 rfl 5 rfl; have hc9_gr_6 : w15.cell? ⟨gr, 6, none⟩ = some (.int .i64 0) := HR.out.cell 2 rfl 6 rfl; have hc9_gr_7 : w15.cell? ⟨gr, 7, none⟩ = some (.slice none 0 0) := HR.out.cell 2 rfl 7 rfl; have hc9_gr_8 : w15.cell? ⟨gr, 8, none⟩ = some (.string (⟨#[]⟩ : ByteArray)) := HR.out.cell 2 rfl 8 rfl; have fc9_gr_0 := HR.out.free 2 rfl 0; have fc9_gr_1 := HR.out.free 2 rfl 1; have fc9_gr_2 := HR.out.free 2 rfl 2; have fc9_gr_3 := HR.out.free 2 rfl 3; have fc9_gr_4 := HR.out.free 2 rfl 4; have fc9_gr_5 := HR.out.free 2 rfl 5; have fc9_gr_6 := HR.out.free 2 rfl 6; have fc9_gr_7 := HR.out.free 2 rfl 7; have fc9_gr_8 := HR.out.free 2 rfl 8)
    | ((with_reducible refine gate_store (t := 48) (p := 4) rfl ?_); refine store_event (t := 48) (p := 4) (v := ?vo_5) (w1 := w15.setCells gr 0 [.int .i64 x.f0, .string x.f1, .int .i64 x.f2, .slice A8 x.f3.length c8, .int .i64 y.f0, .string y.f1, .int .i64 y.f2, .slice B8 y.f3.length d8, .string file]) ?hgs_5 ?hos_5 ?hns_5 ?hrs_5 ?_; (case hos_5 => rfl); (case hgs_5 => rfl); (case hns_5 => rfl); (case hrs_5 => first | (go_simp; done) | (go_simp; rfl)); intro w16 hw; have q_ := Aside0.mk (hw ▸ HR.out.store 2 rfl [.int .i64 x.f0, .string x.f1, .int .i64 x.f2, .slice A8 x.f3.length c8, .int .i64 y.f0, .string y.f1, .int .i64 y.f2, .slice B8 y.f3.length d8, .string file] rfl); clear HR; have HR := q_; clear q_; clear hw; clear hc9_gr_0 hc9_gr_1 hc9_gr_2 hc9_gr_3 hc9_gr_4 hc9_gr_5 hc9_gr_6 hc9_gr_7 hc9_gr_8 fc9_gr_0 fc9_gr_1 fc9_gr_2 fc9_gr_3 fc9_gr_4 fc9_gr_5 fc9_gr_6 fc9_gr_7 fc9_gr_8))
   refine bodyPost_ret (results_ct rfl _ _ gr 48 #[.int .i64 x.f0,.string x.f1,.int .i64 x.f2,.slice A8 x.f3.length c8,.int .i64 y.f0,.string y.f1,.int .i64 y.f2,.slice B8 y.f3.length d8,.string file] (0,0) _ rfl (HR.out.has 2 rfl).2 Tryd.underlying48 rfl (by kernel_rfl)) rfl ?_
   exact (show MadeCB (⟨x,y,file⟩ : S48) true w _ _ from ⟨A8,c8,B8,d8,rfl,As.mono _ (fun k hk => hk.elim False.elim id) (HR.out.one 0 rfl),HR.out.bel⟩)
  ·skip
   go_wp2_with (first
    | (go_at_call 57; with_reducible refine (H3.out w12 A3 c3 HR.out.bel (Kd.C_below HI3.out HR.out.bel) HL3.out).mono ?_; rintro e w13 ⟨rfl, hb⟩; have q_ := Aside0.mk (HR.out.step hb); clear HR; have HR := q_; clear q_; clear hb; clear hc6_go_0 hc6_go_1 hc6_go_2 hc6_go_3 hc6_go_4 hc6_go_5 hc6_go_6 hc6_go_7 hc6_go_8; have hc7_go_0 : w13.cell? ⟨go, 0, none⟩ = some (.int .i64 x.f0) := HR.out.cell 0 rfl 0 rfl; have hc7_go_1 : w13.cell? ⟨go, 1, none⟩ = some (.string x.f1) := HR.out.cell 0 rfl 1 rfl; have hc7_go_2 : w13.cell? ⟨go, 2, none⟩ = some (.int .i64 x.f2) := HR.out.cell 0 rfl 2 rfl; have hc7_go_3 : w13.cell? ⟨go, 3, none⟩ = some (.slice A3 x.f3.length c3) := HR.out.cell 0 rfl 3 rfl; have hc7_go_4 : w13.cell? ⟨go, 4, none⟩ = some (.int .i64 y.f0) := HR.out.cell 0 rfl 4 rfl; have hc7_go_5 : w13.cell? ⟨go, 5, none⟩ = some (.string y.f1) := HR.out.cell 0 rfl 5 rfl; have hc7_go_6 : w13.cell? ⟨go, 6, none⟩ = some (.int .i64 y.f2) := HR.out.cell 0 rfl 6 rfl; have hc7_go_7 : w13.cell? ⟨go, 7, none⟩ = some (.slice A7 y.f3.length c7) := HR.out.cell 0 rfl 7 rfl; have hc7_go_8 : w13.cell? ⟨go, 8, none⟩ = some (.string file) := HR.out.cell 0 rfl 8 rfl)
    | (go_at_call 56; with_reducible refine (H4.out w13 A7 c7 (Kd.C_below HI7.out HR.out.bel) HL7.out).mono ?_; rintro e w14 ⟨rfl, hb⟩; have q_ := Aside0.mk (HR.out.step hb); clear HR; have HR := q_; clear q_; clear hb; clear hc7_go_0 hc7_go_1 hc7_go_2 hc7_go_3 hc7_go_4 hc7_go_5 hc7_go_6 hc7_go_7 hc7_go_8; have hc8_gr_0 : w14.cell? ⟨gr, 0, none⟩ = some (.int .i64 0) := HR.out.cell 1 rfl 0 rfl; have hc8_gr_1 : w14.cell? ⟨gr, 1, none⟩ = some (.string (⟨#[]⟩ : ByteArray)) := HR.out.cell 1 rfl 1 rfl; have hc8_gr_2 : w14.cell? ⟨gr, 2, none⟩ = some (.int .i64 0) := HR.out.cell 1 rfl 2 rfl; have hc8_gr_3 : w14.cell? ⟨gr, 3, none⟩ = some (.slice none 0 0) := HR.out.cell 1 rfl 3 rfl; have hc8_gr_4 : w14.cell? ⟨gr, 4, none⟩ = some (.int .i64 0) := HR.out.cell 1 rfl 4 rfl; have hc8_gr_5 : w14.cell? ⟨gr, 5, none⟩ = some (.string (⟨#[]⟩ : ByteArray)) := HR.out.cell 1 rfl 5 rfl; have hc8_gr_6 : w14.cell? ⟨gr, 6, none⟩ = some (.int .i64 0) := HR.out.cell 1 rfl 6 rfl; have hc8_gr_7 : w14.cell? ⟨gr, 7, none⟩ = some (.slice none 0 0) := HR.out.cell 1 rfl 7 rfl; have hc8_gr_8 : w14.cell? ⟨gr, 8, none⟩ = some (.string (⟨#[]⟩ : ByteArray)) := HR.out.cell 1 rfl 8 rfl; have fc8_gr_0 := HR.out.free 1 rfl 0; have fc8_gr_1 := HR.out.free 1 rfl 1; have fc8_gr_2 := HR.out.free 1 rfl 2; have fc8_gr_3 := HR.out.free 1 rfl 3; have fc8_gr_4 := HR.out.free 1 rfl 4; have fc8_gr_5 := HR.out.free 1 rfl 5; have fc8_gr_6 := HR.out.free 1 rfl 6; have fc8_gr_7 := HR.out.free 1 rfl 7; have fc8_gr_8 := HR.out.free 1 rfl 8)
    | ((with_reducible refine gate_store (t := 48) (p := 4) rfl ?_); refine store_event (t := 48) (p := 4) (v := ?vo_6) (w1 := w14.setCells gr 0 [.int .i64 0, .string (⟨#[]⟩ : ByteArray), .int .i64 0, .slice none 0 0, .int .i64 0, .string (⟨#[]⟩ : ByteArray), .int .i64 0, .slice none 0 0, .string (⟨#[]⟩ : ByteArray)]) ?hgs_6 ?hos_6 ?hns_6 ?hrs_6 ?_; (case hos_6 => rfl); (case hgs_6 => rfl); (case hns_6 => rfl); (case hrs_6 => first | (go_simp; done) | (go_simp; rfl)); intro w15 hw; have q_ := Aside0.mk (hw ▸ HR.out.store 1 rfl [.int .i64 0, .string (⟨#[]⟩ : ByteArray), .int .i64 0, .slice none 0 0, .int .i64 0, .string (⟨#[]⟩ : ByteArray), .int .i64 0, .slice none 0 0, .string (⟨#[]⟩ : ByteArray)] rfl); clear HR; have HR := q_; clear q_; clear hw; clear hc8_gr_0 hc8_gr_1 hc8_gr_2 hc8_gr_3 hc8_gr_4 hc8_gr_5 hc8_gr_6 hc8_gr_7 hc8_gr_8 fc8_gr_0 fc8_gr_1 fc8_gr_2 fc8_gr_3 fc8_gr_4 fc8_gr_5 fc8_gr_6 fc8_gr_7 fc8_gr_8))
   refine bodyPost_ret (results_ct rfl _ _ gr 48 #[.int .i64 0,.string (⟨#[]⟩ : ByteArray),.int .i64 0,.slice none 0 0,.int .i64 0,.string (⟨#[]⟩ : ByteArray),.int .i64 0,.slice none 0 0,.string (⟨#[]⟩ : ByteArray)] (0,0) _ rfl (HR.out.has 1 rfl).2 Tryd.underlying48 rfl (by kernel_rfl)) rfl ?_
   exact (show MadeCB zC false w _ _ from ⟨none,0,none,0,rfl,⟨fun _ => True,Kd.S_nil _ _ _ _ _,Kd.S_nil _ _ _ _ _⟩,HR.out.bel⟩)
 ·skip
  go_wp2_with (first
   | (go_at_call 57; with_reducible refine (H3.out w12 A3 c3 HR.out.bel (Kd.C_below HI3.out HR.out.bel) HL3.out).mono ?_; rintro e w13 ⟨rfl, hb⟩; have q_ := Aside0.mk (HR.out.step hb); clear HR; have HR := q_; clear q_; clear hb; clear hc6_go_0 hc6_go_1 hc6_go_2 hc6_go_3 hc6_go_4 hc6_go_5 hc6_go_6 hc6_go_7 hc6_go_8; have hc7_gr_0 : w13.cell? ⟨gr, 0, none⟩ = some (.int .i64 0) := HR.out.cell 1 rfl 0 rfl; have hc7_gr_1 : w13.cell? ⟨gr, 1, none⟩ = some (.string (⟨#[]⟩ : ByteArray)) := HR.out.cell 1 rfl 1 rfl; have hc7_gr_2 : w13.cell? ⟨gr, 2, none⟩ = some (.int .i64 0) := HR.out.cell 1 rfl 2 rfl; have hc7_gr_3 : w13.cell? ⟨gr, 3, none⟩ = some (.slice none 0 0) := HR.out.cell 1 rfl 3 rfl; have hc7_gr_4 : w13.cell? ⟨gr, 4, none⟩ = some (.int .i64 0) := HR.out.cell 1 rfl 4 rfl; have hc7_gr_5 : w13.cell? ⟨gr, 5, none⟩ = some (.string (⟨#[]⟩ : ByteArray)) := HR.out.cell 1 rfl 5 rfl; have hc7_gr_6 : w13.cell? ⟨gr, 6, none⟩ = some (.int .i64 0) := HR.out.cell 1 rfl 6 rfl; have hc7_gr_7 : w13.cell? ⟨gr, 7, none⟩ = some (.slice none 0 0) := HR.out.cell 1 rfl 7 rfl; have hc7_gr_8 : w13.cell? ⟨gr, 8, none⟩ = some (.string (⟨#[]⟩ : ByteArray)) := HR.out.cell 1 rfl 8 rfl; have fc7_gr_0 := HR.out.free 1 rfl 0; have fc7_gr_1 := HR.out.free 1 rfl 1; have fc7_gr_2 := HR.out.free 1 rfl 2; have fc7_gr_3 := HR.out.free 1 rfl 3; have fc7_gr_4 := HR.out.free 1 rfl 4; have fc7_gr_5 := HR.out.free 1 rfl 5; have fc7_gr_6 := HR.out.free 1 rfl 6; have fc7_gr_7 := HR.out.free 1 rfl 7; have fc7_gr_8 := HR.out.free 1 rfl 8)
   | ((with_reducible refine gate_store (t := 48) (p := 4) rfl ?_); refine store_event (t := 48) (p := 4) (v := ?vo_7) (w1 := w13.setCells gr 0 [.int .i64 0, .string (⟨#[]⟩ : ByteArray), .int .i64 0, .slice none 0 0, .int .i64 0, .string (⟨#[]⟩ : ByteArray), .int .i64 0, .slice none 0 0, .string (⟨#[]⟩ : ByteArray)]) ?hgs_7 ?hos_7 ?hns_7 ?hrs_7 ?_; (case hos_7 => rfl); (case hgs_7 => rfl); (case hns_7 => rfl); (case hrs_7 => first | (go_simp; done) | (go_simp; rfl)); intro w14 hw; have q_ := Aside0.mk (hw ▸ HR.out.store 1 rfl [.int .i64 0, .string (⟨#[]⟩ : ByteArray), .int .i64 0, .slice none 0 0, .int .i64 0, .string (⟨#[]⟩ : ByteArray), .int .i64 0, .slice none 0 0, .string (⟨#[]⟩ : ByteArray)] rfl); clear HR; have HR := q_; clear q_; clear hw; clear hc7_gr_0 hc7_gr_1 hc7_gr_2 hc7_gr_3 hc7_gr_4 hc7_gr_5 hc7_gr_6 hc7_gr_7 hc7_gr_8 fc7_gr_0 fc7_gr_1 fc7_gr_2 fc7_gr_3 fc7_gr_4 fc7_gr_5 fc7_gr_6 fc7_gr_7 fc7_gr_8))
  refine bodyPost_ret (results_ct rfl _ _ gr 48 #[.int .i64 0,.string (⟨#[]⟩ : ByteArray),.int .i64 0,.slice none 0 0,.int .i64 0,.string (⟨#[]⟩ : ByteArray),.int .i64 0,.slice none 0 0,.string (⟨#[]⟩ : ByteArray)] (0,0) _ rfl (HR.out.has 1 rfl).2 Tryd.underlying48 rfl (by kernel_rfl)) rfl ?_
  exact (show MadeCB zC false w _ _ from ⟨none,0,none,0,rfl,⟨fun _ => True,Kd.S_nil _ _ _ _ _,Kd.S_nil _ _ _ _ _⟩,HR.out.bel⟩)
set_option maxHeartbeats 16000000 in
set_option maxRecDepth 100000 in
theorem impl_clo_C (a0 : Int) (a1 : ByteArray) (a2 : Int) (x y : S29) (file : ByteArray) (ad : Addr) (c : Nat) (w : World) (hC : Kd.C k29 w (some ad) 2 [x,y]) (hc : 2 ≤ c)
  (h1 : ∀ W,Below w.heap.size w W → Calls Tryd.prog 56 #[.agg #[.int .i64 a0,.string a1,.int .i64 a2,.slice (some ad) 2 c]] W fun e W' => e = .returned (.bool true) ∧ Below W.heap.size W W') (h2 : ∀ W,Below w.heap.size w W → Calls Tryd.prog 61 #[.agg #[.int .i64 a0,.string a1,.int .i64 a2,.slice (some ad) 2 c],.string (⟨#[58,45]⟩ : ByteArray),.int .i64 2] W fun e W' => e = .returned (.bool true) ∧ Below W.heap.size W W') (hk : y.f0 = 1) (bh : Bool) (h3 : ∀ W (A : Option Addr) (c : Nat),Below w.heap.size w W → Kd.C k29 W A x.f3.length x.f3 → x.f3.length ≤ c → Calls Tryd.prog 57 #[.agg #[.int .i64 x.f0,.string x.f1,.int .i64 x.f2,.slice A x.f3.length c]] W fun e W' => e = .returned (.bool bh) ∧ Below W.heap.size W W') (bb : Bool) (h4 : ∀ W (g : Nat),Kd.C k29 W (some ⟨g,0,none⟩) 1 [y] → Calls Tryd.prog 56 #[.agg #[.int .i64 4,.string (⟨#[99,97,108,108]⟩ : ByteArray),.int .i64 0,.slice (some ⟨g,0,none⟩) 1 1]] W fun e W' => e = .returned (.bool bb) ∧ Below W.heap.size W W') (h5 : ∀ W (A : Option Addr) (c : Nat) (g : Nat),Kd.C k29 W A x.f3.length x.f3 → x.f3.length ≤ c → Kd.C k29 W (some ⟨g,0,none⟩) 1 [y] → Calls Tryd.prog 63 #[.agg #[.int .i64 x.f0,.string x.f1,.int .i64 x.f2,.slice A x.f3.length c,.int .i64 4,.string (⟨#[99,97,108,108]⟩ : ByteArray),.int .i64 0,.slice (some ⟨g,0,none⟩) 1 1,.string file]] W fun e W' => ∃ A c B d,e = .returned (.agg #[.int .i64 x.f0,.string x.f1,.int .i64 x.f2,.slice A x.f3.length c,.int .i64 4,.string (⟨#[99,97,108,108]⟩ : ByteArray),.int .i64 0,.slice B 1 d,.string file]) ∧ (ac (⟨x,(⟨4,(⟨#[99,97,108,108]⟩ : ByteArray),0,[y]⟩ : S29),file⟩ : S48) (.slice A x.f3.length c) (.slice B 1 d)).M W.heap.size W' (fun k => W.heap.size ≤ k) ∧ Below W.heap.size W W') : Calls Tryd.prog 23 #[.agg #[.int .i64 a0,.string a1,.int .i64 a2,.slice (some ad) 2 c],.string file] w fun e w' => MadeCB (if (bh && bb) = true then (⟨x,(⟨4,(⟨#[99,97,108,108]⟩ : ByteArray),0,[y]⟩ : S29),file⟩ : S48) else zC) (bh && bb) w e w':=by
 have HC:=Aside0.mk hC
 have HCC:=Aside0.mk hc
 have H1:=Aside0.mk h1
 have H2:=Aside0.mk h2
 have H3:=Aside0.mk h3
 have H4:=Aside0.mk h4
 have H5:=Aside0.mk h5
 have HR:=Aside0.mk (run_law w)
 have cv0 : (y.f0 == 1) = true:=beq_iff_eq.2 hk
 have cv1 : decide (y.f0 = 1) = true:=decide_eq_true hk
 obtain ⟨ad1,A3,c3,e1,hx0,hx1,hx2,hx3,hl3,hi3⟩:=at_T29 hC 0 (by decide) (by decide)
 obtain ⟨ad2,A7,c7,e2,hy0,hy1,hy2,hy3,hl7,hi7⟩:=at_T29 hC 1 (by decide) (by decide)
 injection e1 with e1
 injection e2 with e2
 rw [← e1] at hx0 hx1 hx2 hx3
 rw [← e2] at hy0 hy1 hy2 hy3
 clear e1 e2 ad1 ad2
 rw [show rd_T29 [x,y] 0 = x from rfl] at hx0 hx1 hx2 hx3 hl3 hi3
 rw [show rd_T29 [x,y] 1 = y from rfl] at hy0 hy1 hy2 hy3 hl7 hi7
 have E0 : ad.add ((0 : Int).toNat * 4) = ad:=ad_zero ad
 have E1 : ad.add ((1 : Int).toNat * 4) = ⟨ad.block,ad.off + 4,none⟩:=ad_four ad
 rw [E0] at hx0 hx1 hx2 hx3
 rw [E1] at hy0 hy1 hy2 hy3
 clear E0 E1
 replace hy1 : w.cell? ⟨ad.block,ad.off + 5,none⟩ = _:=hy1
 replace hy2 : w.cell? ⟨ad.block,ad.off + 6,none⟩ = _:=hy2
 replace hy3 : w.cell? ⟨ad.block,ad.off + 7,none⟩ = _:=hy3
 have HL3:=Aside0.mk hl3
 have HI3:=Aside0.mk hi3
 have HL7:=Aside0.mk hl7
 have HI7:=Aside0.mk hi7
 have HX0:=Aside0.mk hx0
 have HX1:=Aside0.mk hx1
 have HX2:=Aside0.mk hx2
 have HX3:=Aside0.mk hx3
 have HY0:=Aside0.mk hy0
 have HY1:=Aside0.mk hy1
 have HY2:=Aside0.mk hy2
 have HY3:=Aside0.mk hy3
 clear hl3 hi3 hl7 hi7 hx0 hx1 hx2 hx3 hy0 hy1 hy2 hy3
 clear hC hc h1 h2 h3 h4 h5 hk
 go_enter Tryd.func23,Tryd.ntmps23
 go_wp2_with (first
  | ((with_reducible refine gate_dst (N := 2) rfl ?_); refine box_event ?hg2 (N := 2) ?hd2 (cs := #[.int .i64 a0, .string a1, .int .i64 a2, .slice (some ad) 2 c]) (t := 29) ?hr2 ?_; (case hd2 => rfl); (case hg2 => rfl); (case hr2 => first | (go_simp; done) | (go_simp; rfl)); intro ga hg w1 hbox hb; have q_ := Aside0.mk (HR.out.box hg hb hbox); clear HR; have HR := q_; clear q_; clear hg hbox hb)
  | ((with_reducible refine gate_dst (N := 4) rfl ?_); refine box_event ?hg4 (N := 4) ?hd4 (cs := #[.int .i64 0, .string (⟨#[]⟩ : ByteArray), .int .i64 0, .slice none 0 0, .int .i64 0, .string (⟨#[]⟩ : ByteArray), .int .i64 0, .slice none 0 0, .string (⟨#[]⟩ : ByteArray)]) (t := 48) ?hr4 ?_; (case hd4 => rfl); (case hg4 => rfl); (case hr4 => first | (go_simp; done) | (go_simp; rfl)); intro gr hg w2 hbox hb; have q_ := Aside0.mk (HR.out.box hg hb hbox); clear HR; have HR := q_; clear q_; clear hg hbox hb; have hc2_ga_0 : w2.cell? ⟨ga, 0, none⟩ = some (.int .i64 a0) := HR.out.cell 1 rfl 0 rfl; have hc2_ga_1 : w2.cell? ⟨ga, 1, none⟩ = some (.string a1) := HR.out.cell 1 rfl 1 rfl; have hc2_ga_2 : w2.cell? ⟨ga, 2, none⟩ = some (.int .i64 a2) := HR.out.cell 1 rfl 2 rfl; have hc2_ga_3 : w2.cell? ⟨ga, 3, none⟩ = some (.slice (some ad) 2 c) := HR.out.cell 1 rfl 3 rfl)
  | (go_at_call 56; with_reducible refine (H1.out w2 HR.out.bel).mono ?_; rintro e w3 ⟨rfl, hb⟩; have q_ := Aside0.mk (HR.out.step hb); clear HR; have HR := q_; clear q_; clear hb; clear hc2_ga_0 hc2_ga_1 hc2_ga_2 hc2_ga_3))
 have q_:=Aside0.mk (HR.out.drew)
 clear HR
 have HR:=q_
 clear q_
 refine start_ (n:=6) (S:=fun w' => w'.cell? ⟨ga,0,none⟩ = some (.int .i64 a0) ∧ w'.cell? ⟨ga,1,none⟩ = some (.string a1) ∧ w'.cell? ⟨ga,2,none⟩ = some (.int .i64 a2) ∧ w'.cell? ⟨ga,3,none⟩ = some (.slice (some ad) 2 c)) (ds:=[5]) #[false,false,false,false,false,false] (by kernel_rfl) rfl rfl ⟨HR.out.cell 1 rfl 0 rfl,HR.out.cell 1 rfl 1 rfl,HR.out.cell 1 rfl 2 rfl,HR.out.cell 1 rfl 3 rfl⟩ (fun hHeld => ?_);refine with_tabW implclo3_tab implclo3_bits (fun HT_ HW_ => ?_)
 generalize w3.drew = w4 at HR hHeld ⊢
 refine take_ (i:=0) (N:=some 11) (v:=?_) (a':=?_) #[true,false,false,false,false,false] rfl rfl (take_ofW HT_.out HW_.out (by kernel_rfl)) (fun _ _ _ h => h) (Or.inl ⟨by rfl,?_⟩) hHeld ?_ ?_
 rotate_left
 ·rintro w' ⟨s0,s1,s2,s3⟩
  go_simp
  with_reducible rfl
 rotate_left
 ·simp only [Act.put,List.setIfInBounds_toArray,List.set_cons_zero,List.set_cons_succ,i64_w,i32_w]
  rfl
 refine pure_ (i:=2) (N:=some 13) (v:=?_) (a':=?_) #[true,false,true,false,false,false] rfl rfl (any_of HT_.out (by kernel_rfl)) (fun _ _ _ h => h) (Or.inl ⟨by rfl,?_⟩) ?_ ?_
 rotate_left
 ·intro w'
  go_simp
  with_reducible rfl
 rotate_left
 ·simp only [Act.put,List.setIfInBounds_toArray,List.set_cons_zero,List.set_cons_succ,i64_w,i32_w]
  rfl
 refine join_ (σ:=Nat) 1 #[true,true,true,true,true,false] (fun go => [(12,.agg #[.int .i64 2,.string (⟨#[116,114,117,101]⟩ : ByteArray),.int .i64 0,.slice none 0 0]),(14,.agg #[.int .i64 a0,.string a1,.int .i64 a2,.slice (some ad) 2 c,.int .i64 2,.string (⟨#[116,114,117,101]⟩ : ByteArray),.int .i64 0,.slice none 0 0,.string file]),(6,.pointer (some ⟨go,0,none⟩))]) (fun go w' => Run w w (fun _ => False) [As.box go 48 #[.int .i64 0,.string (⟨#[]⟩ : ByteArray),.int .i64 0,.slice none 0 0,.int .i64 0,.string (⟨#[]⟩ : ByteArray),.int .i64 0,.slice none 0 0,.string (⟨#[]⟩ : ByteArray)],As.box gr 48 #[.int .i64 0,.string (⟨#[]⟩ : ByteArray),.int .i64 0,.slice none 0 0,.int .i64 0,.string (⟨#[]⟩ : ByteArray),.int .i64 0,.slice none 0 0,.string (⟨#[]⟩ : ByteArray)],As.box ga 29 #[.int .i64 a0,.string a1,.int .i64 a2,.slice (some ad) 2 c]] w') ?_ ?_
 rotate_left
 ·intro hCont
  refine two_ (i:=1) (j:=4) (Ni:=some 12) (Nj:=some 6) #[true,true,true,false,false,false] #[true,false,true,false,true,false] rfl rfl rfl rfl (two_of HT_.out (by kernel_rfl)) (by decide) (by decide) (fun K hK => ?_) (fun K hK => ?_)
  ·skip
   refine goes_ Tryd.func60 (by kernel_rfl) rfl #[.string (⟨#[116,114,117,101]⟩ : ByteArray)] (by rfl) rfl rfl (by (try simp only [List.map_toArray,List.map_cons,List.map_nil]);first|done|rfl) ?_
   refine (atom_calls (⟨#[116,114,117,101]⟩ : ByteArray) w4).mono ?_
   rintro e w5 ⟨rfl,hb⟩
   refine ⟨_,rfl,?_⟩
   have q_:=Aside0.mk (HR.out.step hb)
   clear HR
   have HR:=q_
   clear q_
   clear hb
   refine hK.out _ _ ⟨HR.out.cell 1 rfl 0 rfl,HR.out.cell 1 rfl 1 rfl,HR.out.cell 1 rfl 2 rfl,HR.out.cell 1 rfl 3 rfl⟩ (fun hHeld => ?_)
   clear hK K
   refine norm_ (a':=?_) ?_ ?_
   rotate_left
   ·show Act.put _ (some 12) _ = _
    simp only [Act.put,List.setIfInBounds_toArray,List.set_cons_zero,List.set_cons_succ,i64_w,i32_w]
    rfl
   refine pure_ (i:=3) (N:=some 14) (v:=?_) (a':=?_) #[true,true,true,true,false,false] rfl rfl (any_of HT_.out (by kernel_rfl)) (fun _ _ _ h => h) (Or.inl ⟨by rfl,?_⟩) ?_ ?_
   rotate_left
   ·intro w'
    go_simp
    with_reducible rfl
   rotate_left
   ·simp only [Act.put,List.setIfInBounds_toArray,List.set_cons_zero,List.set_cons_succ,i64_w,i32_w]
    rfl
   refine one_ (i:=4) (N:=some 6) #[true,true,true,true,true,false] rfl rfl (one_of HT_.out (by kernel_rfl)) (by decide) (fun K hK => ?_)
   refine box_step (by rfl) (N:=6) rfl (cs:=#[.int .i64 0,.string (⟨#[]⟩ : ByteArray),.int .i64 0,.slice none 0 0,.int .i64 0,.string (⟨#[]⟩ : ByteArray),.int .i64 0,.slice none 0 0,.string (⟨#[]⟩ : ByteArray)]) (t:=48) ?hra ?_
   (case hra => first|(go_simp;done)|(go_simp;rfl))
   intro go hg w6 hbox hb
   have q_:=Aside0.mk (HR.out.box hg hb hbox)
   clear HR
   have HR:=q_
   clear q_
   clear hg hbox hb
   refine hK.out _ _ ⟨HR.out.cell 2 rfl 0 rfl,HR.out.cell 2 rfl 1 rfl,HR.out.cell 2 rfl 2 rfl,HR.out.cell 2 rfl 3 rfl⟩ (fun hHeld => ?_)
   clear hK K
   refine norm_ (a':=?_) ?_ ?_
   rotate_left
   ·show Act.put _ (some 6) _ = _
    simp only [Act.put,List.setIfInBounds_toArray,List.set_cons_zero,List.set_cons_succ,i64_w,i32_w]
    rfl
   exact norm_ (by simp only [putAll,Act.put,List.setIfInBounds_toArray,List.set_cons_zero,List.set_cons_succ]) (hCont go _ HR.out)
  ·skip
   refine box_step (by rfl) (N:=6) rfl (cs:=#[.int .i64 0,.string (⟨#[]⟩ : ByteArray),.int .i64 0,.slice none 0 0,.int .i64 0,.string (⟨#[]⟩ : ByteArray),.int .i64 0,.slice none 0 0,.string (⟨#[]⟩ : ByteArray)]) (t:=48) ?hra ?_
   (case hra => first|(go_simp;done)|(go_simp;rfl))
   intro go hg w5 hbox hb
   have q_:=Aside0.mk (HR.out.box hg hb hbox)
   clear HR
   have HR:=q_
   clear q_
   clear hg hbox hb
   refine hK.out _ _ ⟨HR.out.cell 2 rfl 0 rfl,HR.out.cell 2 rfl 1 rfl,HR.out.cell 2 rfl 2 rfl,HR.out.cell 2 rfl 3 rfl⟩ (fun hHeld => ?_)
   clear hK K
   refine norm_ (a':=?_) ?_ ?_
   rotate_left
   ·show Act.put _ (some 6) _ = _
    simp only [Act.put,List.setIfInBounds_toArray,List.set_cons_zero,List.set_cons_succ,i64_w,i32_w]
    rfl
   refine one_ (i:=1) (N:=some 12) #[true,true,true,false,true,false] rfl rfl (one_of HT_.out (by kernel_rfl)) (by decide) (fun K hK => ?_)
   refine goes_ Tryd.func60 (by kernel_rfl) rfl #[.string (⟨#[116,114,117,101]⟩ : ByteArray)] (by rfl) rfl rfl (by (try simp only [List.map_toArray,List.map_cons,List.map_nil]);first|done|rfl) ?_
   refine (atom_calls (⟨#[116,114,117,101]⟩ : ByteArray) w5).mono ?_
   rintro e w6 ⟨rfl,hb⟩
   refine ⟨_,rfl,?_⟩
   have q_:=Aside0.mk (HR.out.step hb)
   clear HR
   have HR:=q_
   clear q_
   clear hb
   refine hK.out _ _ ⟨HR.out.cell 2 rfl 0 rfl,HR.out.cell 2 rfl 1 rfl,HR.out.cell 2 rfl 2 rfl,HR.out.cell 2 rfl 3 rfl⟩ (fun hHeld => ?_)
   clear hK K
   refine norm_ (a':=?_) ?_ ?_
   rotate_left
   ·show Act.put _ (some 12) _ = _
    simp only [Act.put,List.setIfInBounds_toArray,List.set_cons_zero,List.set_cons_succ,i64_w,i32_w]
    rfl
   refine pure_ (i:=3) (N:=some 14) (v:=?_) (a':=?_) #[true,true,true,true,true,false] rfl rfl (any_of HT_.out (by kernel_rfl)) (fun _ _ _ h => h) (Or.inl ⟨by rfl,?_⟩) ?_ ?_
   rotate_left
   ·intro w'
    go_simp
    with_reducible rfl
   rotate_left
   ·simp only [Act.put,List.setIfInBounds_toArray,List.set_cons_zero,List.set_cons_succ,i64_w,i32_w]
    rfl
   exact norm_ (by simp only [putAll,Act.put,List.setIfInBounds_toArray,List.set_cons_zero,List.set_cons_succ]) (hCont go _ HR.out)
 rintro go w7 hR_
 clear HR
 have HR:=Aside0.mk (show Run w w (fun _ => False) [As.box go 48 #[.int .i64 0,.string (⟨#[]⟩ : ByteArray),.int .i64 0,.slice none 0 0,.int .i64 0,.string (⟨#[]⟩ : ByteArray),.int .i64 0,.slice none 0 0,.string (⟨#[]⟩ : ByteArray)],As.box gr 48 #[.int .i64 0,.string (⟨#[]⟩ : ByteArray),.int .i64 0,.slice none 0 0,.int .i64 0,.string (⟨#[]⟩ : ByteArray),.int .i64 0,.slice none 0 0,.string (⟨#[]⟩ : ByteArray)],As.box ga 29 #[.int .i64 a0,.string a1,.int .i64 a2,.slice (some ad) 2 c]] w7 from hR_)
 clear hR_
 refine norm_ (a':=?_) ?_ ?_
 rotate_left
 ·simp only [putAll,Act.put,List.setIfInBounds_toArray,List.set_cons_zero,List.set_cons_succ]
  rfl
 refine last_ (i:=5) (N:=none) #[true,true,true,true,true,true] rfl rfl (one_of HT_.out (by kernel_rfl)) (by decide) (fun K hK => ?_)
 have hz0_ : w7.cell? ⟨go,0,none⟩ = some (.int .i64 0):=HR.out.cell 0 rfl 0 rfl
 have fz0_:=HR.out.free 0 rfl 0
 have hz1_ : w7.cell? ⟨go,1,none⟩ = some (.string (⟨#[]⟩ : ByteArray)):=HR.out.cell 0 rfl 1 rfl
 have fz1_:=HR.out.free 0 rfl 1
 have hz2_ : w7.cell? ⟨go,2,none⟩ = some (.int .i64 0):=HR.out.cell 0 rfl 2 rfl
 have fz2_:=HR.out.free 0 rfl 2
 have hz3_ : w7.cell? ⟨go,3,none⟩ = some (.slice none 0 0):=HR.out.cell 0 rfl 3 rfl
 have fz3_:=HR.out.free 0 rfl 3
 have hz4_ : w7.cell? ⟨go,4,none⟩ = some (.int .i64 0):=HR.out.cell 0 rfl 4 rfl
 have fz4_:=HR.out.free 0 rfl 4
 have hz5_ : w7.cell? ⟨go,5,none⟩ = some (.string (⟨#[]⟩ : ByteArray)):=HR.out.cell 0 rfl 5 rfl
 have fz5_:=HR.out.free 0 rfl 5
 have hz6_ : w7.cell? ⟨go,6,none⟩ = some (.int .i64 0):=HR.out.cell 0 rfl 6 rfl
 have fz6_:=HR.out.free 0 rfl 6
 have hz7_ : w7.cell? ⟨go,7,none⟩ = some (.slice none 0 0):=HR.out.cell 0 rfl 7 rfl
 have fz7_:=HR.out.free 0 rfl 7
 have hz8_ : w7.cell? ⟨go,8,none⟩ = some (.string (⟨#[]⟩ : ByteArray)):=HR.out.cell 0 rfl 8 rfl
 have fz8_:=HR.out.free 0 rfl 8
 refine skip_ (w1:=w7.setCells go 0 [.int .i64 a0,.string a1,.int .i64 a2,.slice (some ad) 2 c,.int .i64 2,.string (⟨#[116,114,117,101]⟩ : ByteArray),.int .i64 0,.slice none 0 0,.string file]) (by rfl) rfl ?_ ?_
 ·first|(go_simp;done)|(go_simp;rfl)
 refine hK.out _ _ ?_
 clear hK K hz0_ fz0_ hz1_ fz1_ hz2_ fz2_ hz3_ fz3_ hz4_ fz4_ hz5_ fz5_ hz6_ fz6_ hz7_ fz7_ hz8_ fz8_
 have q_:=Aside0.mk (HR.out.store 0 rfl [.int .i64 a0,.string a1,.int .i64 a2,.slice (some ad) 2 c,.int .i64 2,.string (⟨#[116,114,117,101]⟩ : ByteArray),.int .i64 0,.slice none 0 0,.string file] rfl)
 clear HR
 have HR:=q_
 clear q_
 generalize w7.setCells go 0 [.int .i64 a0,.string a1,.int .i64 a2,.slice (some ad) 2 c,.int .i64 2,.string (⟨#[116,114,117,101]⟩ : ByteArray),.int .i64 0,.slice none 0 0,.string file] = w8 at HR ⊢
 refine done_ (done_of HT_.out (by kernel_rfl)) ?_
 have hc4_ga_0 : w8.cell? ⟨ga,0,none⟩ = some (.int .i64 a0):=HR.out.cell 2 rfl 0 rfl
 have hc4_ga_1 : w8.cell? ⟨ga,1,none⟩ = some (.string a1):=HR.out.cell 2 rfl 1 rfl
 have hc4_ga_2 : w8.cell? ⟨ga,2,none⟩ = some (.int .i64 a2):=HR.out.cell 2 rfl 2 rfl
 have hc4_ga_3 : w8.cell? ⟨ga,3,none⟩ = some (.slice (some ad) 2 c):=HR.out.cell 2 rfl 3 rfl
 go_wp2_with (first
  | (go_at_call 61; with_reducible refine (H2.out w8 HR.out.bel).mono ?_; rintro e w9 ⟨rfl, hb⟩; have q_ := Aside0.mk (HR.out.step hb); clear HR; have HR := q_; clear q_; clear hb; clear hc4_ga_0 hc4_ga_1 hc4_ga_2 hc4_ga_3; have hc5_ga_0 : w9.cell? ⟨ga, 0, none⟩ = some (.int .i64 a0) := HR.out.cell 2 rfl 0 rfl; have hc5_ga_1 : w9.cell? ⟨ga, 1, none⟩ = some (.string a1) := HR.out.cell 2 rfl 1 rfl; have hc5_ga_2 : w9.cell? ⟨ga, 2, none⟩ = some (.int .i64 a2) := HR.out.cell 2 rfl 2 rfl; have hc5_ga_3 : w9.cell? ⟨ga, 3, none⟩ = some (.slice (some ad) 2 c) := HR.out.cell 2 rfl 3 rfl))
 have q_:=Aside0.mk (HR.out.drew)
 clear HR
 have HR:=q_
 clear q_
 clear hc5_ga_0 hc5_ga_1 hc5_ga_2 hc5_ga_3
 refine start_ (n:=12) (S:=fun w' => w'.cell? ⟨ga,0,none⟩ = some (.int .i64 a0) ∧ w'.cell? ⟨ga,1,none⟩ = some (.string a1) ∧ w'.cell? ⟨ga,2,none⟩ = some (.int .i64 a2) ∧ w'.cell? ⟨ga,3,none⟩ = some (.slice (some ad) 2 c) ∧ w'.cell? ad = some (.int .i64 x.f0) ∧ w'.cell? ⟨ad.block,ad.off + 1,none⟩ = some (.string x.f1) ∧ w'.cell? ⟨ad.block,ad.off + 2,none⟩ = some (.int .i64 x.f2) ∧ w'.cell? ⟨ad.block,ad.off + 3,none⟩ = some (.slice A3 x.f3.length c3) ∧ w'.cell? ⟨ad.block,ad.off + 4,none⟩ = some (.int .i64 y.f0) ∧ w'.cell? ⟨ad.block,ad.off + 5,none⟩ = some (.string y.f1) ∧ w'.cell? ⟨ad.block,ad.off + 6,none⟩ = some (.int .i64 y.f2) ∧ w'.cell? ⟨ad.block,ad.off + 7,none⟩ = some (.slice A7 y.f3.length c7)) (ds:=[11]) #[false,false,false,false,false,false,false,false,false,false,false,false] (by kernel_rfl) rfl rfl ⟨HR.out.cell 2 rfl 0 rfl,HR.out.cell 2 rfl 1 rfl,HR.out.cell 2 rfl 2 rfl,HR.out.cell 2 rfl 3 rfl,(HR.out.bel.cell (World.block_lt_of_cell? w _ HX0.out)).trans HX0.out,(HR.out.bel.cell (World.block_lt_of_cell? w _ HX1.out)).trans HX1.out,(HR.out.bel.cell (World.block_lt_of_cell? w _ HX2.out)).trans HX2.out,(HR.out.bel.cell (World.block_lt_of_cell? w _ HX3.out)).trans HX3.out,(HR.out.bel.cell (World.block_lt_of_cell? w _ HY0.out)).trans HY0.out,(HR.out.bel.cell (World.block_lt_of_cell? w _ HY1.out)).trans HY1.out,(HR.out.bel.cell (World.block_lt_of_cell? w _ HY2.out)).trans HY2.out,(HR.out.bel.cell (World.block_lt_of_cell? w _ HY3.out)).trans HY3.out⟩ (fun hHeld => ?_);refine with_tabW implclo5_tab implclo5_bits (fun HT_ HW_ => ?_)
 generalize w9.drew = w10 at HR hHeld ⊢
 refine pure_ (i:=0) (N:=some 17) (v:=?_) (a':=?_) #[true,false,false,false,false,false,false,false,false,false,false,false] rfl rfl (any_of HT_.out (by kernel_rfl)) (fun _ _ _ h => h) (Or.inl ⟨by rfl,?_⟩) ?_ ?_
 rotate_left
 ·intro w'
  go_simp
  with_reducible rfl
 rotate_left
 ·simp only [Act.put,List.setIfInBounds_toArray,List.set_cons_zero,List.set_cons_succ,i64_w,i32_w]
  rfl
 refine take_ (i:=1) (N:=some 18) (v:=?_) (a':=?_) #[true,true,false,false,false,false,false,false,false,false,false,false] rfl rfl (take_ofW HT_.out HW_.out (by kernel_rfl)) (fun _ _ _ h => h) (Or.inl ⟨by rfl,?_⟩) hHeld ?_ ?_
 rotate_left
 ·rintro w' ⟨s0,s1,s2,s3,s4,s5,s6,s7,s8,s9,s10,s11⟩
  go_simp
  with_reducible rfl
 rotate_left
 ·simp only [Act.put,List.setIfInBounds_toArray,List.set_cons_zero,List.set_cons_succ,i64_w,i32_w]
  rfl
 refine pure_ (i:=2) (N:=some 19) (v:=?_) (a':=?_) #[true,true,true,false,false,false,false,false,false,false,false,false] rfl rfl (any_of HT_.out (by kernel_rfl)) (fun _ _ _ h => h) (Or.inl ⟨by rfl,?_⟩) ?_ ?_
 rotate_left
 ·intro w'
  go_simp
  with_reducible rfl
 rotate_left
 ·simp only [Act.put,List.setIfInBounds_toArray,List.set_cons_zero,List.set_cons_succ,i64_w,i32_w]
  rfl
 refine take_ (i:=3) (N:=some 20) (v:=?_) (a':=?_) #[true,true,true,true,false,false,false,false,false,false,false,false] rfl rfl (take_ofW HT_.out HW_.out (by kernel_rfl)) (fun _ _ _ h => h) (Or.inl ⟨by rfl,?_⟩) hHeld ?_ ?_
 rotate_left
 ·rintro w' ⟨s0,s1,s2,s3,s4,s5,s6,s7,s8,s9,s10,s11⟩
  go_simp
  with_reducible rfl
 rotate_left
 ·simp only [Act.put,List.setIfInBounds_toArray,List.set_cons_zero,List.set_cons_succ,i64_w,i32_w]
  rfl
 refine pure_ (i:=4) (N:=some 21) (v:=?_) (a':=?_) #[true,true,true,true,true,false,false,false,false,false,false,false] rfl rfl (any_of HT_.out (by kernel_rfl)) (fun _ _ _ h => h) (Or.inl ⟨by rfl,?_⟩) ?_ ?_
 rotate_left
 ·intro w'
  go_simp
  with_reducible rfl
 rotate_left
 ·simp only [Act.put,List.setIfInBounds_toArray,List.set_cons_zero,List.set_cons_succ,i64_w,i32_w]
  rfl
 refine take_ (i:=5) (N:=some 22) (v:=?_) (a':=?_) #[true,true,true,true,true,true,false,false,false,false,false,false] rfl rfl (take_ofW HT_.out HW_.out (by kernel_rfl)) (fun _ _ _ h => h) (Or.inl ⟨by rfl,?_⟩) hHeld ?_ ?_
 rotate_left
 ·rintro w' ⟨s0,s1,s2,s3,s4,s5,s6,s7,s8,s9,s10,s11⟩
  go_simp
  with_reducible rfl
 rotate_left
 ·simp only [Act.put,List.setIfInBounds_toArray,List.set_cons_zero,List.set_cons_succ,i64_w,i32_w]
  rfl
 refine pure_ (i:=6) (N:=some 23) (v:=?_) (a':=?_) #[true,true,true,true,true,true,true,false,false,false,false,false] rfl rfl (any_of HT_.out (by kernel_rfl)) (fun _ _ _ h => h) (Or.inl ⟨by rfl,?_⟩) ?_ ?_
 rotate_left
 ·intro w'
  go_simp
  with_reducible rfl
 rotate_left
 ·simp only [Act.put,List.setIfInBounds_toArray,List.set_cons_zero,List.set_cons_succ,i64_w,i32_w]
  rfl
 refine take_ (i:=7) (N:=some 24) (v:=?_) (a':=?_) #[true,true,true,true,true,true,true,true,false,false,false,false] rfl rfl (take_ofW HT_.out HW_.out (by kernel_rfl)) (fun _ _ _ h => h) (Or.inl ⟨by rfl,?_⟩) hHeld ?_ ?_
 rotate_left
 ·rintro w' ⟨s0,s1,s2,s3,s4,s5,s6,s7,s8,s9,s10,s11⟩
  go_simp
  with_reducible rfl
 rotate_left
 ·simp only [Act.put,List.setIfInBounds_toArray,List.set_cons_zero,List.set_cons_succ,i64_w,i32_w]
  rfl
 refine pure_ (i:=8) (N:=some 25) (v:=?_) (a':=?_) #[true,true,true,true,true,true,true,true,true,false,false,false] rfl rfl (any_of HT_.out (by kernel_rfl)) (fun _ _ _ h => h) (Or.inl ⟨by rfl,?_⟩) ?_ ?_
 rotate_left
 ·intro w'
  go_simp
  with_reducible rfl
 rotate_left
 ·simp only [Act.put,List.setIfInBounds_toArray,List.set_cons_zero,List.set_cons_succ,i64_w,i32_w]
  rfl
 refine one_ (i:=9) (N:=none) #[true,true,true,true,true,true,true,true,true,true,false,false] rfl rfl (one_of HT_.out (by kernel_rfl)) (by decide) (fun K hK => ?_)
 have hz0_ : w10.cell? ⟨go,0,none⟩ = some (.int .i64 a0):=HR.out.cell 0 rfl 0 rfl
 have fz0_:=HR.out.free 0 rfl 0
 have hz1_ : w10.cell? ⟨go,1,none⟩ = some (.string a1):=HR.out.cell 0 rfl 1 rfl
 have fz1_:=HR.out.free 0 rfl 1
 have hz2_ : w10.cell? ⟨go,2,none⟩ = some (.int .i64 a2):=HR.out.cell 0 rfl 2 rfl
 have fz2_:=HR.out.free 0 rfl 2
 have hz3_ : w10.cell? ⟨go,3,none⟩ = some (.slice (some ad) 2 c):=HR.out.cell 0 rfl 3 rfl
 have fz3_:=HR.out.free 0 rfl 3
 have hz4_ : w10.cell? ⟨go,4,none⟩ = some (.int .i64 2):=HR.out.cell 0 rfl 4 rfl
 have fz4_:=HR.out.free 0 rfl 4
 have hz5_ : w10.cell? ⟨go,5,none⟩ = some (.string (⟨#[116,114,117,101]⟩ : ByteArray)):=HR.out.cell 0 rfl 5 rfl
 have fz5_:=HR.out.free 0 rfl 5
 have hz6_ : w10.cell? ⟨go,6,none⟩ = some (.int .i64 0):=HR.out.cell 0 rfl 6 rfl
 have fz6_:=HR.out.free 0 rfl 6
 have hz7_ : w10.cell? ⟨go,7,none⟩ = some (.slice none 0 0):=HR.out.cell 0 rfl 7 rfl
 have fz7_:=HR.out.free 0 rfl 7
 have hz8_ : w10.cell? ⟨go,8,none⟩ = some (.string file):=HR.out.cell 0 rfl 8 rfl
 have fz8_:=HR.out.free 0 rfl 8
 refine skip_ (w1:=w10.setCells go 0 [.int .i64 x.f0,.string x.f1,.int .i64 x.f2,.slice A3 x.f3.length c3]) (by rfl) rfl ?_ ?_
 ·first|(go_simp;done)|(go_simp;rfl)
 have q_:=Aside0.mk (HR.out.seg 0 rfl 0 [.int .i64 x.f0,.string x.f1,.int .i64 x.f2,.slice A3 x.f3.length c3] (Nat.le_of_ble_eq_true rfl))
 clear HR
 have HR:=q_
 clear q_
 clear hz0_ fz0_ hz1_ fz1_ hz2_ fz2_ hz3_ fz3_ hz4_ fz4_ hz5_ fz5_ hz6_ fz6_ hz7_ fz7_ hz8_ fz8_
 generalize w10.setCells go 0 [.int .i64 x.f0,.string x.f1,.int .i64 x.f2,.slice A3 x.f3.length c3] = w11 at HR ⊢
 refine hK.out _ _ ⟨HR.out.cell 2 rfl 0 rfl,HR.out.cell 2 rfl 1 rfl,HR.out.cell 2 rfl 2 rfl,HR.out.cell 2 rfl 3 rfl,(HR.out.bel.cell (World.block_lt_of_cell? w _ HX0.out)).trans HX0.out,(HR.out.bel.cell (World.block_lt_of_cell? w _ HX1.out)).trans HX1.out,(HR.out.bel.cell (World.block_lt_of_cell? w _ HX2.out)).trans HX2.out,(HR.out.bel.cell (World.block_lt_of_cell? w _ HX3.out)).trans HX3.out,(HR.out.bel.cell (World.block_lt_of_cell? w _ HY0.out)).trans HY0.out,(HR.out.bel.cell (World.block_lt_of_cell? w _ HY1.out)).trans HY1.out,(HR.out.bel.cell (World.block_lt_of_cell? w _ HY2.out)).trans HY2.out,(HR.out.bel.cell (World.block_lt_of_cell? w _ HY3.out)).trans HY3.out⟩ (fun hHeld => ?_)
 clear hK K
 refine pure_ (i:=10) (N:=some 26) (v:=?_) (a':=?_) #[true,true,true,true,true,true,true,true,true,true,true,false] rfl rfl (any_of HT_.out (by kernel_rfl)) (fun _ _ _ h => h) (Or.inl ⟨by rfl,?_⟩) ?_ ?_
 rotate_left
 ·intro w'
  go_simp
  with_reducible rfl
 rotate_left
 ·simp only [Act.put,List.setIfInBounds_toArray,List.set_cons_zero,List.set_cons_succ,i64_w,i32_w]
  rfl
 refine last_ (i:=11) (N:=none) #[true,true,true,true,true,true,true,true,true,true,true,true] rfl rfl (one_of HT_.out (by kernel_rfl)) (by decide) (fun K hK => ?_)
 have hz0_ : w11.cell? ⟨go,0,none⟩ = some (.int .i64 x.f0):=HR.out.cell 0 rfl 0 rfl
 have fz0_:=HR.out.free 0 rfl 0
 have hz1_ : w11.cell? ⟨go,1,none⟩ = some (.string x.f1):=HR.out.cell 0 rfl 1 rfl
 have fz1_:=HR.out.free 0 rfl 1
 have hz2_ : w11.cell? ⟨go,2,none⟩ = some (.int .i64 x.f2):=HR.out.cell 0 rfl 2 rfl
 have fz2_:=HR.out.free 0 rfl 2
 have hz3_ : w11.cell? ⟨go,3,none⟩ = some (.slice A3 x.f3.length c3):=HR.out.cell 0 rfl 3 rfl
 have fz3_:=HR.out.free 0 rfl 3
 have hz4_ : w11.cell? ⟨go,4,none⟩ = some (.int .i64 2):=HR.out.cell 0 rfl 4 rfl
 have fz4_:=HR.out.free 0 rfl 4
 have hz5_ : w11.cell? ⟨go,5,none⟩ = some (.string (⟨#[116,114,117,101]⟩ : ByteArray)):=HR.out.cell 0 rfl 5 rfl
 have fz5_:=HR.out.free 0 rfl 5
 have hz6_ : w11.cell? ⟨go,6,none⟩ = some (.int .i64 0):=HR.out.cell 0 rfl 6 rfl
 have fz6_:=HR.out.free 0 rfl 6
 have hz7_ : w11.cell? ⟨go,7,none⟩ = some (.slice none 0 0):=HR.out.cell 0 rfl 7 rfl
 have fz7_:=HR.out.free 0 rfl 7
 have hz8_ : w11.cell? ⟨go,8,none⟩ = some (.string file):=HR.out.cell 0 rfl 8 rfl
 have fz8_:=HR.out.free 0 rfl 8
 refine skip_ (w1:=w11.setCells go 4 [.int .i64 y.f0,.string y.f1,.int .i64 y.f2,.slice A7 y.f3.length c7]) (by rfl) rfl ?_ ?_
 ·first|(go_simp;done)|(go_simp;rfl)
 refine hK.out _ _ ?_
 clear hK K hz0_ fz0_ hz1_ fz1_ hz2_ fz2_ hz3_ fz3_ hz4_ fz4_ hz5_ fz5_ hz6_ fz6_ hz7_ fz7_ hz8_ fz8_
 have q_:=Aside0.mk (HR.out.seg 0 rfl 4 [.int .i64 y.f0,.string y.f1,.int .i64 y.f2,.slice A7 y.f3.length c7] (Nat.le_of_ble_eq_true rfl))
 clear HR
 have HR:=q_
 clear q_
 generalize w11.setCells go 4 [.int .i64 y.f0,.string y.f1,.int .i64 y.f2,.slice A7 y.f3.length c7] = w12 at HR ⊢
 refine done_ (done_of HT_.out (by kernel_rfl)) ?_
 have hc6_go_0 : w12.cell? ⟨go,0,none⟩ = some (.int .i64 x.f0):=HR.out.cell 0 rfl 0 rfl
 have hc6_go_1 : w12.cell? ⟨go,1,none⟩ = some (.string x.f1):=HR.out.cell 0 rfl 1 rfl
 have hc6_go_2 : w12.cell? ⟨go,2,none⟩ = some (.int .i64 x.f2):=HR.out.cell 0 rfl 2 rfl
 have hc6_go_3 : w12.cell? ⟨go,3,none⟩ = some (.slice A3 x.f3.length c3):=HR.out.cell 0 rfl 3 rfl
 have hc6_go_4 : w12.cell? ⟨go,4,none⟩ = some (.int .i64 y.f0):=HR.out.cell 0 rfl 4 rfl
 have hc6_go_5 : w12.cell? ⟨go,5,none⟩ = some (.string y.f1):=HR.out.cell 0 rfl 5 rfl
 have hc6_go_6 : w12.cell? ⟨go,6,none⟩ = some (.int .i64 y.f2):=HR.out.cell 0 rfl 6 rfl
 have hc6_go_7 : w12.cell? ⟨go,7,none⟩ = some (.slice A7 y.f3.length c7):=HR.out.cell 0 rfl 7 rfl
 have hc6_go_8 : w12.cell? ⟨go,8,none⟩ = some (.string file):=HR.out.cell 0 rfl 8 rfl
 rcases Bool.eq_false_or_eq_true bh with rfl|rfl
 ·rcases Bool.eq_false_or_eq_true bb with rfl|rfl
  ·skip
   go_wp2_with (first
    | ((with_reducible refine gate_dst (N := 33) rfl ?_); refine lit_event ?hg33 (N := 33) ?hd33 (cs := #[.int .i64 y.f0, .string y.f1, .int .i64 y.f2, .slice A7 y.f3.length c7]) (t := 29) (n := 1) ?hr33 ?_; (case hd33 => rfl); (case hg33 => rfl); (case hr33 => first | (go_simp; done) | (go_simp; rfl)); intro gl hg w13 hbox hb; have q_ := Aside0.mk (HR.out.box hg hb hbox); clear HR; have HR := q_; clear q_; clear hg hbox hb; clear hc6_go_0 hc6_go_1 hc6_go_2 hc6_go_3 hc6_go_4 hc6_go_5 hc6_go_6 hc6_go_7 hc6_go_8; have hc7_go_0 : w13.cell? ⟨go, 0, none⟩ = some (.int .i64 x.f0) := HR.out.cell 1 rfl 0 rfl; have hc7_go_1 : w13.cell? ⟨go, 1, none⟩ = some (.string x.f1) := HR.out.cell 1 rfl 1 rfl; have hc7_go_2 : w13.cell? ⟨go, 2, none⟩ = some (.int .i64 x.f2) := HR.out.cell 1 rfl 2 rfl; have hc7_go_3 : w13.cell? ⟨go, 3, none⟩ = some (.slice A3 x.f3.length c3) := HR.out.cell 1 rfl 3 rfl; have hc7_go_4 : w13.cell? ⟨go, 4, none⟩ = some (.int .i64 y.f0) := HR.out.cell 1 rfl 4 rfl; have hc7_go_5 : w13.cell? ⟨go, 5, none⟩ = some (.string y.f1) := HR.out.cell 1 rfl 5 rfl; have hc7_go_6 : w13.cell? ⟨go, 6, none⟩ = some (.int .i64 y.f2) := HR.out.cell 1 rfl 6 rfl; have hc7_go_7 : w13.cell? ⟨go, 7, none⟩ = some (.slice A7 y.f3.length c7) := HR.out.cell 1 rfl 7 rfl; have hc7_go_8 : w13.cell? ⟨go, 8, none⟩ = some (.string file) := HR.out.cell 1 rfl 8 rfl; have fc7_go_0 := HR.out.free 1 rfl 0; have fc7_go_1 := HR.out.free 1 rfl 1; have fc7_go_2 := HR.out.free 1 rfl 2; have fc7_go_3 := HR.out.free 1 rfl 3; have fc7_go_4 := HR.out.free 1 rfl 4; have fc7_go_5 := HR.out.free 1 rfl 5; have fc7_go_6 := HR.out.free 1 rfl 6; have fc7_go_7 := HR.out.free 1 rfl 7; have fc7_go_8 := HR.out.free 1 rfl 8)
    | (go_at_call 62; with_reducible refine (struct_calls (⟨#[99, 97, 108, 108]⟩ : ByteArray) (some ⟨gl, 0, none⟩) 1 1 w13).mono ?_; rintro e w14 ⟨rfl, hb⟩; have q_ := Aside0.mk (HR.out.step hb); clear HR; have HR := q_; clear q_; clear hb; clear hc7_go_0 hc7_go_1 hc7_go_2 hc7_go_3 hc7_go_4 hc7_go_5 hc7_go_6 hc7_go_7 hc7_go_8 fc7_go_0 fc7_go_1 fc7_go_2 fc7_go_3 fc7_go_4 fc7_go_5 fc7_go_6 fc7_go_7 fc7_go_8; have hc8_go_0 : w14.cell? ⟨go, 0, none⟩ = some (.int .i64 x.f0) := HR.out.cell 1 rfl 0 rfl; have hc8_go_1 : w14.cell? ⟨go, 1, none⟩ = some (.string x.f1) := HR.out.cell 1 rfl 1 rfl; have hc8_go_2 : w14.cell? ⟨go, 2, none⟩ = some (.int .i64 x.f2) := HR.out.cell 1 rfl 2 rfl; have hc8_go_3 : w14.cell? ⟨go, 3, none⟩ = some (.slice A3 x.f3.length c3) := HR.out.cell 1 rfl 3 rfl; have hc8_go_4 : w14.cell? ⟨go, 4, none⟩ = some (.int .i64 y.f0) := HR.out.cell 1 rfl 4 rfl; have hc8_go_5 : w14.cell? ⟨go, 5, none⟩ = some (.string y.f1) := HR.out.cell 1 rfl 5 rfl; have hc8_go_6 : w14.cell? ⟨go, 6, none⟩ = some (.int .i64 y.f2) := HR.out.cell 1 rfl 6 rfl; have hc8_go_7 : w14.cell? ⟨go, 7, none⟩ = some (.slice A7 y.f3.length c7) := HR.out.cell 1 rfl 7 rfl; have hc8_go_8 : w14.cell? ⟨go, 8, none⟩ = some (.string file) := HR.out.cell 1 rfl 8 rfl; have fc8_go_0 := HR.out.free 1 rfl 0; have fc8_go_1 := HR.out.free 1 rfl 1; have fc8_go_2 := HR.out.free 1 rfl 2; have fc8_go_3 := HR.out.free 1 rfl 3; have fc8_go_4 := HR.out.free 1 rfl 4; have fc8_go_5 := HR.out.free 1 rfl 5; have fc8_go_6 := HR.out.free 1 rfl 6; have fc8_go_7 := HR.out.free 1 rfl 7; have fc8_go_8 := HR.out.free 1 rfl 8)
    | ((with_reducible refine gate_store (t := 29) (p := 35) rfl ?_); refine store_event (t := 29) (p := 35) (v := ?vo_8) (w1 := w14.setCells go 4 [.int .i64 4, .string (⟨#[99, 97, 108, 108]⟩ : ByteArray), .int .i64 0, .slice (some ⟨gl, 0, none⟩) 1 1]) ?hgs_8 ?hos_8 ?hns_8 ?hrs_8 ?_; (case hos_8 => rfl); (case hgs_8 => rfl); (case hns_8 => rfl); (case hrs_8 => first | (go_simp; done) | (go_simp; rfl)); intro w15 hw; have q_ := Aside0.mk (HR.out.seg 1 rfl 4 [.int .i64 4, .string (⟨#[99, 97, 108, 108]⟩ : ByteArray), .int .i64 0, .slice (some ⟨gl, 0, none⟩) 1 1] (Nat.le_of_ble_eq_true rfl)); rw [← hw] at q_; clear HR; have HR := q_; clear q_; clear hw; clear hc8_go_0 hc8_go_1 hc8_go_2 hc8_go_3 hc8_go_4 hc8_go_5 hc8_go_6 hc8_go_7 hc8_go_8 fc8_go_0 fc8_go_1 fc8_go_2 fc8_go_3 fc8_go_4 fc8_go_5 fc8_go_6 fc8_go_7 fc8_go_8; have hc9_go_0 : w15.cell? ⟨go, 0, none⟩ = some (.int .i64 x.f0) := HR.out.cell 1 rfl 0 rfl; have hc9_go_1 : w15.cell? ⟨go, 1, none⟩ = some (.string x.f1) := HR.out.cell 1 rfl 1 rfl; have hc9_go_2 : w15.cell? ⟨go, 2, none⟩ = some (.int .i64 x.f2) := HR.out.cell 1 rfl 2 rfl; have hc9_go_3 : w15.cell? ⟨go, 3, none⟩ = some (.slice A3 x.f3.length c3) := HR.out.cell 1 rfl 3 rfl; have hc9_go_4 : w15.cell? ⟨go, 4, none⟩ = some (.int .i64 4) := HR.out.cell 1 rfl 4 rfl; have hc9_go_5 : w15.cell? ⟨go, 5, none⟩ = some (.string (⟨#[99, 97, 108, 108]⟩ : ByteArray)) := HR.out.cell 1 rfl 5 rfl; have hc9_go_6 : w15.cell? ⟨go, 6, none⟩ = some (.int .i64 0) := HR.out.cell 1 rfl 6 rfl; have hc9_go_7 : w15.cell? ⟨go, 7, none⟩ = some (.slice (some ⟨gl, 0, none⟩) 1 1) := HR.out.cell 1 rfl 7 rfl; have hc9_go_8 : w15.cell? ⟨go, 8, none⟩ = some (.string file) := HR.out.cell 1 rfl 8 rfl)
    | (go_at_call 57; with_reducible refine (H3.out w15 A3 c3 HR.out.bel (Kd.C_below HI3.out HR.out.bel) HL3.out).mono ?_; rintro e w16 ⟨rfl, hb⟩; have q_ := Aside0.mk (HR.out.step hb); clear HR; have HR := q_; clear q_; clear hb; clear hc9_go_0 hc9_go_1 hc9_go_2 hc9_go_3 hc9_go_4 hc9_go_5 hc9_go_6 hc9_go_7 hc9_go_8; have hc10_go_0 : w16.cell? ⟨go, 0, none⟩ = some (.int .i64 x.f0) := HR.out.cell 1 rfl 0 rfl; have hc10_go_1 : w16.cell? ⟨go, 1, none⟩ = some (.string x.f1) := HR.out.cell 1 rfl 1 rfl; have hc10_go_2 : w16.cell? ⟨go, 2, none⟩ = some (.int .i64 x.f2) := HR.out.cell 1 rfl 2 rfl; have hc10_go_3 : w16.cell? ⟨go, 3, none⟩ = some (.slice A3 x.f3.length c3) := HR.out.cell 1 rfl 3 rfl; have hc10_go_4 : w16.cell? ⟨go, 4, none⟩ = some (.int .i64 4) := HR.out.cell 1 rfl 4 rfl; have hc10_go_5 : w16.cell? ⟨go, 5, none⟩ = some (.string (⟨#[99, 97, 108, 108]⟩ : ByteArray)) := HR.out.cell 1 rfl 5 rfl; have hc10_go_6 : w16.cell? ⟨go, 6, none⟩ = some (.int .i64 0) := HR.out.cell 1 rfl 6 rfl; have hc10_go_7 : w16.cell? ⟨go, 7, none⟩ = some (.slice (some ⟨gl, 0, none⟩) 1 1) := HR.out.cell 1 rfl 7 rfl; have hc10_go_8 : w16.cell? ⟨go, 8, none⟩ = some (.string file) := HR.out.cell 1 rfl 8 rfl)
    | (go_at_call 56; have hl_ := lit1 (HR.out.has 0 rfl).2 HL7.out (Kd.C_below HI7.out HR.out.bel); with_reducible refine (H4.out w16 gl hl_).mono ?_; rintro e w17 ⟨rfl, hb⟩; clear hl_; have q_ := Aside0.mk (HR.out.step hb); clear HR; have HR := q_; clear q_; clear hb; clear hc10_go_0 hc10_go_1 hc10_go_2 hc10_go_3 hc10_go_4 hc10_go_5 hc10_go_6 hc10_go_7 hc10_go_8; have hc11_go_0 : w17.cell? ⟨go, 0, none⟩ = some (.int .i64 x.f0) := HR.out.cell 1 rfl 0 rfl; have hc11_go_1 : w17.cell? ⟨go, 1, none⟩ = some (.string x.f1) := HR.out.cell 1 rfl 1 rfl; have hc11_go_2 : w17.cell? ⟨go, 2, none⟩ = some (.int .i64 x.f2) := HR.out.cell 1 rfl 2 rfl; have hc11_go_3 : w17.cell? ⟨go, 3, none⟩ = some (.slice A3 x.f3.length c3) := HR.out.cell 1 rfl 3 rfl; have hc11_go_4 : w17.cell? ⟨go, 4, none⟩ = some (.int .i64 4) := HR.out.cell 1 rfl 4 rfl; have hc11_go_5 : w17.cell? ⟨go, 5, none⟩ = some (.string (⟨#[99, 97, 108, 108]⟩ : ByteArray)) := HR.out.cell 1 rfl 5 rfl; have hc11_go_6 : w17.cell? ⟨go, 6, none⟩ = some (.int .i64 0) := HR.out.cell 1 rfl 6 rfl; have hc11_go_7 : w17.cell? ⟨go, 7, none⟩ = some (.slice (some ⟨gl, 0, none⟩) 1 1) := HR.out.cell 1 rfl 7 rfl; have hc11_go_8 : w17.cell? ⟨go, 8, none⟩ = some (.string file) := HR.out.cell 1 rfl 8 rfl)
    | (go_at_call 63; have hl_ := lit1 (HR.out.has 0 rfl).2 HL7.out (Kd.C_below HI7.out HR.out.bel); with_reducible refine (H5.out w17 A3 c3 gl (Kd.C_below HI3.out HR.out.bel) HL3.out hl_).mono ?_; rintro e w18 ⟨A8, c8, B8, d8, rfl, ho, hb⟩; clear hl_; have q_ := Aside0.mk (HR.out.push _ hb ho); clear HR; have HR := q_; clear q_; clear hb ho; clear hc11_go_0 hc11_go_1 hc11_go_2 hc11_go_3 hc11_go_4 hc11_go_5 hc11_go_6 hc11_go_7 hc11_go_8; have hc12_gr_0 : w18.cell? ⟨gr, 0, none⟩ = some (.int .i64 0) := HR.out.cell 3 rfl 0 rfl; have hc12_gr_1 : w18.cell? ⟨gr, 1, none⟩ = some (.string (⟨#[]⟩ : ByteArray)) := HR.out.cell 3 rfl 1 rfl; have hc12_gr_2 : w18.cell? ⟨gr, 2, none⟩ = some (.int .i64 0) := HR.out.cell 3 rfl 2 rfl; have hc12_gr_3 : w18.cell? ⟨gr, 3, none⟩ = some (.slice none 0 0) := HR.out.cell 3 rfl 3 rfl; have hc12_gr_4 : w18.cell? ⟨gr, 4, none⟩ = some (.int .i64 0) := HR.out.cell 3 rfl 4 rfl; have hc12_gr_5 : w18.cell? ⟨gr, 5, none⟩ = some (.string (⟨#[]⟩ : ByteArray)) := HR.out.cell 3 rfl 5 rfl; have hc12_gr_6 : w18.cell? ⟨gr, 6, none⟩ = some (.int .i64 0) := HR.out.cell 3 rfl 6 rfl; have hc12_gr_7 : w18.cell? ⟨gr, 7, none⟩ = some (.slice none 0 0) := HR.out.cell 3 rfl 7 rfl; have hc12_gr_8 : w18.cell? ⟨gr, 8, none⟩ = some (.string (⟨#[]⟩ : ByteArray)) := HR.out.cell 3 rfl 8 rfl; have fc12_gr_0 := HR.out.free 3 rfl 0; have fc12_gr_1 := HR.out.free 3 rfl 1; have fc12_gr_2 := HR.out.free 3 rfl 2; have fc12_gr_3 := HR.out.free 3 rfl 3; have fc12_gr_4 := HR.out.free 3 rfl 4; have fc12_gr_5 := HR.out.free 3 rfl 5; have fc12_gr_6 := HR.out.free 3 rfl 6; have fc12_gr_7 := HR.out.free 3 rfl 7; have fc12_gr_8 := HR.out.free 3 rfl 8)
    | ((with_reducible refine gate_store (t := 48) (p := 4) rfl ?_); refine store_event (t := 48) (p := 4) (v := ?vo_9) (w1 := w18.setCells gr 0 [.int .i64 x.f0, .string x.f1, .int .i64 x.f2, .slice A8 x.f3.length c8, .int .i64 4, .string (⟨#[99, 97, 108, 108]⟩ : ByteArray), .int .i64 0, .slice B8 1 d8, .string file]) ?hgs_9 ?hos_9 ?hns_9 ?hrs_9 ?_; (case hos_9 => rfl); (case hgs_9 => rfl); (case hns_9 => rfl); (case hrs_9 => first | (go_simp; done) | (go_simp; rfl)); intro w19 hw; have q_ := Aside0.mk (hw ▸ HR.out.store 3 rfl [.int .i64 x.f0, .string x.f1, .int .i64 x.f2, .slice A8 x.f3.length c8, .int .i64 4, .string (⟨#[99, 97, 108, 108]⟩ : ByteArray), .int .i64 0, .slice B8 1 d8, .string file] rfl); clear HR; have HR := q_; clear q_; clear hw; clear hc12_gr_0 hc12_gr_1 hc12_gr_2 hc12_gr_3 hc12_gr_4 hc12_gr_5 hc12_gr_6 hc12_gr_7 hc12_gr_8 fc12_gr_0 fc12_gr_1 fc12_gr_2 fc12_gr_3 fc12_gr_4 fc12_gr_5 fc12_gr_6 fc12_gr_7 fc12_gr_8))
   refine bodyPost_ret (results_ct rfl _ _ gr 48 #[.int .i64 x.f0,.string x.f1,.int .i64 x.f2,.slice A8 x.f3.length c8,.int .i64 4,.string (⟨#[99,97,108,108]⟩ : ByteArray),.int .i64 0,.slice B8 1 d8,.string file] (0,0) _ rfl (HR.out.has 3 rfl).2 Tryd.underlying48 rfl (by kernel_rfl)) rfl ?_
   exact (show MadeCB (⟨x,(⟨4,(⟨#[99,97,108,108]⟩ : ByteArray),0,[y]⟩ : S29),file⟩ : S48) true w _ _ from ⟨A8,c8,B8,d8,rfl,As.mono _ (fun k hk => hk.elim False.elim id) (HR.out.one 0 rfl),HR.out.bel⟩)
  ·skip
   go_wp2_with (first
    | ((with_reducible refine gate_dst (N := 33) rfl ?_); refine lit_event ?hg33 (N := 33) ?hd33 (cs := #[.int .i64 y.f0, .string y.f1, .int .i64 y.f2, .slice A7 y.f3.length c7]) (t := 29) (n := 1) ?hr33 ?_; (case hd33 => rfl); (case hg33 => rfl); (case hr33 => first | (go_simp; done) | (go_simp; rfl)); intro gl hg w13 hbox hb; have q_ := Aside0.mk (HR.out.box hg hb hbox); clear HR; have HR := q_; clear q_; clear hg hbox hb; clear hc6_go_0 hc6_go_1 hc6_go_2 hc6_go_3 hc6_go_4 hc6_go_5 hc6_go_6 hc6_go_7 hc6_go_8; have hc7_go_0 : w13.cell? ⟨go, 0, none⟩ = some (.int .i64 x.f0) := HR.out.cell 1 rfl 0 rfl; have hc7_go_1 : w13.cell? ⟨go, 1, none⟩ = some (.string x.f1) := HR.out.cell 1 rfl 1 rfl; have hc7_go_2 : w13.cell? ⟨go, 2, none⟩ = some (.int .i64 x.f2) := HR.out.cell 1 rfl 2 rfl; have hc7_go_3 : w13.cell? ⟨go, 3, none⟩ = some (.slice A3 x.f3.length c3) := HR.out.cell 1 rfl 3 rfl; have hc7_go_4 : w13.cell? ⟨go, 4, none⟩ = some (.int .i64 y.f0) := HR.out.cell 1 rfl 4 rfl; have hc7_go_5 : w13.cell? ⟨go, 5, none⟩ = some (.string y.f1) := HR.out.cell 1 rfl 5 rfl; have hc7_go_6 : w13.cell? ⟨go, 6, none⟩ = some (.int .i64 y.f2) := HR.out.cell 1 rfl 6 rfl; have hc7_go_7 : w13.cell? ⟨go, 7, none⟩ = some (.slice A7 y.f3.length c7) := HR.out.cell 1 rfl 7 rfl; have hc7_go_8 : w13.cell? ⟨go, 8, none⟩ = some (.string file) := HR.out.cell 1 rfl 8 rfl; have fc7_go_0 := HR.out.free 1 rfl 0; have fc7_go_1 := HR.out.free 1 rfl 1; have fc7_go_2 := HR.out.free 1 rfl 2; have fc7_go_3 := HR.out.free 1 rfl 3; have fc7_go_4 := HR.out.free 1 rfl 4; have fc7_go_5 := HR.out.free 1 rfl 5; have fc7_go_6 := HR.out.free 1 rfl 6; have fc7_go_7 := HR.out.free 1 rfl 7; have fc7_go_8 := HR.out.free 1 rfl 8)
    | (go_at_call 62; with_reducible refine (struct_calls (⟨#[99, 97, 108, 108]⟩ : ByteArray) (some ⟨gl, 0, none⟩) 1 1 w13).mono ?_; rintro e w14 ⟨rfl, hb⟩; have q_ := Aside0.mk (HR.out.step hb); clear HR; have HR := q_; clear q_; clear hb; clear hc7_go_0 hc7_go_1 hc7_go_2 hc7_go_3 hc7_go_4 hc7_go_5 hc7_go_6 hc7_go_7 hc7_go_8 fc7_go_0 fc7_go_1 fc7_go_2 fc7_go_3 fc7_go_4 fc7_go_5 fc7_go_6 fc7_go_7 fc7_go_8; have hc8_go_0 : w14.cell? ⟨go, 0, none⟩ = some (.int .i64 x.f0) := HR.out.cell 1 rfl 0 rfl; have hc8_go_1 : w14.cell? ⟨go, 1, none⟩ = some (.string x.f1) := HR.out.cell 1 rfl 1 rfl; have hc8_go_2 : w14.cell? ⟨go, 2, none⟩ = some (.int .i64 x.f2) := HR.out.cell 1 rfl 2 rfl; have hc8_go_3 : w14.cell? ⟨go, 3, none⟩ = some (.slice A3 x.f3.length c3) := HR.out.cell 1 rfl 3 rfl; have hc8_go_4 : w14.cell? ⟨go, 4, none⟩ = some (.int .i64 y.f0) := HR.out.cell 1 rfl 4 rfl; have hc8_go_5 : w14.cell? ⟨go, 5, none⟩ = some (.string y.f1) := HR.out.cell 1 rfl 5 rfl; have hc8_go_6 : w14.cell? ⟨go, 6, none⟩ = some (.int .i64 y.f2) := HR.out.cell 1 rfl 6 rfl; have hc8_go_7 : w14.cell? ⟨go, 7, none⟩ = some (.slice A7 y.f3.length c7) := HR.out.cell 1 rfl 7 rfl; have hc8_go_8 : w14.cell? ⟨go, 8, none⟩ = some (.string file) := HR.out.cell 1 rfl 8 rfl; have fc8_go_0 := HR.out.free 1 rfl 0; have fc8_go_1 := HR.out.free 1 rfl 1; have fc8_go_2 := HR.out.free 1 rfl 2; have fc8_go_3 := HR.out.free 1 rfl 3; have fc8_go_4 := HR.out.free 1 rfl 4; have fc8_go_5 := HR.out.free 1 rfl 5; have fc8_go_6 := HR.out.free 1 rfl 6; have fc8_go_7 := HR.out.free 1 rfl 7; have fc8_go_8 := HR.out.free 1 rfl 8)
    | ((with_reducible refine gate_store (t := 29) (p := 35) rfl ?_); refine store_event (t := 29) (p := 35) (v := ?vo_8) (w1 := w14.setCells go 4 [.int .i64 4, .string (⟨#[99, 97, 108, 108]⟩ : ByteArray), .int .i64 0, .slice (some ⟨gl, 0, none⟩) 1 1]) ?hgs_8 ?hos_8 ?hns_8 ?hrs_8 ?_; (case hos_8 => rfl); (case hgs_8 => rfl); (case hns_8 => rfl); (case hrs_8 => first | (go_simp; done) | (go_simp; rfl)); intro w15 hw; have q_ := Aside0.mk (HR.out.seg 1 rfl 4 [.int .i64 4, .string (⟨#[99, 97, 108, 108]⟩ : ByteArray), .int .i64 0, .slice (some ⟨gl, 0, none⟩) 1 1] (Nat.le_of_ble_eq_true rfl)); rw [← hw] at q_; clear HR; have HR := q_; clear q_; clear hw; clear hc8_go_0 hc8_go_1 hc8_go_2 hc8_go_3 hc8_go_4 hc8_go_5 hc8_go_6 hc8_go_7 hc8_go_8 fc8_go_0 fc8_go_1 fc8_go_2 fc8_go_3 fc8_go_4 fc8_go_5 fc8_go_6 fc8_go_7 fc8_go_8; have hc9_go_0 : w15.cell? ⟨go, 0, none⟩ = some (.int .i64 x.f0) := HR.out.cell 1 rfl 0 rfl; have hc9_go_1 : w15.cell? ⟨go, 1, none⟩ = some (.string x.f1) := HR.out.cell 1 rfl 1 rfl; have hc9_go_2 : w15.cell? ⟨go, 2, none⟩ = some (.int .i64 x.f2) := HR.out.cell 1 rfl 2 rfl; have hc9_go_3 : w15.cell? ⟨go, 3, none⟩ = some (.slice A3 x.f3.length c3) := HR.out.cell 1 rfl 3 rfl; have hc9_go_4 : w15.cell? ⟨go, 4, none⟩ = some (.int .i64 4) := HR.out.cell 1 rfl 4 rfl; have hc9_go_5 : w15.cell? ⟨go, 5, none⟩ = some (.string (⟨#[99, 97, 108, 108]⟩ : ByteArray)) := HR.out.cell 1 rfl 5 rfl; have hc9_go_6 : w15.cell? ⟨go, 6, none⟩ = some (.int .i64 0) := HR.out.cell 1 rfl 6 rfl; have hc9_go_7 : w15.cell? ⟨go, 7, none⟩ = some (.slice (some ⟨gl, 0, none⟩) 1 1) := HR.out.cell 1 rfl 7 rfl; have hc9_go_8 : w15.cell? ⟨go, 8, none⟩ = some (.string file) := HR.out.cell 1 rfl 8 rfl)
    | (go_at_call 57; with_reducible refine (H3.out w15 A3 c3 HR.out.bel (Kd.C_below HI3.out HR.out.bel) HL3.out).mono ?_; rintro e w16 ⟨rfl, hb⟩; have q_ := Aside0.mk (HR.out.step hb); clear HR; have HR := q_; clear q_; clear hb; clear hc9_go_0 hc9_go_1 hc9_go_2 hc9_go_3 hc9_go_4 hc9_go_5 hc9_go_6 hc9_go_7 hc9_go_8; have hc10_go_0 : w16.cell? ⟨go, 0, none⟩ = some (.int .i64 x.f0) := HR.out.cell 1 rfl 0 rfl; have hc10_go_1 : w16.cell? ⟨go, 1, none⟩ = some (.string x.f1) := HR.out.cell 1 rfl 1 rfl; have hc10_go_2 : w16.cell? ⟨go, 2, none⟩ = some (.int .i64 x.f2) := HR.out.cell 1 rfl 2 rfl; have hc10_go_3 : w16.cell? ⟨go, 3, none⟩ = some (.slice A3 x.f3.length c3) := HR.out.cell 1 rfl 3 rfl; have hc10_go_4 : w16.cell? ⟨go, 4, none⟩ = some (.int .i64 4) := HR.out.cell 1 rfl 4 rfl; have hc10_go_5 : w16.cell? ⟨go, 5, none⟩ = some (.string (⟨#[99, 97, 108, 108]⟩ : ByteArray)) := HR.out.cell 1 rfl 5 rfl; have hc10_go_6 : w16.cell? ⟨go, 6, none⟩ = some (.int .i64 0) := HR.out.cell 1 rfl 6 rfl; have hc10_go_7 : w16.cell? ⟨go, 7, none⟩ = some (.slice (some ⟨gl, 0, none⟩) 1 1) := HR.out.cell 1 rfl 7 rfl; have hc10_go_8 : w16.cell? ⟨go, 8, none⟩ = some (.string file) := HR.out.cell 1 rfl 8 rfl)
    | (go_at_call 56; have hl_ := lit1 (HR.out.has 0 rfl).2 HL7.out (Kd.C_below HI7.out HR.out.bel); with_reducible refine (H4.out w16 gl hl_).mono ?_; rintro e w17 ⟨rfl, hb⟩; clear hl_; have q_ := Aside0.mk (HR.out.step hb); clear HR; have HR := q_; clear q_; clear hb; clear hc10_go_0 hc10_go_1 hc10_go_2 hc10_go_3 hc10_go_4 hc10_go_5 hc10_go_6 hc10_go_7 hc10_go_8; have hc11_gr_0 : w17.cell? ⟨gr, 0, none⟩ = some (.int .i64 0) := HR.out.cell 2 rfl 0 rfl; have hc11_gr_1 : w17.cell? ⟨gr, 1, none⟩ = some (.string (⟨#[]⟩ : ByteArray)) := HR.out.cell 2 rfl 1 rfl; have hc11_gr_2 : w17.cell? ⟨gr, 2, none⟩ = some (.int .i64 0) := HR.out.cell 2 rfl 2 rfl; have hc11_gr_3 : w17.cell? ⟨gr, 3, none⟩ = some (.slice none 0 0) := HR.out.cell 2 rfl 3 rfl; have hc11_gr_4 : w17.cell? ⟨gr, 4, none⟩ = some (.int .i64 0) := HR.out.cell 2 rfl 4 rfl; have hc11_gr_5 : w17.cell? ⟨gr, 5, none⟩ = some (.string (⟨#[]⟩ : ByteArray)) := HR.out.cell 2 rfl 5 rfl; have hc11_gr_6 : w17.cell? ⟨gr, 6, none⟩ = some (.int .i64 0) := HR.out.cell 2 rfl 6 rfl; have hc11_gr_7 : w17.cell? ⟨gr, 7, none⟩ = some (.slice none 0 0) := HR.out.cell 2 rfl 7 rfl; have hc11_gr_8 : w17.cell? ⟨gr, 8, none⟩ = some (.string (⟨#[]⟩ : ByteArray)) := HR.out.cell 2 rfl 8 rfl; have fc11_gr_0 := HR.out.free 2 rfl 0; have fc11_gr_1 := HR.out.free 2 rfl 1; have fc11_gr_2 := HR.out.free 2 rfl 2; have fc11_gr_3 := HR.out.free 2 rfl 3; have fc11_gr_4 := HR.out.free 2 rfl 4; have fc11_gr_5 := HR.out.free 2 rfl 5; have fc11_gr_6 := HR.out.free 2 rfl 6; have fc11_gr_7 := HR.out.free 2 rfl 7; have fc11_gr_8 := HR.out.free 2 rfl 8)
    | ((with_reducible refine gate_store (t := 48) (p := 4) rfl ?_); refine store_event (t := 48) (p := 4) (v := ?vo_10) (w1 := w17.setCells gr 0 [.int .i64 0, .string (⟨#[]⟩ : ByteArray), .int .i64 0, .slice none 0 0, .int .i64 0, .string (⟨#[]⟩ : ByteArray), .int .i64 0, .slice none 0 0, .string (⟨#[]⟩ : ByteArray)]) ?hgs_10 ?hos_10 ?hns_10 ?hrs_10 ?_; (case hos_10 => rfl); (case hgs_10 => rfl); (case hns_10 => rfl); (case hrs_10 => first | (go_simp; done) | (go_simp; rfl)); intro w18 hw; have q_ := Aside0.mk (hw ▸ HR.out.store 2 rfl [.int .i64 0, .string (⟨#[]⟩ : ByteArray), .int .i64 0, .slice none 0 0, .int .i64 0, .string (⟨#[]⟩ : ByteArray), .int .i64 0, .slice none 0 0, .string (⟨#[]⟩ : ByteArray)] rfl); clear HR; have HR := q_; clear q_; clear hw; clear hc11_gr_0 hc11_gr_1 hc11_gr_2 hc11_gr_3 hc11_gr_4 hc11_gr_5 hc11_gr_6 hc11_gr_7 hc11_gr_8 fc11_gr_0 fc11_gr_1 fc11_gr_2 fc11_gr_3 fc11_gr_4 fc11_gr_5 fc11_gr_6 fc11_gr_7 fc11_gr_8))
   refine bodyPost_ret (results_ct rfl _ _ gr 48 #[.int .i64 0,.string (⟨#[]⟩ : ByteArray),.int .i64 0,.slice none 0 0,.int .i64 0,.string (⟨#[]⟩ : ByteArray),.int .i64 0,.slice none 0 0,.string (⟨#[]⟩ : ByteArray)] (0,0) _ rfl (HR.out.has 2 rfl).2 Tryd.underlying48 rfl (by kernel_rfl)) rfl ?_
   exact (show MadeCB zC false w _ _ from ⟨none,0,none,0,rfl,⟨fun _ => True,Kd.S_nil _ _ _ _ _,Kd.S_nil _ _ _ _ _⟩,HR.out.bel⟩)
 ·skip
  go_wp2_with (first
   | ((with_reducible refine gate_dst (N := 33) rfl ?_); refine lit_event ?hg33 (N := 33) ?hd33 (cs := #[.int .i64 y.f0, .string y.f1, .int .i64 y.f2, .slice A7 y.f3.length c7]) (t := 29) (n := 1) ?hr33 ?_; (case hd33 => rfl); (case hg33 => rfl); (case hr33 => first | (go_simp; done) | (go_simp; rfl)); intro gl hg w13 hbox hb; have q_ := Aside0.mk (HR.out.box hg hb hbox); clear HR; have HR := q_; clear q_; clear hg hbox hb; clear hc6_go_0 hc6_go_1 hc6_go_2 hc6_go_3 hc6_go_4 hc6_go_5 hc6_go_6 hc6_go_7 hc6_go_8; have hc7_go_0 : w13.cell? ⟨go, 0, none⟩ = some (.int .i64 x.f0) := HR.out.cell 1 rfl 0 rfl; have hc7_go_1 : w13.cell? ⟨go, 1, none⟩ = some (.string x.f1) := HR.out.cell 1 rfl 1 rfl; have hc7_go_2 : w13.cell? ⟨go, 2, none⟩ = some (.int .i64 x.f2) := HR.out.cell 1 rfl 2 rfl; have hc7_go_3 : w13.cell? ⟨go, 3, none⟩ = some (.slice A3 x.f3.length c3) := HR.out.cell 1 rfl 3 rfl; have hc7_go_4 : w13.cell? ⟨go, 4, none⟩ = some (.int .i64 y.f0) := HR.out.cell 1 rfl 4 rfl; have hc7_go_5 : w13.cell? ⟨go, 5, none⟩ = some (.string y.f1) := HR.out.cell 1 rfl 5 rfl; have hc7_go_6 : w13.cell? ⟨go, 6, none⟩ = some (.int .i64 y.f2) := HR.out.cell 1 rfl 6 rfl; have hc7_go_7 : w13.cell? ⟨go, 7, none⟩ = some (.slice A7 y.f3.length c7) := HR.out.cell 1 rfl 7 rfl; have hc7_go_8 : w13.cell? ⟨go, 8, none⟩ = some (.string file) := HR.out.cell 1 rfl 8 rfl; have fc7_go_0 := HR.out.free 1 rfl 0; have fc7_go_1 := HR.out.free 1 rfl 1; have fc7_go_2 := HR.out.free 1 rfl 2; have fc7_go_3 := HR.out.free 1 rfl 3; have fc7_go_4 := HR.out.free 1 rfl 4; have fc7_go_5 := HR.out.free 1 rfl 5; have fc7_go_6 := HR.out.free 1 rfl 6; have fc7_go_7 := HR.out.free 1 rfl 7; have fc7_go_8 := HR.out.free 1 rfl 8)
   | (go_at_call 62; with_reducible refine (struct_calls (⟨#[99, 97, 108, 108]⟩ : ByteArray) (some ⟨gl, 0, none⟩) 1 1 w13).mono ?_; rintro e w14 ⟨rfl, hb⟩; have q_ := Aside0.mk (HR.out.step hb); clear HR; have HR := q_; clear q_; clear hb; clear hc7_go_0 hc7_go_1 hc7_go_2 hc7_go_3 hc7_go_4 hc7_go_5 hc7_go_6 hc7_go_7 hc7_go_8 fc7_go_0 fc7_go_1 fc7_go_2 fc7_go_3 fc7_go_4 fc7_go_5 fc7_go_6 fc7_go_7 fc7_go_8; have hc8_go_0 : w14.cell? ⟨go, 0, none⟩ = some (.int .i64 x.f0) := HR.out.cell 1 rfl 0 rfl; have hc8_go_1 : w14.cell? ⟨go, 1, none⟩ = some (.string x.f1) := HR.out.cell 1 rfl 1 rfl; have hc8_go_2 : w14.cell? ⟨go, 2, none⟩ = some (.int .i64 x.f2) := HR.out.cell 1 rfl 2 rfl; have hc8_go_3 : w14.cell? ⟨go, 3, none⟩ = some (.slice A3 x.f3.length c3) := HR.out.cell 1 rfl 3 rfl; have hc8_go_4 : w14.cell? ⟨go, 4, none⟩ = some (.int .i64 y.f0) := HR.out.cell 1 rfl 4 rfl; have hc8_go_5 : w14.cell? ⟨go, 5, none⟩ = some (.string y.f1) := HR.out.cell 1 rfl 5 rfl; have hc8_go_6 : w14.cell? ⟨go, 6, none⟩ = some (.int .i64 y.f2) := HR.out.cell 1 rfl 6 rfl; have hc8_go_7 : w14.cell? ⟨go, 7, none⟩ = some (.slice A7 y.f3.length c7) := HR.out.cell 1 rfl 7 rfl; have hc8_go_8 : w14.cell? ⟨go, 8, none⟩ = some (.string file) := HR.out.cell 1 rfl 8 rfl; have fc8_go_0 := HR.out.free 1 rfl 0; have fc8_go_1 := HR.out.free 1 rfl 1; have fc8_go_2 := HR.out.free 1 rfl 2; have fc8_go_3 := HR.out.free 1 rfl 3; have fc8_go_4 := HR.out.free 1 rfl 4; have fc8_go_5 := HR.out.free 1 rfl 5; have fc8_go_6 := HR.out.free 1 rfl 6; have fc8_go_7 := HR.out.free 1 rfl 7; have fc8_go_8 := HR.out.free 1 rfl 8)
   | ((with_reducible refine gate_store (t := 29) (p := 35) rfl ?_); refine store_event (t := 29) (p := 35) (v := ?vo_8) (w1 := w14.setCells go 4 [.int .i64 4, .string (⟨#[99, 97, 108, 108]⟩ : ByteArray), .int .i64 0, .slice (some ⟨gl, 0, none⟩) 1 1]) ?hgs_8 ?hos_8 ?hns_8 ?hrs_8 ?_; (case hos_8 => rfl); (case hgs_8 => rfl); (case hns_8 => rfl); (case hrs_8 => first | (go_simp; done) | (go_simp; rfl)); intro w15 hw; have q_ := Aside0.mk (HR.out.seg 1 rfl 4 [.int .i64 4, .string (⟨#[99, 97, 108, 108]⟩ : ByteArray), .int .i64 0, .slice (some ⟨gl, 0, none⟩) 1 1] (Nat.le_of_ble_eq_true rfl)); rw [← hw] at q_; clear HR; have HR := q_; clear q_; clear hw; clear hc8_go_0 hc8_go_1 hc8_go_2 hc8_go_3 hc8_go_4 hc8_go_5 hc8_go_6 hc8_go_7 hc8_go_8 fc8_go_0 fc8_go_1 fc8_go_2 fc8_go_3 fc8_go_4 fc8_go_5 fc8_go_6 fc8_go_7 fc8_go_8; have hc9_go_0 : w15.cell? ⟨go, 0, none⟩ = some (.int .i64 x.f0) := HR.out.cell 1 rfl 0 rfl; have hc9_go_1 : w15.cell? ⟨go, 1, none⟩ = some (.string x.f1) := HR.out.cell 1 rfl 1 rfl; have hc9_go_2 : w15.cell? ⟨go, 2, none⟩ = some (.int .i64 x.f2) := HR.out.cell 1 rfl 2 rfl; have hc9_go_3 : w15.cell? ⟨go, 3, none⟩ = some (.slice A3 x.f3.length c3) := HR.out.cell 1 rfl 3 rfl; have hc9_go_4 : w15.cell? ⟨go, 4, none⟩ = some (.int .i64 4) := HR.out.cell 1 rfl 4 rfl; have hc9_go_5 : w15.cell? ⟨go, 5, none⟩ = some (.string (⟨#[99, 97, 108, 108]⟩ : ByteArray)) := HR.out.cell 1 rfl 5 rfl; have hc9_go_6 : w15.cell? ⟨go, 6, none⟩ = some (.int .i64 0) := HR.out.cell 1 rfl 6 rfl; have hc9_go_7 : w15.cell? ⟨go, 7, none⟩ = some (.slice (some ⟨gl, 0, none⟩) 1 1) := HR.out.cell 1 rfl 7 rfl; have hc9_go_8 : w15.cell? ⟨go, 8, none⟩ = some (.string file) := HR.out.cell 1 rfl 8 rfl)
   | (go_at_call 57; with_reducible refine (H3.out w15 A3 c3 HR.out.bel (Kd.C_below HI3.out HR.out.bel) HL3.out).mono ?_; rintro e w16 ⟨rfl, hb⟩; have q_ := Aside0.mk (HR.out.step hb); clear HR; have HR := q_; clear q_; clear hb; clear hc9_go_0 hc9_go_1 hc9_go_2 hc9_go_3 hc9_go_4 hc9_go_5 hc9_go_6 hc9_go_7 hc9_go_8; have hc10_gr_0 : w16.cell? ⟨gr, 0, none⟩ = some (.int .i64 0) := HR.out.cell 2 rfl 0 rfl; have hc10_gr_1 : w16.cell? ⟨gr, 1, none⟩ = some (.string (⟨#[]⟩ : ByteArray)) := HR.out.cell 2 rfl 1 rfl; have hc10_gr_2 : w16.cell? ⟨gr, 2, none⟩ = some (.int .i64 0) := HR.out.cell 2 rfl 2 rfl; have hc10_gr_3 : w16.cell? ⟨gr, 3, none⟩ = some (.slice none 0 0) := HR.out.cell 2 rfl 3 rfl; have hc10_gr_4 : w16.cell? ⟨gr, 4, none⟩ = some (.int .i64 0) := HR.out.cell 2 rfl 4 rfl; have hc10_gr_5 : w16.cell? ⟨gr, 5, none⟩ = some (.string (⟨#[]⟩ : ByteArray)) := HR.out.cell 2 rfl 5 rfl; have hc10_gr_6 : w16.cell? ⟨gr, 6, none⟩ = some (.int .i64 0) := HR.out.cell 2 rfl 6 rfl; have hc10_gr_7 : w16.cell? ⟨gr, 7, none⟩ = some (.slice none 0 0) := HR.out.cell 2 rfl 7 rfl; have hc10_gr_8 : w16.cell? ⟨gr, 8, none⟩ = some (.string (⟨#[]⟩ : ByteArray)) := HR.out.cell 2 rfl 8 rfl; have fc10_gr_0 := HR.out.free 2 rfl 0; have fc10_gr_1 := HR.out.free 2 rfl 1; have fc10_gr_2 := HR.out.free 2 rfl 2; have fc10_gr_3 := HR.out.free 2 rfl 3; have fc10_gr_4 := HR.out.free 2 rfl 4; have fc10_gr_5 := HR.out.free 2 rfl 5; have fc10_gr_6 := HR.out.free 2 rfl 6; have fc10_gr_7 := HR.out.free 2 rfl 7; have fc10_gr_8 := HR.out.free 2 rfl 8)
   | ((with_reducible refine gate_store (t := 48) (p := 4) rfl ?_); refine store_event (t := 48) (p := 4) (v := ?vo_11) (w1 := w16.setCells gr 0 [.int .i64 0, .string (⟨#[]⟩ : ByteArray), .int .i64 0, .slice none 0 0, .int .i64 0, .string (⟨#[]⟩ : ByteArray), .int .i64 0, .slice none 0 0, .string (⟨#[]⟩ : ByteArray)]) ?hgs_11 ?hos_11 ?hns_11 ?hrs_11 ?_; (case hos_11 => rfl); (case hgs_11 => rfl); (case hns_11 => rfl); (case hrs_11 => first | (go_simp; done) | (go_simp; rfl)); intro w17 hw; have q_ := Aside0.mk (hw ▸ HR.out.store 2 rfl [.int .i64 0, .string (⟨#[]⟩ : ByteArray), .int .i64 0, .slice none 0 0, .int .i64 0, .string (⟨#[]⟩ : ByteArray), .int .i64 0, .slice none 0 0, .string (⟨#[]⟩ : ByteArray)] rfl); clear HR; have HR := q_; clear q_; clear hw; clear hc10_gr_0 hc10_gr_1 hc10_gr_2 hc10_gr_3 hc10_gr_4 hc10_gr_5 hc10_gr_6 hc10_gr_7 hc10_gr_8 fc10_gr_0 fc10_gr_1 fc10_gr_2 fc10_gr_3 fc10_gr_4 fc10_gr_5 fc10_gr_6 fc10_gr_7 fc10_gr_8))
  refine bodyPost_ret (results_ct rfl _ _ gr 48 #[.int .i64 0,.string (⟨#[]⟩ : ByteArray),.int .i64 0,.slice none 0 0,.int .i64 0,.string (⟨#[]⟩ : ByteArray),.int .i64 0,.slice none 0 0,.string (⟨#[]⟩ : ByteArray)] (0,0) _ rfl (HR.out.has 2 rfl).2 Tryd.underlying48 rfl (by kernel_rfl)) rfl ?_
  exact (show MadeCB zC false w _ _ from ⟨none,0,none,0,rfl,⟨fun _ => True,Kd.S_nil _ _ _ _ _,Kd.S_nil _ _ _ _ _⟩,HR.out.bel⟩)
end
theorem fine_cns {n : Nat} {t : S29} (h : fine n t) : cns29 t.f3 ≤ 1048576:=by
 have:=h.2.1
 rw [cn29_eq] at this
 omega
set_option maxHeartbeats 4000000 in
theorem impl_all (n : Nat) (t : S29) (file : ByteArray) (A : Option Addr) (c : Nat) (w : World) (hT : Lib.TabBelow Tryd.prog w.heap.size w "internal/strconv.uint64pow10" .u64 Lib.pow10Tab) (hC : Kd.C k29 w A t.f3.length t.f3) (hc : t.f3.length ≤ c) (hf : fine n t) :
  Calls Tryd.prog 23 #[.agg #[.int .i64 t.f0,.string t.f1,.int .i64 t.f2,.slice A t.f3.length c],.string file] w fun e w' => MadeCB (clofP t file).1 (clofP t file).2 w e w':=by
 letI:=i_sz n
 letI:=i_eq n
 letI:=i_34 n
 letI:=i_it
 obtain ⟨k1,hk1⟩:=ok_i hf
 by_cases h0 : okB t = true
 ·rw [h0] at hk1
  by_cases h1 : isB t = true
  ·have hl:=is_len t h1
   obtain ⟨x,y,hxy⟩:=two_of_len hl
   have e : clofP t file = clo2 x (bodyP y) file:=by unfold clofP;rw [if_pos h0,if_pos h1,hxy];rfl
   have hfx:=fine_mem hf (x:=x) (by rw [hxy];simp)
   have hfy:=fine_mem hf (x:=y) (by rw [hxy];simp)
   have hfb:=fine_body hfy.1 hfy.2.1 hfy.2.2
   have his:=is_impl t
   rw [h1] at his
   rw [e]
   obtain ⟨kh,hkh⟩:=hd_i hfx.1
   obtain ⟨kb,hkb⟩:=ok_i hfb
   obtain ⟨a0,a1,a2,l⟩:=t
   obtain rfl : l = [x,y]:=hxy
   obtain ⟨ad,rfl,_⟩:=hC.2.2 (by show 0 < 2;decide)
   by_cases hk : y.f0 = 1
   ·have eb : bodyP y = ⟨4,(⟨#[99,97,108,108]⟩ : ByteArray),0,[y]⟩:=if_pos hk
    unfold clo2
    rw [eb] at hkb hfb ⊢
    exact impl_clo_C a0 a1 a2 x y file ad c w hC hc (fun W hB => impl_TermOk.calls k1 a0 a1 a2 (some ad) c [x,y] true W (Kd.C_below hC hB) hc hk1) (fun W hB => impl_isStruct.calls a0 a1 a2 (some ad) c [x,y] _ 2 true W (Kd.C_below hC hB) hc his) hk _
     (fun W A c hB q1 q2 => impl_headOk.calls kh x.f0 x.f1 x.f2 A c x.f3 _ W (tab_at hT hB) q1 q2 hkh) _ (fun W g q => impl_TermOk.calls kb 4 _ 0 (some ⟨g,0,none⟩) 1 [y] _ W q (Nat.le_refl _) hkb) (fun W A c g q1 q2 q3 => cpCl ⟨x,_,file⟩ (cp_all _ (rn_all n x hfx.1.1 (fine_cns hfx.1))) (cp_all _ (rn_all n _ hfb.1 (fine_cns hfb))) A c (some ⟨g,0,none⟩) 1 W q1 q2 q3 (Nat.le_refl _))
   ·have eb : bodyP y = y:=if_neg hk
    unfold clo2
    rw [eb] at hkb hfb ⊢
    exact impl_clo_B a0 a1 a2 x y file ad c w hC hc (fun W hB => impl_TermOk.calls k1 a0 a1 a2 (some ad) c [x,y] true W (Kd.C_below hC hB) hc hk1) (fun W hB => impl_isStruct.calls a0 a1 a2 (some ad) c [x,y] _ 2 true W (Kd.C_below hC hB) hc his) hk _
     (fun W A c hB q1 q2 => impl_headOk.calls kh x.f0 x.f1 x.f2 A c x.f3 _ W (tab_at hT hB) q1 q2 hkh) _ (fun W B d q1 q2 => impl_TermOk.calls kb y.f0 y.f1 y.f2 B d y.f3 _ W q1 q2 hkb) (fun W A c B d q1 q2 q3 q4 => cpCl ⟨x,y,file⟩ (cp_all _ (rn_all n x hfx.1.1 (fine_cns hfx.1))) (cp_all _ (rn_all n y hfb.1 (fine_cns hfb))) A c B d W q1 q2 q3 q4)
  ·have h1' : isB t = false:=by simpa using h1
   have e : clofP t file = clo2 t atT file:=by unfold clofP;rw [if_pos h0,if_neg h1]
   have his:=is_impl t
   rw [h1'] at his
   rw [e]
   have hfa:=fine_at (fine_pos hf)
   obtain ⟨kh,hkh⟩:=hd_i hf
   obtain ⟨kb,hkb⟩:=ok_i hfa
   exact impl_clo_A t file A c w hC hc (fun W hB => impl_TermOk.calls k1 t.f0 t.f1 t.f2 A c t.f3 true W (Kd.C_below hC hB) hc hk1) (fun W hB => impl_isStruct.calls t.f0 t.f1 t.f2 A c t.f3 _ 2 false W (Kd.C_below hC hB) hc his) _
    (fun W A c hB q1 q2 => impl_headOk.calls kh t.f0 t.f1 t.f2 A c t.f3 _ W (tab_at hT hB) q1 q2 hkh) _ (fun W => impl_TermOk.calls kb 2 _ 0 none 0 [] _ W (nil_C _ _) (Nat.le_refl _) hkb) (fun W A c q1 q2 => cpCl ⟨t,atT,file⟩ (cp_all _ (rn_all n t hf.1 (fine_cns hf))) (cp_all _ (rn_all n atT hfa.1 (fine_cns hfa))) A c none 0 W q1 q2 (nil_C _ _) (Nat.le_refl _))
 ·have h0' : okB t = false:=by simpa using h0
  have e : clofP t file = (zC,false):=by unfold clofP;rw [if_neg h0]
  rw [h0'] at hk1
  rw [e]
  exact impl_clo_no t file A c w hC hc (fun W hB => impl_TermOk.calls k1 t.f0 t.f1 t.f2 A c t.f3 false W (Kd.C_below hC hB) hc hk1)
end Go.Proofs.YtojedbogbodkiaaDoor.KCo
