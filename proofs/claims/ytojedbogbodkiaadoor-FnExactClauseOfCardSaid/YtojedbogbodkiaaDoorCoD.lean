/- Of this claim's own making; what nothing names is struck (fewall.py). -/
import Derived.Test.YtojedbogbodkiaaDoorKCox7
import Derived.Test.YtojedbogbodkiaaDoorCoA
import Derived.Test.YtojedbogbodkiaaDoorKS
set_option linter.unusedVariables false
set_option linter.unusedSimpArgs false
namespace Go.Proofs.YtojedbogbodkiaaDoor.KCo
open Go.RowKit Go.Proofs.YtojedbogbodkiaaDoorW.PrintWords Go.Proofs.YtojedbogbodkiaaDoorW.PrintLast Go.Proofs.YtojedbogbodkiaaDoorW.PrintMore
section
set_option linter.unusedSectionVars false
variable [fk_laws_szTerm] [fk_laws_eqTerm] [fk_spec_l34Term] [fk_strconv_Itoa]
def specclo3_T : Bool × List (List Nat × List Nat):=(true,[([],[]),([],[]),([],[]),([0,1,2],[0,1,2]),([],[]),([4,3,1,0,1,2,3,4],[3,4])])
def specclo3_B : List Nat:=[0,0,0,7,0,31]
theorem specclo3_tab : rtab .any (opsOf Tryd.f58 3) = specclo3_T:=by kernel_rfl
theorem specclo3_bits : waitsOk specclo3_T.2 specclo3_B = true:=by kernel_rfl
set_option maxHeartbeats 16000000 in
set_option maxRecDepth 100000 in
theorem spec_clo_no (t : S29) (file : ByteArray) (A : Option Addr) (c : Nat) (w : World) (hC : Kd.C k29 w A t.f3.length t.f3) (hc : t.f3.length ≤ c)
  (h1 : ∀ W,Below w.heap.size w W → Calls Tryd.prog 86 #[.agg #[.int .i64 t.f0,.string t.f1,.int .i64 t.f2,.slice A t.f3.length c]] W fun e W' => e = .returned (.bool false) ∧ Below W.heap.size W W') : Calls Tryd.prog 58 #[.agg #[.int .i64 t.f0,.string t.f1,.int .i64 t.f2,.slice A t.f3.length c],.string file] w fun e w' => MadeCR zC false w e w':=by
 have HC:=Aside0.mk hC
 have HCC:=Aside0.mk hc
 have H1:=Aside0.mk h1
 have HR:=Aside0.mk (run_law w)
 clear hC hc h1
 go_enter Tryd.func58,Tryd.ntmps58
 go_wp2_with (first
  | ((with_reducible refine gate_dst (N := 2) rfl ?_); refine box_event ?hg2 (N := 2) ?hd2 (cs := #[.int .i64 t.f0, .string t.f1, .int .i64 t.f2, .slice A t.f3.length c]) (t := 29) ?hr2 ?_; (case hd2 => rfl); (case hg2 => rfl); (case hr2 => first | (go_simp; done) | (go_simp; rfl)); intro ga hg w1 hbox hb; have q_ := Aside0.mk (HR.out.box hg hb hbox); clear HR; have HR := q_; clear q_; clear hg hbox hb)
  | ((with_reducible refine gate_dst (N := 4) rfl ?_); refine box_event ?hg4 (N := 4) ?hd4 (cs := #[.int .i64 0, .string (⟨#[]⟩ : ByteArray), .int .i64 0, .slice none 0 0, .int .i64 0, .string (⟨#[]⟩ : ByteArray), .int .i64 0, .slice none 0 0, .string (⟨#[]⟩ : ByteArray)]) (t := 48) ?hr4 ?_; (case hd4 => rfl); (case hg4 => rfl); (case hr4 => first | (go_simp; done) | (go_simp; rfl)); intro gr hg w2 hbox hb; have q_ := Aside0.mk (HR.out.box hg hb hbox); clear HR; have HR := q_; clear q_; clear hg hbox hb; have hc2_ga_0 : w2.cell? ⟨ga, 0, none⟩ = some (.int .i64 t.f0) := HR.out.cell 1 rfl 0 rfl; have hc2_ga_1 : w2.cell? ⟨ga, 1, none⟩ = some (.string t.f1) := HR.out.cell 1 rfl 1 rfl; have hc2_ga_2 : w2.cell? ⟨ga, 2, none⟩ = some (.int .i64 t.f2) := HR.out.cell 1 rfl 2 rfl; have hc2_ga_3 : w2.cell? ⟨ga, 3, none⟩ = some (.slice A t.f3.length c) := HR.out.cell 1 rfl 3 rfl)
  | (go_at_call 86; with_reducible refine (H1.out w2 HR.out.bel).mono ?_; rintro e w3 ⟨rfl, hb⟩; have q_ := Aside0.mk (HR.out.step hb); clear HR; have HR := q_; clear q_; clear hb; clear hc2_ga_0 hc2_ga_1 hc2_ga_2 hc2_ga_3; have hc3_gr_0 : w3.cell? ⟨gr, 0, none⟩ = some (.int .i64 0) := HR.out.cell 0 rfl 0 rfl; have hc3_gr_1 : w3.cell? ⟨gr, 1, none⟩ = some (.string (⟨#[]⟩ : ByteArray)) := HR.out.cell 0 rfl 1 rfl; have hc3_gr_2 : w3.cell? ⟨gr, 2, none⟩ = some (.int .i64 0) := HR.out.cell 0 rfl 2 rfl; have hc3_gr_3 : w3.cell? ⟨gr, 3, none⟩ = some (.slice none 0 0) := HR.out.cell 0 rfl 3 rfl; have hc3_gr_4 : w3.cell? ⟨gr, 4, none⟩ = some (.int .i64 0) := HR.out.cell 0 rfl 4 rfl; have hc3_gr_5 : w3.cell? ⟨gr, 5, none⟩ = some (.string (⟨#[]⟩ : ByteArray)) := HR.out.cell 0 rfl 5 rfl; have hc3_gr_6 : w3.cell? ⟨gr, 6, none⟩ = some (.int .i64 0) := HR.out.cell 0 rfl 6 rfl; have hc3_gr_7 : w3.cell? ⟨gr, 7, none⟩ = some (.slice none 0 0) := HR.out.cell 0 rfl 7 rfl; have hc3_gr_8 : w3.cell? ⟨gr, 8, none⟩ = some (.string (⟨#[]⟩ : ByteArray)) := HR.out.cell 0 rfl 8 rfl; have fc3_gr_0 := HR.out.free 0 rfl 0; have fc3_gr_1 := HR.out.free 0 rfl 1; have fc3_gr_2 := HR.out.free 0 rfl 2; have fc3_gr_3 := HR.out.free 0 rfl 3; have fc3_gr_4 := HR.out.free 0 rfl 4; have fc3_gr_5 := HR.out.free 0 rfl 5; have fc3_gr_6 := HR.out.free 0 rfl 6; have fc3_gr_7 := HR.out.free 0 rfl 7; have fc3_gr_8 := HR.out.free 0 rfl 8)
  | ((with_reducible refine gate_store (t := 48) (p := 4) rfl ?_); refine store_event (t := 48) (p := 4) (v := ?vo_1) (w1 := w3.setCells gr 0 [.int .i64 0, .string (⟨#[]⟩ : ByteArray), .int .i64 0, .slice none 0 0, .int .i64 0, .string (⟨#[]⟩ : ByteArray), .int .i64 0, .slice none 0 0, .string (⟨#[]⟩ : ByteArray)]) ?hgs_1 ?hos_1 ?hns_1 ?hrs_1 ?_; (case hos_1 => rfl); (case hgs_1 => rfl); (case hns_1 => rfl); (case hrs_1 => first | (go_simp; done) | (go_simp; rfl)); intro w4 hw; have q_ := Aside0.mk (hw ▸ HR.out.store 0 rfl [.int .i64 0, .string (⟨#[]⟩ : ByteArray), .int .i64 0, .slice none 0 0, .int .i64 0, .string (⟨#[]⟩ : ByteArray), .int .i64 0, .slice none 0 0, .string (⟨#[]⟩ : ByteArray)] rfl); clear HR; have HR := q_; clear q_; clear hw; clear hc3_gr_0 hc3_gr_1 hc3_gr_2 hc3_gr_3 hc3_gr_4 hc3_gr_5 hc3_gr_6 hc3_gr_7 hc3_gr_8 fc3_gr_0 fc3_gr_1 fc3_gr_2 fc3_gr_3 fc3_gr_4 fc3_gr_5 fc3_gr_6 fc3_gr_7 fc3_gr_8))
 refine bodyPost_ret (results_ct rfl _ _ gr 48 #[.int .i64 0,.string (⟨#[]⟩ : ByteArray),.int .i64 0,.slice none 0 0,.int .i64 0,.string (⟨#[]⟩ : ByteArray),.int .i64 0,.slice none 0 0,.string (⟨#[]⟩ : ByteArray)] (0,0) _ rfl (HR.out.has 0 rfl).2 Tryd.underlying48 rfl (by kernel_rfl)) rfl ?_
 exact (show MadeCR zC false w _ _ from ⟨none,0,none,0,rfl,⟨Nat.le_refl _,Kd.C_nil k29 _,Nat.le_refl _,Kd.C_nil k29 _⟩,HR.out.bel⟩)
set_option maxHeartbeats 16000000 in
set_option maxRecDepth 100000 in
theorem spec_clo_A (t : S29) (file : ByteArray) (A : Option Addr) (c : Nat) (w : World) (hC : Kd.C k29 w A t.f3.length t.f3) (hc : t.f3.length ≤ c)
  (h1 : ∀ W,Below w.heap.size w W → Calls Tryd.prog 86 #[.agg #[.int .i64 t.f0,.string t.f1,.int .i64 t.f2,.slice A t.f3.length c]] W fun e W' => e = .returned (.bool true) ∧ Below W.heap.size W W') (h2 : ∀ W,Below w.heap.size w W → Calls Tryd.prog 90 #[.agg #[.int .i64 t.f0,.string t.f1,.int .i64 t.f2,.slice A t.f3.length c],.string (⟨#[58,45]⟩ : ByteArray),.int .i64 2] W fun e W' => e = .returned (.bool false) ∧ Below W.heap.size W W') (bh : Bool) (h3 : ∀ W (A : Option Addr) (c : Nat),Below w.heap.size w W → Kd.C k29 W A t.f3.length t.f3 → t.f3.length ≤ c → Calls Tryd.prog 87 #[.agg #[.int .i64 t.f0,.string t.f1,.int .i64 t.f2,.slice A t.f3.length c]] W fun e W' => e = .returned (.bool bh) ∧ Below W.heap.size W W') (bb : Bool) (h4 : ∀ W ,Calls Tryd.prog 86 #[.agg #[.int .i64 2,.string (⟨#[116,114,117,101]⟩ : ByteArray),.int .i64 0,.slice none 0 0]] W fun e W' => e = .returned (.bool bb) ∧ Below W.heap.size W W') : Calls Tryd.prog 58 #[.agg #[.int .i64 t.f0,.string t.f1,.int .i64 t.f2,.slice A t.f3.length c],.string file] w fun e w' => MadeCR (if (bh && bb) = true then (⟨t,(⟨2,(⟨#[116,114,117,101]⟩ : ByteArray),0,[]⟩ : S29),file⟩ : S48) else zC) (bh && bb) w e w':=by
 have HC:=Aside0.mk hC
 have HCC:=Aside0.mk hc
 have H1:=Aside0.mk h1
 have H2:=Aside0.mk h2
 have H3:=Aside0.mk h3
 have H4:=Aside0.mk h4
 have HR:=Aside0.mk (run_law w)
 clear hC hc h1 h2 h3 h4
 go_enter Tryd.func58,Tryd.ntmps58
 go_wp2_with (first
  | ((with_reducible refine gate_dst (N := 2) rfl ?_); refine box_event ?hg2 (N := 2) ?hd2 (cs := #[.int .i64 t.f0, .string t.f1, .int .i64 t.f2, .slice A t.f3.length c]) (t := 29) ?hr2 ?_; (case hd2 => rfl); (case hg2 => rfl); (case hr2 => first | (go_simp; done) | (go_simp; rfl)); intro ga hg w1 hbox hb; have q_ := Aside0.mk (HR.out.box hg hb hbox); clear HR; have HR := q_; clear q_; clear hg hbox hb)
  | ((with_reducible refine gate_dst (N := 4) rfl ?_); refine box_event ?hg4 (N := 4) ?hd4 (cs := #[.int .i64 0, .string (⟨#[]⟩ : ByteArray), .int .i64 0, .slice none 0 0, .int .i64 0, .string (⟨#[]⟩ : ByteArray), .int .i64 0, .slice none 0 0, .string (⟨#[]⟩ : ByteArray)]) (t := 48) ?hr4 ?_; (case hd4 => rfl); (case hg4 => rfl); (case hr4 => first | (go_simp; done) | (go_simp; rfl)); intro gr hg w2 hbox hb; have q_ := Aside0.mk (HR.out.box hg hb hbox); clear HR; have HR := q_; clear q_; clear hg hbox hb; have hc2_ga_0 : w2.cell? ⟨ga, 0, none⟩ = some (.int .i64 t.f0) := HR.out.cell 1 rfl 0 rfl; have hc2_ga_1 : w2.cell? ⟨ga, 1, none⟩ = some (.string t.f1) := HR.out.cell 1 rfl 1 rfl; have hc2_ga_2 : w2.cell? ⟨ga, 2, none⟩ = some (.int .i64 t.f2) := HR.out.cell 1 rfl 2 rfl; have hc2_ga_3 : w2.cell? ⟨ga, 3, none⟩ = some (.slice A t.f3.length c) := HR.out.cell 1 rfl 3 rfl)
  | (go_at_call 86; with_reducible refine (H1.out w2 HR.out.bel).mono ?_; rintro e w3 ⟨rfl, hb⟩; have q_ := Aside0.mk (HR.out.step hb); clear HR; have HR := q_; clear q_; clear hb; clear hc2_ga_0 hc2_ga_1 hc2_ga_2 hc2_ga_3))
 have q_:=Aside0.mk (HR.out.drew)
 clear HR
 have HR:=q_
 clear q_
 refine start_ (n:=6) (S:=fun w' => w'.cell? ⟨ga,0,none⟩ = some (.int .i64 t.f0) ∧ w'.cell? ⟨ga,1,none⟩ = some (.string t.f1) ∧ w'.cell? ⟨ga,2,none⟩ = some (.int .i64 t.f2) ∧ w'.cell? ⟨ga,3,none⟩ = some (.slice A t.f3.length c)) (ds:=[5]) #[false,false,false,false,false,false] (by kernel_rfl) rfl rfl ⟨HR.out.cell 1 rfl 0 rfl,HR.out.cell 1 rfl 1 rfl,HR.out.cell 1 rfl 2 rfl,HR.out.cell 1 rfl 3 rfl⟩ (fun hHeld => ?_);refine with_tabW specclo3_tab specclo3_bits (fun HT_ HW_ => ?_)
 generalize w3.drew = w4 at HR hHeld ⊢
 refine take_ (i:=0) (N:=some 11) (v:=?_) (a':=?_) #[true,false,false,false,false,false] rfl rfl (take_ofW HT_.out HW_.out (by kernel_rfl)) (fun _ _ _ h => h) (Or.inl ⟨by rfl,?_⟩) hHeld ?_ ?_
 rotate_left
 ·rintro w' ⟨s0,s1,s2,s3⟩
  go_simp
  with_reducible rfl
 rotate_left
 ·simp only [Act.put,List.setIfInBounds_toArray,List.set_cons_zero,List.set_cons_succ,i64_w,i32_w]
  rfl
 refine pure_ (i:=2) (N:=some 13) (v:=?_) (a':=?_) #[true,false,true,false,false,false] rfl rfl (any_of HT_.out (by kernel_rfl)) (fun _ _ _ h => h) (Or.inl ⟨by rfl,?_⟩) ?_ ?_
 rotate_left
 ·intro w'
  go_simp
  with_reducible rfl
 rotate_left
 ·simp only [Act.put,List.setIfInBounds_toArray,List.set_cons_zero,List.set_cons_succ,i64_w,i32_w]
  rfl
 refine join_ (σ:=Nat) 1 #[true,true,true,true,true,false] (fun go => [(12,.agg #[.int .i64 2,.string (⟨#[116,114,117,101]⟩ : ByteArray),.int .i64 0,.slice none 0 0]),(14,.agg #[.int .i64 t.f0,.string t.f1,.int .i64 t.f2,.slice A t.f3.length c,.int .i64 2,.string (⟨#[116,114,117,101]⟩ : ByteArray),.int .i64 0,.slice none 0 0,.string file]),(6,.pointer (some ⟨go,0,none⟩))]) (fun go w' => Run w w (fun _ => False) [As.box go 48 #[.int .i64 0,.string (⟨#[]⟩ : ByteArray),.int .i64 0,.slice none 0 0,.int .i64 0,.string (⟨#[]⟩ : ByteArray),.int .i64 0,.slice none 0 0,.string (⟨#[]⟩ : ByteArray)],As.box gr 48 #[.int .i64 0,.string (⟨#[]⟩ : ByteArray),.int .i64 0,.slice none 0 0,.int .i64 0,.string (⟨#[]⟩ : ByteArray),.int .i64 0,.slice none 0 0,.string (⟨#[]⟩ : ByteArray)],As.box ga 29 #[.int .i64 t.f0,.string t.f1,.int .i64 t.f2,.slice A t.f3.length c]] w') ?_ ?_
 rotate_left
 ·intro hCont
  refine two_ (i:=1) (j:=4) (Ni:=some 12) (Nj:=some 6) #[true,true,true,false,false,false] #[true,false,true,false,true,false] rfl rfl rfl rfl (two_of HT_.out (by kernel_rfl)) (by decide) (by decide) (fun K hK => ?_) (fun K hK => ?_)
  ·skip
   refine goes_ Tryd.func89 (by kernel_rfl) rfl #[.string (⟨#[116,114,117,101]⟩ : ByteArray)] (by rfl) rfl rfl (by (try simp only [List.map_toArray,List.map_cons,List.map_nil]);first|done|rfl) ?_
   refine (satom_calls (⟨#[116,114,117,101]⟩ : ByteArray) w4).mono ?_
   rintro e w5 ⟨rfl,hb⟩
   refine ⟨_,rfl,?_⟩
   have q_:=Aside0.mk (HR.out.step hb)
   clear HR
   have HR:=q_
   clear q_
   clear hb
   refine hK.out _ _ ⟨HR.out.cell 1 rfl 0 rfl,HR.out.cell 1 rfl 1 rfl,HR.out.cell 1 rfl 2 rfl,HR.out.cell 1 rfl 3 rfl⟩ (fun hHeld => ?_)
   clear hK K
   refine norm_ (a':=?_) ?_ ?_
   rotate_left
   ·show Act.put _ (some 12) _ = _
    simp only [Act.put,List.setIfInBounds_toArray,List.set_cons_zero,List.set_cons_succ,i64_w,i32_w]
    rfl
   refine pure_ (i:=3) (N:=some 14) (v:=?_) (a':=?_) #[true,true,true,true,false,false] rfl rfl (any_of HT_.out (by kernel_rfl)) (fun _ _ _ h => h) (Or.inl ⟨by rfl,?_⟩) ?_ ?_
   rotate_left
   ·intro w'
    go_simp
    with_reducible rfl
   rotate_left
   ·simp only [Act.put,List.setIfInBounds_toArray,List.set_cons_zero,List.set_cons_succ,i64_w,i32_w]
    rfl
   refine one_ (i:=4) (N:=some 6) #[true,true,true,true,true,false] rfl rfl (one_of HT_.out (by kernel_rfl)) (by decide) (fun K hK => ?_)
   refine box_step (by rfl) (N:=6) rfl (cs:=#[.int .i64 0,.string (⟨#[]⟩ : ByteArray),.int .i64 0,.slice none 0 0,.int .i64 0,.string (⟨#[]⟩ : ByteArray),.int .i64 0,.slice none 0 0,.string (⟨#[]⟩ : ByteArray)]) (t:=48) ?hra ?_
   (case hra => first|(go_simp;done)|(go_simp;rfl))
   intro go hg w6 hbox hb
   have q_:=Aside0.mk (HR.out.box hg hb hbox)
   clear HR
   have HR:=q_
   clear q_
   clear hg hbox hb
   refine hK.out _ _ ⟨HR.out.cell 2 rfl 0 rfl,HR.out.cell 2 rfl 1 rfl,HR.out.cell 2 rfl 2 rfl,HR.out.cell 2 rfl 3 rfl⟩ (fun hHeld => ?_)
   clear hK K
   refine norm_ (a':=?_) ?_ ?_
   rotate_left
   ·show Act.put _ (some 6) _ = _
    simp only [Act.put,List.setIfInBounds_toArray,List.set_cons_zero,List.set_cons_succ,i64_w,i32_w]
    rfl
   exact norm_ (by simp only [putAll,Act.put,List.setIfInBounds_toArray,List.set_cons_zero,List.set_cons_succ]) (hCont go _ HR.out)
  ·skip
   refine box_step (by rfl) (N:=6) rfl (cs:=#[.int .i64 0,.string (⟨#[]⟩ : ByteArray),.int .i64 0,.slice none 0 0,.int .i64 0,.string (⟨#[]⟩ : ByteArray),.int .i64 0,.slice none 0 0,.string (⟨#[]⟩ : ByteArray)]) (t:=48) ?hra ?_
   (case hra => first|(go_simp;done)|(go_simp;rfl))
   intro go hg w5 hbox hb
   have q_:=Aside0.mk (HR.out.box hg hb hbox)
   clear HR
   have HR:=q_
   clear q_
   clear hg hbox hb
   refine hK.out _ _ ⟨HR.out.cell 2 rfl 0 rfl,HR.out.cell 2 rfl 1 rfl,HR.out.cell 2 rfl 2 rfl,HR.out.cell 2 rfl 3 rfl⟩ (fun hHeld => ?_)
   clear hK K
   refine norm_ (a':=?_) ?_ ?_
   rotate_left
   ·show Act.put _ (some 6) _ = _
    simp only [Act.put,List.setIfInBounds_toArray,List.set_cons_zero,List.set_cons_succ,i64_w,i32_w]
    rfl
   refine one_ (i:=1) (N:=some 12) #[true,true,true,false,true,false] rfl rfl (one_of HT_.out (by kernel_rfl)) (by decide) (fun K hK => ?_)
   refine goes_ Tryd.func89 (by kernel_rfl) rfl #[.string (⟨#[116,114,117,101]⟩ : ByteArray)] (by rfl) rfl rfl (by (try simp only [List.map_toArray,List.map_cons,List.map_nil]);first|done|rfl) ?_
   refine (satom_calls (⟨#[116,114,117,101]⟩ : ByteArray) w5).mono ?_
   rintro e w6 ⟨rfl,hb⟩
   refine ⟨_,rfl,?_⟩
   have q_:=Aside0.mk (HR.out.step hb)
   clear HR
   have HR:=q_
   clear q_
   clear hb
   refine hK.out _ _ ⟨HR.out.cell 2 rfl 0 rfl,HR.out.cell 2 rfl 1 rfl,HR.out.cell 2 rfl 2 rfl,HR.out.cell 2 rfl 3 rfl⟩ (fun hHeld => ?_)
   clear hK K
   refine norm_ (a':=?_) ?_ ?_
   rotate_left
   ·show Act.put _ (some 12) _ = _
    simp only [Act.put,List.setIfInBounds_toArray,List.set_cons_zero,List.set_cons_succ,i64_w,i32_w]
    rfl
   refine pure_ (i:=3) (N:=some 14) (v:=?_) (a':=?_) #[true,true,true,true,true,false] rfl rfl (any_of HT_.out (by kernel_rfl)) (fun _ _ _ h => h) (Or.inl ⟨by rfl,?_⟩) ?_ ?_
   rotate_left
   ·intro w'
    go_simp
    with_reducible rfl
   rotate_left
   ·simp only [Act.put,List.setIfInBounds_toArray,List.set_cons_zero,List.set_cons_succ,i64_w,i32_w]
    rfl
   exact norm_ (by simp only [putAll,Act.put,List.setIfInBounds_toArray,List.set_cons_zero,List.set_cons_succ]) (hCont go _ HR.out)
 rintro go w7 hR_
 clear HR
 have HR:=Aside0.mk (show Run w w (fun _ => False) [As.box go 48 #[.int .i64 0,.string (⟨#[]⟩ : ByteArray),.int .i64 0,.slice none 0 0,.int .i64 0,.string (⟨#[]⟩ : ByteArray),.int .i64 0,.slice none 0 0,.string (⟨#[]⟩ : ByteArray)],As.box gr 48 #[.int .i64 0,.string (⟨#[]⟩ : ByteArray),.int .i64 0,.slice none 0 0,.int .i64 0,.string (⟨#[]⟩ : ByteArray),.int .i64 0,.slice none 0 0,.string (⟨#[]⟩ : ByteArray)],As.box ga 29 #[.int .i64 t.f0,.string t.f1,.int .i64 t.f2,.slice A t.f3.length c]] w7 from hR_)
 clear hR_
 refine norm_ (a':=?_) ?_ ?_
 rotate_left
 ·simp only [putAll,Act.put,List.setIfInBounds_toArray,List.set_cons_zero,List.set_cons_succ]
  rfl
 refine last_ (i:=5) (N:=none) #[true,true,true,true,true,true] rfl rfl (one_of HT_.out (by kernel_rfl)) (by decide) (fun K hK => ?_)
 have hz0_ : w7.cell? ⟨go,0,none⟩ = some (.int .i64 0):=HR.out.cell 0 rfl 0 rfl
 have fz0_:=HR.out.free 0 rfl 0
 have hz1_ : w7.cell? ⟨go,1,none⟩ = some (.string (⟨#[]⟩ : ByteArray)):=HR.out.cell 0 rfl 1 rfl
 have fz1_:=HR.out.free 0 rfl 1
 have hz2_ : w7.cell? ⟨go,2,none⟩ = some (.int .i64 0):=HR.out.cell 0 rfl 2 rfl
 have fz2_:=HR.out.free 0 rfl 2
 have hz3_ : w7.cell? ⟨go,3,none⟩ = some (.slice none 0 0):=HR.out.cell 0 rfl 3 rfl
 have fz3_:=HR.out.free 0 rfl 3
 have hz4_ : w7.cell? ⟨go,4,none⟩ = some (.int .i64 0):=HR.out.cell 0 rfl 4 rfl
 have fz4_:=HR.out.free 0 rfl 4
 have hz5_ : w7.cell? ⟨go,5,none⟩ = some (.string (⟨#[]⟩ : ByteArray)):=HR.out.cell 0 rfl 5 rfl
 have fz5_:=HR.out.free 0 rfl 5
 have hz6_ : w7.cell? ⟨go,6,none⟩ = some (.int .i64 0):=HR.out.cell 0 rfl 6 rfl
 have fz6_:=HR.out.free 0 rfl 6
 have hz7_ : w7.cell? ⟨go,7,none⟩ = some (.slice none 0 0):=HR.out.cell 0 rfl 7 rfl
 have fz7_:=HR.out.free 0 rfl 7
 have hz8_ : w7.cell? ⟨go,8,none⟩ = some (.string (⟨#[]⟩ : ByteArray)):=HR.out.cell 0 rfl 8 rfl
 have fz8_:=HR.out.free 0 rfl 8
 refine skip_ (w1:=w7.setCells go 0 [.int .i64 t.f0,.string t.f1,.int .i64 t.f2,.slice A t.f3.length c,.int .i64 2,.string (⟨#[116,114,117,101]⟩ : ByteArray),.int .i64 0,.slice none 0 0,.string file]) (by rfl) rfl ?_ ?_
 ·first|(go_simp;done)|(go_simp;rfl)
 refine hK.out _ _ ?_
 clear hK K hz0_ fz0_ hz1_ fz1_ hz2_ fz2_ hz3_ fz3_ hz4_ fz4_ hz5_ fz5_ hz6_ fz6_ hz7_ fz7_ hz8_ fz8_
 have q_:=Aside0.mk (HR.out.store 0 rfl [.int .i64 t.f0,.string t.f1,.int .i64 t.f2,.slice A t.f3.length c,.int .i64 2,.string (⟨#[116,114,117,101]⟩ : ByteArray),.int .i64 0,.slice none 0 0,.string file] rfl)
 clear HR
 have HR:=q_
 clear q_
 generalize w7.setCells go 0 [.int .i64 t.f0,.string t.f1,.int .i64 t.f2,.slice A t.f3.length c,.int .i64 2,.string (⟨#[116,114,117,101]⟩ : ByteArray),.int .i64 0,.slice none 0 0,.string file] = w8 at HR ⊢
 refine done_ (done_of HT_.out (by kernel_rfl)) ?_
 have hc4_ga_0 : w8.cell? ⟨ga,0,none⟩ = some (.int .i64 t.f0):=HR.out.cell 2 rfl 0 rfl
 have hc4_ga_1 : w8.cell? ⟨ga,1,none⟩ = some (.string t.f1):=HR.out.cell 2 rfl 1 rfl
 have hc4_ga_2 : w8.cell? ⟨ga,2,none⟩ = some (.int .i64 t.f2):=HR.out.cell 2 rfl 2 rfl
 have hc4_ga_3 : w8.cell? ⟨ga,3,none⟩ = some (.slice A t.f3.length c):=HR.out.cell 2 rfl 3 rfl
 rcases Bool.eq_false_or_eq_true bh with rfl|rfl
 ·rcases Bool.eq_false_or_eq_true bb with rfl|rfl
  ·skip
   go_wp2_with (first
    | (go_at_call 90; with_reducible refine (H2.out w8 HR.out.bel).mono ?_; rintro e w9 ⟨rfl, hb⟩; have q_ := Aside0.mk (HR.out.step hb); clear HR; have HR := q_; clear q_; clear hb; clear hc4_ga_0 hc4_ga_1 hc4_ga_2 hc4_ga_3; have hc5_go_0 : w9.cell? ⟨go, 0, none⟩ = some (.int .i64 t.f0) := HR.out.cell 0 rfl 0 rfl; have hc5_go_1 : w9.cell? ⟨go, 1, none⟩ = some (.string t.f1) := HR.out.cell 0 rfl 1 rfl; have hc5_go_2 : w9.cell? ⟨go, 2, none⟩ = some (.int .i64 t.f2) := HR.out.cell 0 rfl 2 rfl; have hc5_go_3 : w9.cell? ⟨go, 3, none⟩ = some (.slice A t.f3.length c) := HR.out.cell 0 rfl 3 rfl; have hc5_go_4 : w9.cell? ⟨go, 4, none⟩ = some (.int .i64 2) := HR.out.cell 0 rfl 4 rfl; have hc5_go_5 : w9.cell? ⟨go, 5, none⟩ = some (.string (⟨#[116, 114, 117, 101]⟩ : ByteArray)) := HR.out.cell 0 rfl 5 rfl; have hc5_go_6 : w9.cell? ⟨go, 6, none⟩ = some (.int .i64 0) := HR.out.cell 0 rfl 6 rfl; have hc5_go_7 : w9.cell? ⟨go, 7, none⟩ = some (.slice none 0 0) := HR.out.cell 0 rfl 7 rfl; have hc5_go_8 : w9.cell? ⟨go, 8, none⟩ = some (.string file) := HR.out.cell 0 rfl 8 rfl)
    | (go_at_call 87; with_reducible refine (H3.out w9 A c HR.out.bel (Kd.C_below HC.out HR.out.bel) HCC.out).mono ?_; rintro e w10 ⟨rfl, hb⟩; have q_ := Aside0.mk (HR.out.step hb); clear HR; have HR := q_; clear q_; clear hb; clear hc5_go_0 hc5_go_1 hc5_go_2 hc5_go_3 hc5_go_4 hc5_go_5 hc5_go_6 hc5_go_7 hc5_go_8; have hc6_go_0 : w10.cell? ⟨go, 0, none⟩ = some (.int .i64 t.f0) := HR.out.cell 0 rfl 0 rfl; have hc6_go_1 : w10.cell? ⟨go, 1, none⟩ = some (.string t.f1) := HR.out.cell 0 rfl 1 rfl; have hc6_go_2 : w10.cell? ⟨go, 2, none⟩ = some (.int .i64 t.f2) := HR.out.cell 0 rfl 2 rfl; have hc6_go_3 : w10.cell? ⟨go, 3, none⟩ = some (.slice A t.f3.length c) := HR.out.cell 0 rfl 3 rfl; have hc6_go_4 : w10.cell? ⟨go, 4, none⟩ = some (.int .i64 2) := HR.out.cell 0 rfl 4 rfl; have hc6_go_5 : w10.cell? ⟨go, 5, none⟩ = some (.string (⟨#[116, 114, 117, 101]⟩ : ByteArray)) := HR.out.cell 0 rfl 5 rfl; have hc6_go_6 : w10.cell? ⟨go, 6, none⟩ = some (.int .i64 0) := HR.out.cell 0 rfl 6 rfl; have hc6_go_7 : w10.cell? ⟨go, 7, none⟩ = some (.slice none 0 0) := HR.out.cell 0 rfl 7 rfl; have hc6_go_8 : w10.cell? ⟨go, 8, none⟩ = some (.string file) := HR.out.cell 0 rfl 8 rfl)
    | (go_at_call 86; with_reducible refine (H4.out w10).mono ?_; rintro e w11 ⟨rfl, hb⟩; have q_ := Aside0.mk (HR.out.step hb); clear HR; have HR := q_; clear q_; clear hb; clear hc6_go_0 hc6_go_1 hc6_go_2 hc6_go_3 hc6_go_4 hc6_go_5 hc6_go_6 hc6_go_7 hc6_go_8; have hc7_go_0 : w11.cell? ⟨go, 0, none⟩ = some (.int .i64 t.f0) := HR.out.cell 0 rfl 0 rfl; have hc7_go_1 : w11.cell? ⟨go, 1, none⟩ = some (.string t.f1) := HR.out.cell 0 rfl 1 rfl; have hc7_go_2 : w11.cell? ⟨go, 2, none⟩ = some (.int .i64 t.f2) := HR.out.cell 0 rfl 2 rfl; have hc7_go_3 : w11.cell? ⟨go, 3, none⟩ = some (.slice A t.f3.length c) := HR.out.cell 0 rfl 3 rfl; have hc7_go_4 : w11.cell? ⟨go, 4, none⟩ = some (.int .i64 2) := HR.out.cell 0 rfl 4 rfl; have hc7_go_5 : w11.cell? ⟨go, 5, none⟩ = some (.string (⟨#[116, 114, 117, 101]⟩ : ByteArray)) := HR.out.cell 0 rfl 5 rfl; have hc7_go_6 : w11.cell? ⟨go, 6, none⟩ = some (.int .i64 0) := HR.out.cell 0 rfl 6 rfl; have hc7_go_7 : w11.cell? ⟨go, 7, none⟩ = some (.slice none 0 0) := HR.out.cell 0 rfl 7 rfl; have hc7_go_8 : w11.cell? ⟨go, 8, none⟩ = some (.string file) := HR.out.cell 0 rfl 8 rfl; have hc7_gr_0 : w11.cell? ⟨gr, 0, none⟩ = some (.int .i64 0) := HR.out.cell 1 rfl 0 rfl; have hc7_gr_1 : w11.cell? ⟨gr, 1, none⟩ = some (.string (⟨#[]⟩ : ByteArray)) := HR.out.cell 1 rfl 1 rfl; have hc7_gr_2 : w11.cell? ⟨gr, 2, none⟩ = some (.int .i64 0) := HR.out.cell 1 rfl 2 rfl; have hc7_gr_3 : w11.cell? ⟨gr, 3, none⟩ = some (.slice none 0 0) := HR.out.cell 1 rfl 3 rfl; have hc7_gr_4 : w11.cell? ⟨gr, 4, none⟩ = some (.int .i64 0) := HR.out.cell 1 rfl 4 rfl; have hc7_gr_5 : w11.cell? ⟨gr, 5, none⟩ = some (.string (⟨#[]⟩ : ByteArray)) := HR.out.cell 1 rfl 5 rfl; have hc7_gr_6 : w11.cell? ⟨gr, 6, none⟩ = some (.int .i64 0) := HR.out.cell 1 rfl 6 rfl; have hc7_gr_7 : w11.cell? ⟨gr, 7, none⟩ = some (.slice none 0 0) := HR.out.cell 1 rfl 7 rfl; have hc7_gr_8 : w11.cell? ⟨gr, 8, none⟩ = some (.string (⟨#[]⟩ : ByteArray)) := HR.out.cell 1 rfl 8 rfl; have fc7_gr_0 := HR.out.free 1 rfl 0; have fc7_gr_1 := HR.out.free 1 rfl 1; have fc7_gr_2 := HR.out.free 1 rfl 2; have fc7_gr_3 := HR.out.free 1 rfl 3; have fc7_gr_4 := HR.out.free 1 rfl 4; have fc7_gr_5 := HR.out.free 1 rfl 5; have fc7_gr_6 := HR.out.free 1 rfl 6; have fc7_gr_7 := HR.out.free 1 rfl 7; have fc7_gr_8 := HR.out.free 1 rfl 8)
    | ((with_reducible refine gate_store (t := 48) (p := 4) rfl ?_); refine store_event (t := 48) (p := 4) (v := ?vo_2) (w1 := w11.setCells gr 0 [.int .i64 t.f0, .string t.f1, .int .i64 t.f2, .slice A t.f3.length c, .int .i64 2, .string (⟨#[116, 114, 117, 101]⟩ : ByteArray), .int .i64 0, .slice none 0 0, .string file]) ?hgs_2 ?hos_2 ?hns_2 ?hrs_2 ?_; (case hos_2 => rfl); (case hgs_2 => rfl); (case hns_2 => rfl); (case hrs_2 => first | (go_simp; done) | (go_simp; rfl)); intro w12 hw; have q_ := Aside0.mk (hw ▸ HR.out.store 1 rfl [.int .i64 t.f0, .string t.f1, .int .i64 t.f2, .slice A t.f3.length c, .int .i64 2, .string (⟨#[116, 114, 117, 101]⟩ : ByteArray), .int .i64 0, .slice none 0 0, .string file] rfl); clear HR; have HR := q_; clear q_; clear hw; clear hc7_go_0 hc7_go_1 hc7_go_2 hc7_go_3 hc7_go_4 hc7_go_5 hc7_go_6 hc7_go_7 hc7_go_8 hc7_gr_0 hc7_gr_1 hc7_gr_2 hc7_gr_3 hc7_gr_4 hc7_gr_5 hc7_gr_6 hc7_gr_7 hc7_gr_8 fc7_gr_0 fc7_gr_1 fc7_gr_2 fc7_gr_3 fc7_gr_4 fc7_gr_5 fc7_gr_6 fc7_gr_7 fc7_gr_8))
   refine bodyPost_ret (results_ct rfl _ _ gr 48 #[.int .i64 t.f0,.string t.f1,.int .i64 t.f2,.slice A t.f3.length c,.int .i64 2,.string (⟨#[116,114,117,101]⟩ : ByteArray),.int .i64 0,.slice none 0 0,.string file] (0,0) _ rfl (HR.out.has 1 rfl).2 Tryd.underlying48 rfl (by kernel_rfl)) rfl ?_
   exact (show MadeCR (⟨t,(⟨2,(⟨#[116,114,117,101]⟩ : ByteArray),0,[]⟩ : S29),file⟩ : S48) true w _ _ from ⟨A,c,none,0,rfl,⟨HCC.out,(Kd.C_below HC.out HR.out.bel),(Nat.zero_le _),(nil_C _ _)⟩,HR.out.bel⟩)
  ·skip
   go_wp2_with (first
    | (go_at_call 90; with_reducible refine (H2.out w8 HR.out.bel).mono ?_; rintro e w9 ⟨rfl, hb⟩; have q_ := Aside0.mk (HR.out.step hb); clear HR; have HR := q_; clear q_; clear hb; clear hc4_ga_0 hc4_ga_1 hc4_ga_2 hc4_ga_3; have hc5_go_0 : w9.cell? ⟨go, 0, none⟩ = some (.int .i64 t.f0) := HR.out.cell 0 rfl 0 rfl; have hc5_go_1 : w9.cell? ⟨go, 1, none⟩ = some (.string t.f1) := HR.out.cell 0 rfl 1 rfl; have hc5_go_2 : w9.cell? ⟨go, 2, none⟩ = some (.int .i64 t.f2) := HR.out.cell 0 rfl 2 rfl; have hc5_go_3 : w9.cell? ⟨go, 3, none⟩ = some (.slice A t.f3.length c) := HR.out.cell 0 rfl 3 rfl; have hc5_go_4 : w9.cell? ⟨go, 4, none⟩ = some (.int .i64 2) := HR.out.cell 0 rfl 4 rfl; have hc5_go_5 : w9.cell? ⟨go, 5, none⟩ = some (.string (⟨#[116, 114, 117, 101]⟩ : ByteArray)) := HR.out.cell 0 rfl 5 rfl; have hc5_go_6 : w9.cell? ⟨go, 6, none⟩ = some (.int .i64 0) := HR.out.cell 0 rfl 6 rfl; have hc5_go_7 : w9.cell? ⟨go, 7, none⟩ = some (.slice none 0 0) := HR.out.cell 0 rfl 7 rfl; have hc5_go_8 : w9.cell? ⟨go, 8, none⟩ = some (.string file) := HR.out.cell 0 rfl 8 rfl)
    | (go_at_call 87; with_reducible refine (H3.out w9 A c HR.out.bel (Kd.C_below HC.out HR.out.bel) HCC.out).mono ?_; rintro e w10 ⟨rfl, hb⟩; have q_ := Aside0.mk (HR.out.step hb); clear HR; have HR := q_; clear q_; clear hb; clear hc5_go_0 hc5_go_1 hc5_go_2 hc5_go_3 hc5_go_4 hc5_go_5 hc5_go_6 hc5_go_7 hc5_go_8; have hc6_go_0 : w10.cell? ⟨go, 0, none⟩ = some (.int .i64 t.f0) := HR.out.cell 0 rfl 0 rfl; have hc6_go_1 : w10.cell? ⟨go, 1, none⟩ = some (.string t.f1) := HR.out.cell 0 rfl 1 rfl; have hc6_go_2 : w10.cell? ⟨go, 2, none⟩ = some (.int .i64 t.f2) := HR.out.cell 0 rfl 2 rfl; have hc6_go_3 : w10.cell? ⟨go, 3, none⟩ = some (.slice A t.f3.length c) := HR.out.cell 0 rfl 3 rfl; have hc6_go_4 : w10.cell? ⟨go, 4, none⟩ = some (.int .i64 2) := HR.out.cell 0 rfl 4 rfl; have hc6_go_5 : w10.cell? ⟨go, 5, none⟩ = some (.string (⟨#[116, 114, 117, 101]⟩ : ByteArray)) := HR.out.cell 0 rfl 5 rfl; have hc6_go_6 : w10.cell? ⟨go, 6, none⟩ = some (.int .i64 0) := HR.out.cell 0 rfl 6 rfl; have hc6_go_7 : w10.cell? ⟨go, 7, none⟩ = some (.slice none 0 0) := HR.out.cell 0 rfl 7 rfl; have hc6_go_8 : w10.cell? ⟨go, 8, none⟩ = some (.string file) := HR.out.cell 0 rfl 8 rfl)
    | (go_at_call 86; with_reducible refine (H4.out w10).mono ?_; rintro e w11 ⟨rfl, hb⟩; have q_ := Aside0.mk (HR.out.step hb); clear HR; have HR := q_; clear q_; clear hb; clear hc6_go_0 hc6_go_1 hc6_go_2 hc6_go_3 hc6_go_4 hc6_go_5 hc6_go_6 hc6_go_7 hc6_go_8; have hc7_gr_0 : w11.cell? ⟨gr, 0, none⟩ = some (.int .i64 0) := HR.out.cell 1 rfl 0 rfl; have hc7_gr_1 : w11.cell? ⟨gr, 1, none⟩ = some (.string (⟨#[]⟩ : ByteArray)) := HR.out.cell 1 rfl 1 rfl; have hc7_gr_2 : w11.cell? ⟨gr, 2, none⟩ = some (.int .i64 0) := HR.out.cell 1 rfl 2 rfl; have hc7_gr_3 : w11.cell? ⟨gr, 3, none⟩ = some (.slice none 0 0) := HR.out.cell 1 rfl 3 rfl; have hc7_gr_4 : w11.cell? ⟨gr, 4, none⟩ = some (.int .i64 0) := HR.out.cell 1 rfl 4 rfl; have hc7_gr_5 : w11.cell? ⟨gr, 5, none⟩ = some (.string (⟨#[]⟩ : ByteArray)) := HR.out.cell 1 rfl 5 rfl; have hc7_gr_6 : w11.cell? ⟨gr, 6, none⟩ = some (.int .i64 0) := HR.out.cell 1 rfl 6 rfl; have hc7_gr_7 : w11.cell? ⟨gr, 7, none⟩ = some (.slice none 0 0) := HR.out.cell 1 rfl 7 rfl; have hc7_gr_8 : w11.cell? ⟨gr, 8, none⟩ = some (.string (⟨#[]⟩ : ByteArray)) := HR.out.cell 1 rfl 8 rfl; have fc7_gr_0 := HR.out.free 1 rfl 0; have fc7_gr_1 := HR.out.free 1 rfl 1; have fc7_gr_2 := HR.out.free 1 rfl 2; have fc7_gr_3 := HR.out.free 1 rfl 3; have fc7_gr_4 := HR.out.free 1 rfl 4; have fc7_gr_5 := HR.out.free 1 rfl 5; have fc7_gr_6 := HR.out.free 1 rfl 6; have fc7_gr_7 := HR.out.free 1 rfl 7; have fc7_gr_8 := HR.out.free 1 rfl 8)
    | ((with_reducible refine gate_store (t := 48) (p := 4) rfl ?_); refine store_event (t := 48) (p := 4) (v := ?vo_3) (w1 := w11.setCells gr 0 [.int .i64 0, .string (⟨#[]⟩ : ByteArray), .int .i64 0, .slice none 0 0, .int .i64 0, .string (⟨#[]⟩ : ByteArray), .int .i64 0, .slice none 0 0, .string (⟨#[]⟩ : ByteArray)]) ?hgs_3 ?hos_3 ?hns_3 ?hrs_3 ?_; (case hos_3 => rfl); (case hgs_3 => rfl); (case hns_3 => rfl); (case hrs_3 => first | (go_simp; done) | (go_simp; rfl)); intro w12 hw; have q_ := Aside0.mk (hw ▸ HR.out.store 1 rfl [.int .i64 0, .string (⟨#[]⟩ : ByteArray), .int .i64 0, .slice none 0 0, .int .i64 0, .string (⟨#[]⟩ : ByteArray), .int .i64 0, .slice none 0 0, .string (⟨#[]⟩ : ByteArray)] rfl); clear HR; have HR := q_; clear q_; clear hw; clear hc7_gr_0 hc7_gr_1 hc7_gr_2 hc7_gr_3 hc7_gr_4 hc7_gr_5 hc7_gr_6 hc7_gr_7 hc7_gr_8 fc7_gr_0 fc7_gr_1 fc7_gr_2 fc7_gr_3 fc7_gr_4 fc7_gr_5 fc7_gr_6 fc7_gr_7 fc7_gr_8))
   refine bodyPost_ret (results_ct rfl _ _ gr 48 #[.int .i64 0,.string (⟨#[]⟩ : ByteArray),.int .i64 0,.slice none 0 0,.int .i64 0,.string (⟨#[]⟩ : ByteArray),.int .i64 0,.slice none 0 0,.string (⟨#[]⟩ : ByteArray)] (0,0) _ rfl (HR.out.has 1 rfl).2 Tryd.underlying48 rfl (by kernel_rfl)) rfl ?_
   exact (show MadeCR zC false w _ _ from ⟨none,0,none,0,rfl,⟨Nat.le_refl _,Kd.C_nil k29 _,Nat.le_refl _,Kd.C_nil k29 _⟩,HR.out.bel⟩)
 ·skip
  go_wp2_with (first
   | (go_at_call 90; with_reducible refine (H2.out w8 HR.out.bel).mono ?_; rintro e w9 ⟨rfl, hb⟩; have q_ := Aside0.mk (HR.out.step hb); clear HR; have HR := q_; clear q_; clear hb; clear hc4_ga_0 hc4_ga_1 hc4_ga_2 hc4_ga_3; have hc5_go_0 : w9.cell? ⟨go, 0, none⟩ = some (.int .i64 t.f0) := HR.out.cell 0 rfl 0 rfl; have hc5_go_1 : w9.cell? ⟨go, 1, none⟩ = some (.string t.f1) := HR.out.cell 0 rfl 1 rfl; have hc5_go_2 : w9.cell? ⟨go, 2, none⟩ = some (.int .i64 t.f2) := HR.out.cell 0 rfl 2 rfl; have hc5_go_3 : w9.cell? ⟨go, 3, none⟩ = some (.slice A t.f3.length c) := HR.out.cell 0 rfl 3 rfl; have hc5_go_4 : w9.cell? ⟨go, 4, none⟩ = some (.int .i64 2) := HR.out.cell 0 rfl 4 rfl; have hc5_go_5 : w9.cell? ⟨go, 5, none⟩ = some (.string (⟨#[116, 114, 117, 101]⟩ : ByteArray)) := HR.out.cell 0 rfl 5 rfl; have hc5_go_6 : w9.cell? ⟨go, 6, none⟩ = some (.int .i64 0) := HR.out.cell 0 rfl 6 rfl; have hc5_go_7 : w9.cell? ⟨go, 7, none⟩ = some (.slice none 0 0) := HR.out.cell 0 rfl 7 rfl; have hc5_go_8 : w9.cell? ⟨go, 8, none⟩ = some (.string file) := HR.out.cell 0 rfl 8 rfl)
   | (go_at_call 87; with_reducible refine (H3.out w9 A c HR.out.bel (Kd.C_below HC.out HR.out.bel) HCC.out).mono ?_; rintro e w10 ⟨rfl, hb⟩; have q_ := Aside0.mk (HR.out.step hb); clear HR; have HR := q_; clear q_; clear hb; clear hc5_go_0 hc5_go_1 hc5_go_2 hc5_go_3 hc5_go_4 hc5_go_5 hc5_go_6 hc5_go_7 hc5_go_8; have hc6_gr_0 : w10.cell? ⟨gr, 0, none⟩ = some (.int .i64 0) := HR.out.cell 1 rfl 0 rfl; have hc6_gr_1 : w10.cell? ⟨gr, 1, none⟩ = some (.string (⟨#[]⟩ : ByteArray)) := HR.out.cell 1 rfl 1 rfl; have hc6_gr_2 : w10.cell? ⟨gr, 2, none⟩ = some (.int .i64 0) := HR.out.cell 1 rfl 2 rfl; have hc6_gr_3 : w10.cell? ⟨gr, 3, none⟩ = some (.slice none 0 0) := HR.out.cell 1 rfl 3 rfl; have hc6_gr_4 : w10.cell? ⟨gr, 4, none⟩ = some (.int .i64 0) := HR.out.cell 1 rfl 4 rfl; have hc6_gr_5 : w10.cell? ⟨gr, 5, none⟩ = some (.string (⟨#[]⟩ : ByteArray)) := HR.out.cell 1 rfl 5 rfl; have hc6_gr_6 : w10.cell? ⟨gr, 6, none⟩ = some (.int .i64 0) := HR.out.cell 1 rfl 6 rfl; have hc6_gr_7 : w10.cell? ⟨gr, 7, none⟩ = some (.slice none 0 0) := HR.out.cell 1 rfl 7 rfl; have hc6_gr_8 : w10.cell? ⟨gr, 8, none⟩ = some (.string (⟨#[]⟩ : ByteArray)) := HR.out.cell 1 rfl 8 rfl; have fc6_gr_0 := HR.out.free 1 rfl 0; have fc6_gr_1 := HR.out.free 1 rfl 1; have fc6_gr_2 := HR.out.free 1 rfl 2; have fc6_gr_3 := HR.out.free 1 rfl 3; have fc6_gr_4 := HR.out.free 1 rfl 4; have fc6_gr_5 := HR.out.free 1 rfl 5; have fc6_gr_6 := HR.out.free 1 rfl 6; have fc6_gr_7 := HR.out.free 1 rfl 7; have fc6_gr_8 := HR.out.free 1 rfl 8)
   | ((with_reducible refine gate_store (t := 48) (p := 4) rfl ?_); refine store_event (t := 48) (p := 4) (v := ?vo_4) (w1 := w10.setCells gr 0 [.int .i64 0, .string (⟨#[]⟩ : ByteArray), .int .i64 0, .slice none 0 0, .int .i64 0, .string (⟨#[]⟩ : ByteArray), .int .i64 0, .slice none 0 0, .string (⟨#[]⟩ : ByteArray)]) ?hgs_4 ?hos_4 ?hns_4 ?hrs_4 ?_; (case hos_4 => rfl); (case hgs_4 => rfl); (case hns_4 => rfl); (case hrs_4 => first | (go_simp; done) | (go_simp; rfl)); intro w11 hw; have q_ := Aside0.mk (hw ▸ HR.out.store 1 rfl [.int .i64 0, .string (⟨#[]⟩ : ByteArray), .int .i64 0, .slice none 0 0, .int .i64 0, .string (⟨#[]⟩ : ByteArray), .int .i64 0, .slice none 0 0, .string (⟨#[]⟩ : ByteArray)] rfl); clear HR; have HR := q_; clear q_; clear hw; clear hc6_gr_0 hc6_gr_1 hc6_gr_2 hc6_gr_3 hc6_gr_4 hc6_gr_5 hc6_gr_6 hc6_gr_7 hc6_gr_8 fc6_gr_0 fc6_gr_1 fc6_gr_2 fc6_gr_3 fc6_gr_4 fc6_gr_5 fc6_gr_6 fc6_gr_7 fc6_gr_8))
  refine bodyPost_ret (results_ct rfl _ _ gr 48 #[.int .i64 0,.string (⟨#[]⟩ : ByteArray),.int .i64 0,.slice none 0 0,.int .i64 0,.string (⟨#[]⟩ : ByteArray),.int .i64 0,.slice none 0 0,.string (⟨#[]⟩ : ByteArray)] (0,0) _ rfl (HR.out.has 1 rfl).2 Tryd.underlying48 rfl (by kernel_rfl)) rfl ?_
  exact (show MadeCR zC false w _ _ from ⟨none,0,none,0,rfl,⟨Nat.le_refl _,Kd.C_nil k29 _,Nat.le_refl _,Kd.C_nil k29 _⟩,HR.out.bel⟩)
set_option maxHeartbeats 16000000 in
set_option maxRecDepth 100000 in
theorem spec_clo_B (a0 : Int) (a1 : ByteArray) (a2 : Int) (x y : S29) (file : ByteArray) (ad : Addr) (c : Nat) (w : World) (hC : Kd.C k29 w (some ad) 2 [x,y]) (hc : 2 ≤ c)
  (h1 : ∀ W,Below w.heap.size w W → Calls Tryd.prog 86 #[.agg #[.int .i64 a0,.string a1,.int .i64 a2,.slice (some ad) 2 c]] W fun e W' => e = .returned (.bool true) ∧ Below W.heap.size W W') (h2 : ∀ W,Below w.heap.size w W → Calls Tryd.prog 90 #[.agg #[.int .i64 a0,.string a1,.int .i64 a2,.slice (some ad) 2 c],.string (⟨#[58,45]⟩ : ByteArray),.int .i64 2] W fun e W' => e = .returned (.bool true) ∧ Below W.heap.size W W') (hk : y.f0 ≠ 1) (bh : Bool) (h3 : ∀ W (A : Option Addr) (c : Nat),Below w.heap.size w W → Kd.C k29 W A x.f3.length x.f3 → x.f3.length ≤ c → Calls Tryd.prog 87 #[.agg #[.int .i64 x.f0,.string x.f1,.int .i64 x.f2,.slice A x.f3.length c]] W fun e W' => e = .returned (.bool bh) ∧ Below W.heap.size W W') (bb : Bool) (h4 : ∀ W (B : Option Addr) (d : Nat),Kd.C k29 W B y.f3.length y.f3 → y.f3.length ≤ d → Calls Tryd.prog 86 #[.agg #[.int .i64 y.f0,.string y.f1,.int .i64 y.f2,.slice B y.f3.length d]] W fun e W' => e = .returned (.bool bb) ∧ Below W.heap.size W W') : Calls Tryd.prog 58 #[.agg #[.int .i64 a0,.string a1,.int .i64 a2,.slice (some ad) 2 c],.string file] w fun e w' => MadeCR (if (bh && bb) = true then (⟨x,y,file⟩ : S48) else zC) (bh && bb) w e w':=by
 have HC:=Aside0.mk hC
 have HCC:=Aside0.mk hc
 have H1:=Aside0.mk h1
 have H2:=Aside0.mk h2
 have H3:=Aside0.mk h3
 have H4:=Aside0.mk h4
 have HR:=Aside0.mk (run_law w)
 have cv0 : (y.f0 == 1) = false:=beq_eq_false_iff_ne.2 hk
 have cv1 : decide (y.f0 = 1) = false:=decide_eq_false hk
 obtain ⟨ad1,A3,c3,e1,hx0,hx1,hx2,hx3,hl3,hi3⟩:=at_T29 hC 0 (by decide) (by decide)
 obtain ⟨ad2,A7,c7,e2,hy0,hy1,hy2,hy3,hl7,hi7⟩:=at_T29 hC 1 (by decide) (by decide)
 injection e1 with e1
 injection e2 with e2
 rw [← e1] at hx0 hx1 hx2 hx3
 rw [← e2] at hy0 hy1 hy2 hy3
 clear e1 e2 ad1 ad2
 rw [show rd_T29 [x,y] 0 = x from rfl] at hx0 hx1 hx2 hx3 hl3 hi3
 rw [show rd_T29 [x,y] 1 = y from rfl] at hy0 hy1 hy2 hy3 hl7 hi7
 have E0 : ad.add ((0 : Int).toNat * 4) = ad:=ad_zero ad
 have E1 : ad.add ((1 : Int).toNat * 4) = ⟨ad.block,ad.off + 4,none⟩:=ad_four ad
 rw [E0] at hx0 hx1 hx2 hx3
 rw [E1] at hy0 hy1 hy2 hy3
 clear E0 E1
 replace hy1 : w.cell? ⟨ad.block,ad.off + 5,none⟩ = _:=hy1
 replace hy2 : w.cell? ⟨ad.block,ad.off + 6,none⟩ = _:=hy2
 replace hy3 : w.cell? ⟨ad.block,ad.off + 7,none⟩ = _:=hy3
 have HL3:=Aside0.mk hl3
 have HI3:=Aside0.mk hi3
 have HL7:=Aside0.mk hl7
 have HI7:=Aside0.mk hi7
 have HX0:=Aside0.mk hx0
 have HX1:=Aside0.mk hx1
 have HX2:=Aside0.mk hx2
 have HX3:=Aside0.mk hx3
 have HY0:=Aside0.mk hy0
 have HY1:=Aside0.mk hy1
 have HY2:=Aside0.mk hy2
 have HY3:=Aside0.mk hy3
 clear hl3 hi3 hl7 hi7 hx0 hx1 hx2 hx3 hy0 hy1 hy2 hy3
 clear hC hc h1 h2 h3 h4 hk
 go_enter Tryd.func58,Tryd.ntmps58
 go_wp2_with (first
  | ((with_reducible refine gate_dst (N := 2) rfl ?_); refine box_event ?hg2 (N := 2) ?hd2 (cs := #[.int .i64 a0, .string a1, .int .i64 a2, .slice (some ad) 2 c]) (t := 29) ?hr2 ?_; (case hd2 => rfl); (case hg2 => rfl); (case hr2 => first | (go_simp; done) | (go_simp; rfl)); intro ga hg w1 hbox hb; have q_ := Aside0.mk (HR.out.box hg hb hbox); clear HR; have HR := q_; clear q_; clear hg hbox hb)
  | ((with_reducible refine gate_dst (N := 4) rfl ?_); refine box_event ?hg4 (N := 4) ?hd4 (cs := #[.int .i64 0, .string (⟨#[]⟩ : ByteArray), .int .i64 0, .slice none 0 0, .int .i64 0, .string (⟨#[]⟩ : ByteArray), .int .i64 0, .slice none 0 0, .string (⟨#[]⟩ : ByteArray)]) (t := 48) ?hr4 ?_; (case hd4 => rfl); (case hg4 => rfl); (case hr4 => first | (go_simp; done) | (go_simp; rfl)); intro gr hg w2 hbox hb; have q_ := Aside0.mk (HR.out.box hg hb hbox); clear HR; have HR := q_; clear q_; clear hg hbox hb; have hc2_ga_0 : w2.cell? ⟨ga, 0, none⟩ = some (.int .i64 a0) := HR.out.cell 1 rfl 0 rfl; have hc2_ga_1 : w2.cell? ⟨ga, 1, none⟩ = some (.string a1) := HR.out.cell 1 rfl 1 rfl; have hc2_ga_2 : w2.cell? ⟨ga, 2, none⟩ = some (.int .i64 a2) := HR.out.cell 1 rfl 2 rfl; have hc2_ga_3 : w2.cell? ⟨ga, 3, none⟩ = some (.slice (some ad) 2 c) := HR.out.cell 1 rfl 3 rfl)
  | (go_at_call 86; with_reducible refine (H1.out w2 HR.out.bel).mono ?_; rintro e w3 ⟨rfl, hb⟩; have q_ := Aside0.mk (HR.out.step hb); clear HR; have HR := q_; clear q_; clear hb; clear hc2_ga_0 hc2_ga_1 hc2_ga_2 hc2_ga_3))
 have q_:=Aside0.mk (HR.out.drew)
 clear HR
 have HR:=q_
 clear q_
 refine start_ (n:=6) (S:=fun w' => w'.cell? ⟨ga,0,none⟩ = some (.int .i64 a0) ∧ w'.cell? ⟨ga,1,none⟩ = some (.string a1) ∧ w'.cell? ⟨ga,2,none⟩ = some (.int .i64 a2) ∧ w'.cell? ⟨ga,3,none⟩ = some (.slice (some ad) 2 c)) (ds:=[5]) #[false,false,false,false,false,false] (by kernel_rfl) rfl rfl ⟨HR.out.cell 1 rfl 0 rfl,HR.out.cell 1 rfl 1 rfl,HR.out.cell 1 rfl 2 rfl,HR.out.cell 1 rfl 3 rfl⟩ (fun hHeld => ?_);refine with_tabW specclo3_tab specclo3_bits (fun HT_ HW_ => ?_)
 generalize w3.drew = w4 at HR hHeld ⊢
 refine take_ (i:=0) (N:=some 11) (v:=?_) (a':=?_) #[true,false,false,false,false,false] rfl rfl (take_ofW HT_.out HW_.out (by kernel_rfl)) (fun _ _ _ h => h) (Or.inl ⟨by rfl,?_⟩) hHeld ?_ ?_
 rotate_left
 ·rintro w' ⟨s0,s1,s2,s3⟩
  go_simp
  with_reducible rfl
 rotate_left
 ·simp only [Act.put,List.setIfInBounds_toArray,List.set_cons_zero,List.set_cons_succ,i64_w,i32_w]
  rfl
 refine pure_ (i:=2) (N:=some 13) (v:=?_) (a':=?_) #[true,false,true,false,false,false] rfl rfl (any_of HT_.out (by kernel_rfl)) (fun _ _ _ h => h) (Or.inl ⟨by rfl,?_⟩) ?_ ?_
 rotate_left
 ·intro w'
  go_simp
  with_reducible rfl
 rotate_left
 ·simp only [Act.put,List.setIfInBounds_toArray,List.set_cons_zero,List.set_cons_succ,i64_w,i32_w]
  rfl
 refine join_ (σ:=Nat) 1 #[true,true,true,true,true,false] (fun go => [(12,.agg #[.int .i64 2,.string (⟨#[116,114,117,101]⟩ : ByteArray),.int .i64 0,.slice none 0 0]),(14,.agg #[.int .i64 a0,.string a1,.int .i64 a2,.slice (some ad) 2 c,.int .i64 2,.string (⟨#[116,114,117,101]⟩ : ByteArray),.int .i64 0,.slice none 0 0,.string file]),(6,.pointer (some ⟨go,0,none⟩))]) (fun go w' => Run w w (fun _ => False) [As.box go 48 #[.int .i64 0,.string (⟨#[]⟩ : ByteArray),.int .i64 0,.slice none 0 0,.int .i64 0,.string (⟨#[]⟩ : ByteArray),.int .i64 0,.slice none 0 0,.string (⟨#[]⟩ : ByteArray)],As.box gr 48 #[.int .i64 0,.string (⟨#[]⟩ : ByteArray),.int .i64 0,.slice none 0 0,.int .i64 0,.string (⟨#[]⟩ : ByteArray),.int .i64 0,.slice none 0 0,.string (⟨#[]⟩ : ByteArray)],As.box ga 29 #[.int .i64 a0,.string a1,.int .i64 a2,.slice (some ad) 2 c]] w') ?_ ?_
 rotate_left
 ·intro hCont
  refine two_ (i:=1) (j:=4) (Ni:=some 12) (Nj:=some 6) #[true,true,true,false,false,false] #[true,false,true,false,true,false] rfl rfl rfl rfl (two_of HT_.out (by kernel_rfl)) (by decide) (by decide) (fun K hK => ?_) (fun K hK => ?_)
  ·skip
   refine goes_ Tryd.func89 (by kernel_rfl) rfl #[.string (⟨#[116,114,117,101]⟩ : ByteArray)] (by rfl) rfl rfl (by (try simp only [List.map_toArray,List.map_cons,List.map_nil]);first|done|rfl) ?_
   refine (satom_calls (⟨#[116,114,117,101]⟩ : ByteArray) w4).mono ?_
   rintro e w5 ⟨rfl,hb⟩
   refine ⟨_,rfl,?_⟩
   have q_:=Aside0.mk (HR.out.step hb)
   clear HR
   have HR:=q_
   clear q_
   clear hb
   refine hK.out _ _ ⟨HR.out.cell 1 rfl 0 rfl,HR.out.cell 1 rfl 1 rfl,HR.out.cell 1 rfl 2 rfl,HR.out.cell 1 rfl 3 rfl⟩ (fun hHeld => ?_)
   clear hK K
   refine norm_ (a':=?_) ?_ ?_
   rotate_left
   ·show Act.put _ (some 12) _ = _
    simp only [Act.put,List.setIfInBounds_toArray,List.set_cons_zero,List.set_cons_succ,i64_w,i32_w]
    rfl
   refine pure_ (i:=3) (N:=some 14) (v:=?_) (a':=?_) #[true,true,true,true,false,false] rfl rfl (any_of HT_.out (by kernel_rfl)) (fun _ _ _ h => h) (Or.inl ⟨by rfl,?_⟩) ?_ ?_
   rotate_left
   ·intro w'
    go_simp
    with_reducible rfl
   rotate_left
   ·simp only [Act.put,List.setIfInBounds_toArray,List.set_cons_zero,List.set_cons_succ,i64_w,i32_w]
    rfl
   refine one_ (i:=4) (N:=some 6) #[true,true,true,true,true,false] rfl rfl (one_of HT_.out (by kernel_rfl)) (by decide) (fun K hK => ?_)
   refine box_step (by rfl) (N:=6) rfl (cs:=#[.int .i64 0,.string (⟨#[]⟩ : ByteArray),.int .i64 0,.slice none 0 0,.int .i64 0,.string (⟨#[]⟩ : ByteArray),.int .i64 0,.slice none 0 0,.string (⟨#[]⟩ : ByteArray)]) (t:=48) ?hra ?_
   (case hra => first|(go_simp;done)|(go_simp;rfl))
   intro go hg w6 hbox hb
   have q_:=Aside0.mk (HR.out.box hg hb hbox)
   clear HR
   have HR:=q_
   clear q_
   clear hg hbox hb
   refine hK.out _ _ ⟨HR.out.cell 2 rfl 0 rfl,HR.out.cell 2 rfl 1 rfl,HR.out.cell 2 rfl 2 rfl,HR.out.cell 2 rfl 3 rfl⟩ (fun hHeld => ?_)
   clear hK K
   refine norm_ (a':=?_) ?_ ?_
   rotate_left
   ·show Act.put _ (some 6) _ = _
    simp only [Act.put,List.setIfInBounds_toArray,List.set_cons_zero,List.set_cons_succ,i64_w,i32_w]
    rfl
   exact norm_ (by simp only [putAll,Act.put,List.setIfInBounds_toArray,List.set_cons_zero,List.set_cons_succ]) (hCont go _ HR.out)
  ·skip
   refine box_step (by rfl) (N:=6) rfl (cs:=#[.int .i64 0,.string (⟨#[]⟩ : ByteArray),.int .i64 0,.slice none 0 0,.int .i64 0,.string (⟨#[]⟩ : ByteArray),.int .i64 0,.slice none 0 0,.string (⟨#[]⟩ : ByteArray)]) (t:=48) ?hra ?_
   (case hra => first|(go_simp;done)|(go_simp;rfl))
   intro go hg w5 hbox hb
   have q_:=Aside0.mk (HR.out.box hg hb hbox)
   clear HR
   have HR:=q_
   clear q_
   clear hg hbox hb
   refine hK.out _ _ ⟨HR.out.cell 2 rfl 0 rfl,HR.out.cell 2 rfl 1 rfl,HR.out.cell 2 rfl 2 rfl,HR.out.cell 2 rfl 3 rfl⟩ (fun hHeld => ?_)
   clear hK K
   refine norm_ (a':=?_) ?_ ?_
   rotate_left
   ·show Act.put _ (some 6) _ = _
    simp only [Act.put,List.setIfInBounds_toArray,List.set_cons_zero,List.set_cons_succ,i64_w,i32_w]
    rfl
   refine one_ (i:=1) (N:=some 12) #[true,true,true,false,true,false] rfl rfl (one_of HT_.out (by kernel_rfl)) (by decide) (fun K hK => ?_)
   refine goes_ Tryd.func89 (by kernel_rfl) rfl #[.string (⟨#[116,114,117,101]⟩ : ByteArray)] (by rfl) rfl rfl (by (try simp only [List.map_toArray,List.map_cons,List.map_nil]);first|done|rfl) ?_
   refine (satom_calls (⟨#[116,114,117,101]⟩ : ByteArray) w5).mono ?_
   rintro e w6 ⟨rfl,hb⟩
   refine ⟨_,rfl,?_⟩
   have q_:=Aside0.mk (HR.out.step hb)
   clear HR
   have HR:=q_
   clear q_
   clear hb
   refine hK.out _ _ ⟨HR.out.cell 2 rfl 0 rfl,HR.out.cell 2 rfl 1 rfl,HR.out.cell 2 rfl 2 rfl,HR.out.cell 2 rfl 3 rfl⟩ (fun hHeld => ?_)
   clear hK K
   refine norm_ (a':=?_) ?_ ?_
   rotate_left
   ·show Act.put _ (some 12) _ = _
    simp only [Act.put,List.setIfInBounds_toArray,List.set_cons_zero,List.set_cons_succ,i64_w,i32_w]
    rfl
   refine pure_ (i:=3) (N:=some 14) (v:=?_) (a':=?_) #[true,true,true,true,true,false] rfl rfl (any_of HT_.out (by kernel_rfl)) (fun _ _ _ h => h) (Or.inl ⟨by rfl,?_⟩) ?_ ?_
   rotate_left
   ·intro w'
    go_simp
    with_reducible rfl
   rotate_left
   ·simp only [Act.put,List.setIfInBounds_toArray,List.set_cons_zero,List.set_cons_succ,i64_w,i32_w]
    rfl
   exact norm_ (by simp only [putAll,Act.put,List.setIfInBounds_toArray,List.set_cons_zero,List.set_cons_succ]) (hCont go _ HR.out)
 rintro go w7 hR_
 clear HR
 have HR:=Aside0.mk (show Run w w (fun _ => False) [As.box go 48 #[.int .i64 0,.string (⟨#[]⟩ : ByteArray),.int .i64 0,.slice none 0 0,.int .i64 0,.string (⟨#[]⟩ : ByteArray),.int .i64 0,.slice none 0 0,.string (⟨#[]⟩ : ByteArray)],As.box gr 48 #[.int .i64 0,.string (⟨#[]⟩ : ByteArray),.int .i64 0,.slice none 0 0,.int .i64 0,.string (⟨#[]⟩ : ByteArray),.int .i64 0,.slice none 0 0,.string (⟨#[]⟩ : ByteArray)],As.box ga 29 #[.int .i64 a0,.string a1,.int .i64 a2,.slice (some ad) 2 c]] w7 from hR_)
 clear hR_
 refine norm_ (a':=?_) ?_ ?_
 rotate_left
 ·simp only [putAll,Act.put,List.setIfInBounds_toArray,List.set_cons_zero,List.set_cons_succ]
  rfl
 refine last_ (i:=5) (N:=none) #[true,true,true,true,true,true] rfl rfl (one_of HT_.out (by kernel_rfl)) (by decide) (fun K hK => ?_)
 have hz0_ : w7.cell? ⟨go,0,none⟩ = some (.int .i64 0):=HR.out.cell 0 rfl 0 rfl
 have fz0_:=HR.out.free 0 rfl 0
 have hz1_ : w7.cell? ⟨go,1,none⟩ = some (.string (⟨#[]⟩ : ByteArray)):=HR.out.cell 0 rfl 1 rfl
 have fz1_:=HR.out.free 0 rfl 1
 have hz2_ : w7.cell? ⟨go,2,none⟩ = some (.int .i64 0):=HR.out.cell 0 rfl 2 rfl
 have fz2_:=HR.out.free 0 rfl 2
 have hz3_ : w7.cell? ⟨go,3,none⟩ = some (.slice none 0 0):=HR.out.cell 0 rfl 3 rfl
 have fz3_:=HR.out.free 0 rfl 3
 have hz4_ : w7.cell? ⟨go,4,none⟩ = some (.int .i64 0):=HR.out.cell 0 rfl 4 rfl
 have fz4_:=HR.out.free 0 rfl 4
 have hz5_ : w7.cell? ⟨go,5,none⟩ = some (.string (⟨#[]⟩ : ByteArray)):=HR.out.cell 0 rfl 5 rfl
 have fz5_:=HR.out.free 0 rfl 5
 have hz6_ : w7.cell? ⟨go,6,none⟩ = some (.int .i64 0):=HR.out.cell 0 rfl 6 rfl
 have fz6_:=HR.out.free 0 rfl 6
 have hz7_ : w7.cell? ⟨go,7,none⟩ = some (.slice none 0 0):=HR.out.cell 0 rfl 7 rfl
 have fz7_:=HR.out.free 0 rfl 7
 have hz8_ : w7.cell? ⟨go,8,none⟩ = some (.string (⟨#[]⟩ : ByteArray)):=HR.out.cell 0 rfl 8 rfl
 have fz8_:=HR.out.free 0 rfl 8
 refine skip_ (w1:=w7.setCells go 0 [.int .i64 a0,.string a1,.int .i64 a2,.slice (some ad) 2 c,.int .i64 2,.string (⟨#[116,114,117,101]⟩ : ByteArray),.int .i64 0,.slice none 0 0,.string file]) (by rfl) rfl ?_ ?_
 ·first|(go_simp;done)|(go_simp;rfl)
 refine hK.out _ _ ?_
 clear hK K hz0_ fz0_ hz1_ fz1_ hz2_ fz2_ hz3_ fz3_ hz4_ fz4_ hz5_ fz5_ hz6_ fz6_ hz7_ fz7_ hz8_ fz8_
 have q_:=Aside0.mk (HR.out.store 0 rfl [.int .i64 a0,.string a1,.int .i64 a2,.slice (some ad) 2 c,.int .i64 2,.string (⟨#[116,114,117,101]⟩ : ByteArray),.int .i64 0,.slice none 0 0,.string file] rfl)
 clear HR
 have HR:=q_
 clear q_
 generalize w7.setCells go 0 [.int .i64 a0,.string a1,.int .i64 a2,.slice (some ad) 2 c,.int .i64 2,.string (⟨#[116,114,117,101]⟩ : ByteArray),.int .i64 0,.slice none 0 0,.string file] = w8 at HR ⊢
 refine done_ (done_of HT_.out (by kernel_rfl)) ?_
 have hc4_ga_0 : w8.cell? ⟨ga,0,none⟩ = some (.int .i64 a0):=HR.out.cell 2 rfl 0 rfl
 have hc4_ga_1 : w8.cell? ⟨ga,1,none⟩ = some (.string a1):=HR.out.cell 2 rfl 1 rfl
 have hc4_ga_2 : w8.cell? ⟨ga,2,none⟩ = some (.int .i64 a2):=HR.out.cell 2 rfl 2 rfl
 have hc4_ga_3 : w8.cell? ⟨ga,3,none⟩ = some (.slice (some ad) 2 c):=HR.out.cell 2 rfl 3 rfl
 rcases Bool.eq_false_or_eq_true bh with rfl|rfl
 ·rcases Bool.eq_false_or_eq_true bb with rfl|rfl
  ·skip
   go_wp2_with (first
    | (go_at_call 90; with_reducible refine (H2.out w8 HR.out.bel).mono ?_; rintro e w9 ⟨rfl, hb⟩; have q_ := Aside0.mk (HR.out.step hb); clear HR; have HR := q_; clear q_; clear hb; clear hc4_ga_0 hc4_ga_1 hc4_ga_2 hc4_ga_3; have hc5_ga_0 : w9.cell? ⟨ga, 0, none⟩ = some (.int .i64 a0) := HR.out.cell 2 rfl 0 rfl; have hc5_ga_1 : w9.cell? ⟨ga, 1, none⟩ = some (.string a1) := HR.out.cell 2 rfl 1 rfl; have hc5_ga_2 : w9.cell? ⟨ga, 2, none⟩ = some (.int .i64 a2) := HR.out.cell 2 rfl 2 rfl; have hc5_ga_3 : w9.cell? ⟨ga, 3, none⟩ = some (.slice (some ad) 2 c) := HR.out.cell 2 rfl 3 rfl; have hc5_go_0 : w9.cell? ⟨go, 0, none⟩ = some (.int .i64 a0) := HR.out.cell 0 rfl 0 rfl; have hc5_go_1 : w9.cell? ⟨go, 1, none⟩ = some (.string a1) := HR.out.cell 0 rfl 1 rfl; have hc5_go_2 : w9.cell? ⟨go, 2, none⟩ = some (.int .i64 a2) := HR.out.cell 0 rfl 2 rfl; have hc5_go_3 : w9.cell? ⟨go, 3, none⟩ = some (.slice (some ad) 2 c) := HR.out.cell 0 rfl 3 rfl; have hc5_go_4 : w9.cell? ⟨go, 4, none⟩ = some (.int .i64 2) := HR.out.cell 0 rfl 4 rfl; have hc5_go_5 : w9.cell? ⟨go, 5, none⟩ = some (.string (⟨#[116, 114, 117, 101]⟩ : ByteArray)) := HR.out.cell 0 rfl 5 rfl; have hc5_go_6 : w9.cell? ⟨go, 6, none⟩ = some (.int .i64 0) := HR.out.cell 0 rfl 6 rfl; have hc5_go_7 : w9.cell? ⟨go, 7, none⟩ = some (.slice none 0 0) := HR.out.cell 0 rfl 7 rfl; have hc5_go_8 : w9.cell? ⟨go, 8, none⟩ = some (.string file) := HR.out.cell 0 rfl 8 rfl; have fc5_go_0 := HR.out.free 0 rfl 0; have fc5_go_1 := HR.out.free 0 rfl 1; have fc5_go_2 := HR.out.free 0 rfl 2; have fc5_go_3 := HR.out.free 0 rfl 3; have fc5_go_4 := HR.out.free 0 rfl 4; have fc5_go_5 := HR.out.free 0 rfl 5; have fc5_go_6 := HR.out.free 0 rfl 6; have fc5_go_7 := HR.out.free 0 rfl 7; have fc5_go_8 := HR.out.free 0 rfl 8; have hx0 := (HR.out.bel.cell (World.block_lt_of_cell? w _ HX0.out)).trans HX0.out; have hx1 := (HR.out.bel.cell (World.block_lt_of_cell? w _ HX1.out)).trans HX1.out; have hx2 := (HR.out.bel.cell (World.block_lt_of_cell? w _ HX2.out)).trans HX2.out; have hx3 := (HR.out.bel.cell (World.block_lt_of_cell? w _ HX3.out)).trans HX3.out)
    | ((with_reducible refine gate_store (t := 29) (p := 21) rfl ?_); refine store_event (t := 29) (p := 21) (v := ?vo_5) (w1 := w9.setCells go 0 [.int .i64 x.f0, .string x.f1, .int .i64 x.f2, .slice A3 x.f3.length c3]) ?hgs_5 ?hos_5 ?hns_5 ?hrs_5 ?_; (case hos_5 => rfl); (case hgs_5 => rfl); (case hns_5 => rfl); (case hrs_5 => first | (go_simp; done) | (go_simp; rfl)); intro w10 hw; have q_ := Aside0.mk (HR.out.seg 0 rfl 0 [.int .i64 x.f0, .string x.f1, .int .i64 x.f2, .slice A3 x.f3.length c3] (Nat.le_of_ble_eq_true rfl)); rw [← hw] at q_; clear HR; have HR := q_; clear q_; clear hw; clear hc5_ga_0 hc5_ga_1 hc5_ga_2 hc5_ga_3 hc5_go_0 hc5_go_1 hc5_go_2 hc5_go_3 hc5_go_4 hc5_go_5 hc5_go_6 hc5_go_7 hc5_go_8 fc5_go_0 fc5_go_1 fc5_go_2 fc5_go_3 fc5_go_4 fc5_go_5 fc5_go_6 fc5_go_7 fc5_go_8; have hc6_ga_0 : w10.cell? ⟨ga, 0, none⟩ = some (.int .i64 a0) := HR.out.cell 2 rfl 0 rfl; have hc6_ga_1 : w10.cell? ⟨ga, 1, none⟩ = some (.string a1) := HR.out.cell 2 rfl 1 rfl; have hc6_ga_2 : w10.cell? ⟨ga, 2, none⟩ = some (.int .i64 a2) := HR.out.cell 2 rfl 2 rfl; have hc6_ga_3 : w10.cell? ⟨ga, 3, none⟩ = some (.slice (some ad) 2 c) := HR.out.cell 2 rfl 3 rfl; have hc6_go_0 : w10.cell? ⟨go, 0, none⟩ = some (.int .i64 x.f0) := HR.out.cell 0 rfl 0 rfl; have hc6_go_1 : w10.cell? ⟨go, 1, none⟩ = some (.string x.f1) := HR.out.cell 0 rfl 1 rfl; have hc6_go_2 : w10.cell? ⟨go, 2, none⟩ = some (.int .i64 x.f2) := HR.out.cell 0 rfl 2 rfl; have hc6_go_3 : w10.cell? ⟨go, 3, none⟩ = some (.slice A3 x.f3.length c3) := HR.out.cell 0 rfl 3 rfl; have hc6_go_4 : w10.cell? ⟨go, 4, none⟩ = some (.int .i64 2) := HR.out.cell 0 rfl 4 rfl; have hc6_go_5 : w10.cell? ⟨go, 5, none⟩ = some (.string (⟨#[116, 114, 117, 101]⟩ : ByteArray)) := HR.out.cell 0 rfl 5 rfl; have hc6_go_6 : w10.cell? ⟨go, 6, none⟩ = some (.int .i64 0) := HR.out.cell 0 rfl 6 rfl; have hc6_go_7 : w10.cell? ⟨go, 7, none⟩ = some (.slice none 0 0) := HR.out.cell 0 rfl 7 rfl; have hc6_go_8 : w10.cell? ⟨go, 8, none⟩ = some (.string file) := HR.out.cell 0 rfl 8 rfl; have fc6_go_0 := HR.out.free 0 rfl 0; have fc6_go_1 := HR.out.free 0 rfl 1; have fc6_go_2 := HR.out.free 0 rfl 2; have fc6_go_3 := HR.out.free 0 rfl 3; have fc6_go_4 := HR.out.free 0 rfl 4; have fc6_go_5 := HR.out.free 0 rfl 5; have fc6_go_6 := HR.out.free 0 rfl 6; have fc6_go_7 := HR.out.free 0 rfl 7; have fc6_go_8 := HR.out.free 0 rfl 8; clear hx0 hx1 hx2 hx3; have hy0 := (HR.out.bel.cell (World.block_lt_of_cell? w _ HY0.out)).trans HY0.out; have hy1 := (HR.out.bel.cell (World.block_lt_of_cell? w _ HY1.out)).trans HY1.out; have hy2 := (HR.out.bel.cell (World.block_lt_of_cell? w _ HY2.out)).trans HY2.out; have hy3 := (HR.out.bel.cell (World.block_lt_of_cell? w _ HY3.out)).trans HY3.out)
    | ((with_reducible refine gate_store (t := 29) (p := 26) rfl ?_); refine store_event (t := 29) (p := 26) (v := ?vo_6) (w1 := w10.setCells go 4 [.int .i64 y.f0, .string y.f1, .int .i64 y.f2, .slice A7 y.f3.length c7]) ?hgs_6 ?hos_6 ?hns_6 ?hrs_6 ?_; (case hos_6 => rfl); (case hgs_6 => rfl); (case hns_6 => rfl); (case hrs_6 => first | (go_simp; done) | (go_simp; rfl)); intro w11 hw; have q_ := Aside0.mk (HR.out.seg 0 rfl 4 [.int .i64 y.f0, .string y.f1, .int .i64 y.f2, .slice A7 y.f3.length c7] (Nat.le_of_ble_eq_true rfl)); rw [← hw] at q_; clear HR; have HR := q_; clear q_; clear hw; clear hc6_ga_0 hc6_ga_1 hc6_ga_2 hc6_ga_3 hc6_go_0 hc6_go_1 hc6_go_2 hc6_go_3 hc6_go_4 hc6_go_5 hc6_go_6 hc6_go_7 hc6_go_8 fc6_go_0 fc6_go_1 fc6_go_2 fc6_go_3 fc6_go_4 fc6_go_5 fc6_go_6 fc6_go_7 fc6_go_8; have hc7_go_0 : w11.cell? ⟨go, 0, none⟩ = some (.int .i64 x.f0) := HR.out.cell 0 rfl 0 rfl; have hc7_go_1 : w11.cell? ⟨go, 1, none⟩ = some (.string x.f1) := HR.out.cell 0 rfl 1 rfl; have hc7_go_2 : w11.cell? ⟨go, 2, none⟩ = some (.int .i64 x.f2) := HR.out.cell 0 rfl 2 rfl; have hc7_go_3 : w11.cell? ⟨go, 3, none⟩ = some (.slice A3 x.f3.length c3) := HR.out.cell 0 rfl 3 rfl; have hc7_go_4 : w11.cell? ⟨go, 4, none⟩ = some (.int .i64 y.f0) := HR.out.cell 0 rfl 4 rfl; have hc7_go_5 : w11.cell? ⟨go, 5, none⟩ = some (.string y.f1) := HR.out.cell 0 rfl 5 rfl; have hc7_go_6 : w11.cell? ⟨go, 6, none⟩ = some (.int .i64 y.f2) := HR.out.cell 0 rfl 6 rfl; have hc7_go_7 : w11.cell? ⟨go, 7, none⟩ = some (.slice A7 y.f3.length c7) := HR.out.cell 0 rfl 7 rfl; have hc7_go_8 : w11.cell? ⟨go, 8, none⟩ = some (.string file) := HR.out.cell 0 rfl 8 rfl; clear hy0 hy1 hy2 hy3)
    | (go_at_call 87; with_reducible refine (H3.out w11 A3 c3 HR.out.bel (Kd.C_below HI3.out HR.out.bel) HL3.out).mono ?_; rintro e w12 ⟨rfl, hb⟩; have q_ := Aside0.mk (HR.out.step hb); clear HR; have HR := q_; clear q_; clear hb; clear hc7_go_0 hc7_go_1 hc7_go_2 hc7_go_3 hc7_go_4 hc7_go_5 hc7_go_6 hc7_go_7 hc7_go_8; have hc8_go_0 : w12.cell? ⟨go, 0, none⟩ = some (.int .i64 x.f0) := HR.out.cell 0 rfl 0 rfl; have hc8_go_1 : w12.cell? ⟨go, 1, none⟩ = some (.string x.f1) := HR.out.cell 0 rfl 1 rfl; have hc8_go_2 : w12.cell? ⟨go, 2, none⟩ = some (.int .i64 x.f2) := HR.out.cell 0 rfl 2 rfl; have hc8_go_3 : w12.cell? ⟨go, 3, none⟩ = some (.slice A3 x.f3.length c3) := HR.out.cell 0 rfl 3 rfl; have hc8_go_4 : w12.cell? ⟨go, 4, none⟩ = some (.int .i64 y.f0) := HR.out.cell 0 rfl 4 rfl; have hc8_go_5 : w12.cell? ⟨go, 5, none⟩ = some (.string y.f1) := HR.out.cell 0 rfl 5 rfl; have hc8_go_6 : w12.cell? ⟨go, 6, none⟩ = some (.int .i64 y.f2) := HR.out.cell 0 rfl 6 rfl; have hc8_go_7 : w12.cell? ⟨go, 7, none⟩ = some (.slice A7 y.f3.length c7) := HR.out.cell 0 rfl 7 rfl; have hc8_go_8 : w12.cell? ⟨go, 8, none⟩ = some (.string file) := HR.out.cell 0 rfl 8 rfl)
    | (go_at_call 86; with_reducible refine (H4.out w12 A7 c7 (Kd.C_below HI7.out HR.out.bel) HL7.out).mono ?_; rintro e w13 ⟨rfl, hb⟩; have q_ := Aside0.mk (HR.out.step hb); clear HR; have HR := q_; clear q_; clear hb; clear hc8_go_0 hc8_go_1 hc8_go_2 hc8_go_3 hc8_go_4 hc8_go_5 hc8_go_6 hc8_go_7 hc8_go_8; have hc9_go_0 : w13.cell? ⟨go, 0, none⟩ = some (.int .i64 x.f0) := HR.out.cell 0 rfl 0 rfl; have hc9_go_1 : w13.cell? ⟨go, 1, none⟩ = some (.string x.f1) := HR.out.cell 0 rfl 1 rfl; have hc9_go_2 : w13.cell? ⟨go, 2, none⟩ = some (.int .i64 x.f2) := HR.out.cell 0 rfl 2 rfl; have hc9_go_3 : w13.cell? ⟨go, 3, none⟩ = some (.slice A3 x.f3.length c3) := HR.out.cell 0 rfl 3 rfl; have hc9_go_4 : w13.cell? ⟨go, 4, none⟩ = some (.int .i64 y.f0) := HR.out.cell 0 rfl 4 rfl; have hc9_go_5 : w13.cell? ⟨go, 5, none⟩ = some (.string y.f1) := HR.out.cell 0 rfl 5 rfl; have hc9_go_6 : w13.cell? ⟨go, 6, none⟩ = some (.int .i64 y.f2) := HR.out.cell 0 rfl 6 rfl; have hc9_go_7 : w13.cell? ⟨go, 7, none⟩ = some (.slice A7 y.f3.length c7) := HR.out.cell 0 rfl 7 rfl; have hc9_go_8 : w13.cell? ⟨go, 8, none⟩ = some (.string file) := HR.out.cell 0 rfl 8 rfl; have hc9_gr_0 : w13.cell? ⟨gr, 0, none⟩ = some (.int .i64 0) := HR.out.cell 1 rfl 0 rfl; have hc9_gr_1 : w13.cell? ⟨gr, 1, none⟩ = some (.string (⟨#[]⟩ : ByteArray)) := HR.out.cell 1 rfl 1 rfl; have hc9_gr_2 : w13.cell? ⟨gr, 2, none⟩ = some (.int .i64 0) := HR.out.cell 1 rfl 2 rfl; have hc9_gr_3 : w13.cell? ⟨gr, 3, none⟩ = some (.slice none 0 0) := HR.out.cell 1 rfl 3 rfl; have hc9_gr_4 : w13.cell? ⟨gr, 4, none⟩ = some (.int .i64 0) := HR.out.cell 1 rfl 4 rfl; have hc9_gr_5 : w13.cell? ⟨gr, 5, none⟩ = some (.string (⟨#[]⟩ : ByteArray)) := HR.out.cell 1 rfl 5 rfl; have hc9_gr_6 : w13.cell? ⟨gr, 6, none⟩ = some (.int .i64 0) := HR.out.cell 1 rfl 6 rfl; have hc9_gr_7 : w13.cell? ⟨gr, 7, none⟩ = some (.slice none 0 0) := HR.out.cell 1 rfl 7 rfl; have hc9_gr_8 : w13.cell? ⟨gr, 8, none⟩ = some (.string (⟨#[]⟩ : ByteArray)) := HR.out.cell 1 rfl 8 rfl; have fc9_gr_0 := HR.out.free 1 rfl 0; have fc9_gr_1 := HR.out.free 1 rfl 1; have fc9_gr_2 := HR.out.free 1 rfl 2; have fc9_gr_3 := HR.out.free 1 rfl 3; have fc9_gr_4 := HR.out.free 1 rfl 4; have fc9_gr_5 := HR.out.free 1 rfl 5; have fc9_gr_6 := HR.out.free 1 rfl 6; have fc9_gr_7 := HR.out.free 1 rfl 7; have fc9_gr_8 := HR.out.free 1 rfl 8)
    | ((with_reducible refine gate_store (t := 48) (p := 4) rfl ?_); refine store_event (t := 48) (p := 4) (v := ?vo_7) (w1 := w13.setCells gr 0 [.int .i64 x.f0, .string x.f1, .int .i64 x.f2, .slice A3 x.f3.length c3, .int .i64 y.f0, .string y.f1, .int .i64 y.f2, .slice A7 y.f3.length c7, .string file]) ?hgs_7 ?hos_7 ?hns_7 ?hrs_7 ?_; (case hos_7 => rfl); (case hgs_7 => rfl); (case hns_7 => rfl); (case hrs_7 => first | (go_simp; done) | (go_simp; rfl)); intro w14 hw; have q_ := Aside0.mk (hw ▸ HR.out.store 1 rfl [.int .i64 x.f0, .string x.f1, .int .i64 x.f2, .slice A3 x.f3.length c3, .int .i64 y.f0, .string y.f1, .int .i64 y.f2, .slice A7 y.f3.length c7, .string file] rfl); clear HR; have HR := q_; clear q_; clear hw; clear hc9_go_0 hc9_go_1 hc9_go_2 hc9_go_3 hc9_go_4 hc9_go_5 hc9_go_6 hc9_go_7 hc9_go_8 hc9_gr_0 hc9_gr_1 hc9_gr_2 hc9_gr_3 hc9_gr_4 hc9_gr_5 hc9_gr_6 hc9_gr_7 hc9_gr_8 fc9_gr_0 fc9_gr_1 fc9_gr_2 fc9_gr_3 fc9_gr_4 fc9_gr_5 fc9_gr_6 fc9_gr_7 fc9_gr_8))
   refine bodyPost_ret (results_ct rfl _ _ gr 48 #[.int .i64 x.f0,.string x.f1,.int .i64 x.f2,.slice A3 x.f3.length c3,.int .i64 y.f0,.string y.f1,.int .i64 y.f2,.slice A7 y.f3.length c7,.string file] (0,0) _ rfl (HR.out.has 1 rfl).2 Tryd.underlying48 rfl (by kernel_rfl)) rfl ?_
   exact (show MadeCR (⟨x,y,file⟩ : S48) true w _ _ from ⟨A3,c3,A7,c7,rfl,⟨HL3.out,(Kd.C_below HI3.out HR.out.bel),HL7.out,(Kd.C_below HI7.out HR.out.bel)⟩,HR.out.bel⟩)
  ·skip
   go_wp2_with (first
    | (go_at_call 90; with_reducible refine (H2.out w8 HR.out.bel).mono ?_; rintro e w9 ⟨rfl, hb⟩; have q_ := Aside0.mk (HR.out.step hb); clear HR; have HR := q_; clear q_; clear hb; clear hc4_ga_0 hc4_ga_1 hc4_ga_2 hc4_ga_3; have hc5_ga_0 : w9.cell? ⟨ga, 0, none⟩ = some (.int .i64 a0) := HR.out.cell 2 rfl 0 rfl; have hc5_ga_1 : w9.cell? ⟨ga, 1, none⟩ = some (.string a1) := HR.out.cell 2 rfl 1 rfl; have hc5_ga_2 : w9.cell? ⟨ga, 2, none⟩ = some (.int .i64 a2) := HR.out.cell 2 rfl 2 rfl; have hc5_ga_3 : w9.cell? ⟨ga, 3, none⟩ = some (.slice (some ad) 2 c) := HR.out.cell 2 rfl 3 rfl; have hc5_go_0 : w9.cell? ⟨go, 0, none⟩ = some (.int .i64 a0) := HR.out.cell 0 rfl 0 rfl; have hc5_go_1 : w9.cell? ⟨go, 1, none⟩ = some (.string a1) := HR.out.cell 0 rfl 1 rfl; have hc5_go_2 : w9.cell? ⟨go, 2, none⟩ = some (.int .i64 a2) := HR.out.cell 0 rfl 2 rfl; have hc5_go_3 : w9.cell? ⟨go, 3, none⟩ = some (.slice (some ad) 2 c) := HR.out.cell 0 rfl 3 rfl; have hc5_go_4 : w9.cell? ⟨go, 4, none⟩ = some (.int .i64 2) := HR.out.cell 0 rfl 4 rfl; have hc5_go_5 : w9.cell? ⟨go, 5, none⟩ = some (.string (⟨#[116, 114, 117, 101]⟩ : ByteArray)) := HR.out.cell 0 rfl 5 rfl; have hc5_go_6 : w9.cell? ⟨go, 6, none⟩ = some (.int .i64 0) := HR.out.cell 0 rfl 6 rfl; have hc5_go_7 : w9.cell? ⟨go, 7, none⟩ = some (.slice none 0 0) := HR.out.cell 0 rfl 7 rfl; have hc5_go_8 : w9.cell? ⟨go, 8, none⟩ = some (.string file) := HR.out.cell 0 rfl 8 rfl; have fc5_go_0 := HR.out.free 0 rfl 0; have fc5_go_1 := HR.out.free 0 rfl 1; have fc5_go_2 := HR.out.free 0 rfl 2; have fc5_go_3 := HR.out.free 0 rfl 3; have fc5_go_4 := HR.out.free 0 rfl 4; have fc5_go_5 := HR.out.free 0 rfl 5; have fc5_go_6 := HR.out.free 0 rfl 6; have fc5_go_7 := HR.out.free 0 rfl 7; have fc5_go_8 := HR.out.free 0 rfl 8; have hx0 := (HR.out.bel.cell (World.block_lt_of_cell? w _ HX0.out)).trans HX0.out; have hx1 := (HR.out.bel.cell (World.block_lt_of_cell? w _ HX1.out)).trans HX1.out; have hx2 := (HR.out.bel.cell (World.block_lt_of_cell? w _ HX2.out)).trans HX2.out; have hx3 := (HR.out.bel.cell (World.block_lt_of_cell? w _ HX3.out)).trans HX3.out)
    | ((with_reducible refine gate_store (t := 29) (p := 21) rfl ?_); refine store_event (t := 29) (p := 21) (v := ?vo_5) (w1 := w9.setCells go 0 [.int .i64 x.f0, .string x.f1, .int .i64 x.f2, .slice A3 x.f3.length c3]) ?hgs_5 ?hos_5 ?hns_5 ?hrs_5 ?_; (case hos_5 => rfl); (case hgs_5 => rfl); (case hns_5 => rfl); (case hrs_5 => first | (go_simp; done) | (go_simp; rfl)); intro w10 hw; have q_ := Aside0.mk (HR.out.seg 0 rfl 0 [.int .i64 x.f0, .string x.f1, .int .i64 x.f2, .slice A3 x.f3.length c3] (Nat.le_of_ble_eq_true rfl)); rw [← hw] at q_; clear HR; have HR := q_; clear q_; clear hw; clear hc5_ga_0 hc5_ga_1 hc5_ga_2 hc5_ga_3 hc5_go_0 hc5_go_1 hc5_go_2 hc5_go_3 hc5_go_4 hc5_go_5 hc5_go_6 hc5_go_7 hc5_go_8 fc5_go_0 fc5_go_1 fc5_go_2 fc5_go_3 fc5_go_4 fc5_go_5 fc5_go_6 fc5_go_7 fc5_go_8; have hc6_ga_0 : w10.cell? ⟨ga, 0, none⟩ = some (.int .i64 a0) := HR.out.cell 2 rfl 0 rfl; have hc6_ga_1 : w10.cell? ⟨ga, 1, none⟩ = some (.string a1) := HR.out.cell 2 rfl 1 rfl; have hc6_ga_2 : w10.cell? ⟨ga, 2, none⟩ = some (.int .i64 a2) := HR.out.cell 2 rfl 2 rfl; have hc6_ga_3 : w10.cell? ⟨ga, 3, none⟩ = some (.slice (some ad) 2 c) := HR.out.cell 2 rfl 3 rfl; have hc6_go_0 : w10.cell? ⟨go, 0, none⟩ = some (.int .i64 x.f0) := HR.out.cell 0 rfl 0 rfl; have hc6_go_1 : w10.cell? ⟨go, 1, none⟩ = some (.string x.f1) := HR.out.cell 0 rfl 1 rfl; have hc6_go_2 : w10.cell? ⟨go, 2, none⟩ = some (.int .i64 x.f2) := HR.out.cell 0 rfl 2 rfl; have hc6_go_3 : w10.cell? ⟨go, 3, none⟩ = some (.slice A3 x.f3.length c3) := HR.out.cell 0 rfl 3 rfl; have hc6_go_4 : w10.cell? ⟨go, 4, none⟩ = some (.int .i64 2) := HR.out.cell 0 rfl 4 rfl; have hc6_go_5 : w10.cell? ⟨go, 5, none⟩ = some (.string (⟨#[116, 114, 117, 101]⟩ : ByteArray)) := HR.out.cell 0 rfl 5 rfl; have hc6_go_6 : w10.cell? ⟨go, 6, none⟩ = some (.int .i64 0) := HR.out.cell 0 rfl 6 rfl; have hc6_go_7 : w10.cell? ⟨go, 7, none⟩ = some (.slice none 0 0) := HR.out.cell 0 rfl 7 rfl; have hc6_go_8 : w10.cell? ⟨go, 8, none⟩ = some (.string file) := HR.out.cell 0 rfl 8 rfl; have fc6_go_0 := HR.out.free 0 rfl 0; have fc6_go_1 := HR.out.free 0 rfl 1; have fc6_go_2 := HR.out.free 0 rfl 2; have fc6_go_3 := HR.out.free 0 rfl 3; have fc6_go_4 := HR.out.free 0 rfl 4; have fc6_go_5 := HR.out.free 0 rfl 5; have fc6_go_6 := HR.out.free 0 rfl 6; have fc6_go_7 := HR.out.free 0 rfl 7; have fc6_go_8 := HR.out.free 0 rfl 8; clear hx0 hx1 hx2 hx3; have hy0 := (HR.out.bel.cell (World.block_lt_of_cell? w _ HY0.out)).trans HY0.out; have hy1 := (HR.out.bel.cell (World.block_lt_of_cell? w _ HY1.out)).trans HY1.out; have hy2 := (HR.out.bel.cell (World.block_lt_of_cell? w _ HY2.out)).trans HY2.out; have hy3 := (HR.out.bel.cell (World.block_lt_of_cell? w _ HY3.out)).trans HY3.out)
    | ((with_reducible refine gate_store (t := 29) (p := 26) rfl ?_); refine store_event (t := 29) (p := 26) (v := ?vo_6) (w1 := w10.setCells go 4 [.int .i64 y.f0, .string y.f1, .int .i64 y.f2, .slice A7 y.f3.length c7]) ?hgs_6 ?hos_6 ?hns_6 ?hrs_6 ?_; (case hos_6 => rfl); (case hgs_6 => rfl); (case hns_6 => rfl); (case hrs_6 => first | (go_simp; done) | (go_simp; rfl)); intro w11 hw; have q_ := Aside0.mk (HR.out.seg 0 rfl 4 [.int .i64 y.f0, .string y.f1, .int .i64 y.f2, .slice A7 y.f3.length c7] (Nat.le_of_ble_eq_true rfl)); rw [← hw] at q_; clear HR; have HR := q_; clear q_; clear hw; clear hc6_ga_0 hc6_ga_1 hc6_ga_2 hc6_ga_3 hc6_go_0 hc6_go_1 hc6_go_2 hc6_go_3 hc6_go_4 hc6_go_5 hc6_go_6 hc6_go_7 hc6_go_8 fc6_go_0 fc6_go_1 fc6_go_2 fc6_go_3 fc6_go_4 fc6_go_5 fc6_go_6 fc6_go_7 fc6_go_8; have hc7_go_0 : w11.cell? ⟨go, 0, none⟩ = some (.int .i64 x.f0) := HR.out.cell 0 rfl 0 rfl; have hc7_go_1 : w11.cell? ⟨go, 1, none⟩ = some (.string x.f1) := HR.out.cell 0 rfl 1 rfl; have hc7_go_2 : w11.cell? ⟨go, 2, none⟩ = some (.int .i64 x.f2) := HR.out.cell 0 rfl 2 rfl; have hc7_go_3 : w11.cell? ⟨go, 3, none⟩ = some (.slice A3 x.f3.length c3) := HR.out.cell 0 rfl 3 rfl; have hc7_go_4 : w11.cell? ⟨go, 4, none⟩ = some (.int .i64 y.f0) := HR.out.cell 0 rfl 4 rfl; have hc7_go_5 : w11.cell? ⟨go, 5, none⟩ = some (.string y.f1) := HR.out.cell 0 rfl 5 rfl; have hc7_go_6 : w11.cell? ⟨go, 6, none⟩ = some (.int .i64 y.f2) := HR.out.cell 0 rfl 6 rfl; have hc7_go_7 : w11.cell? ⟨go, 7, none⟩ = some (.slice A7 y.f3.length c7) := HR.out.cell 0 rfl 7 rfl; have hc7_go_8 : w11.cell? ⟨go, 8, none⟩ = some (.string file) := HR.out.cell 0 rfl 8 rfl; clear hy0 hy1 hy2 hy3)
    | (go_at_call 87; with_reducible refine (H3.out w11 A3 c3 HR.out.bel (Kd.C_below HI3.out HR.out.bel) HL3.out).mono ?_; rintro e w12 ⟨rfl, hb⟩; have q_ := Aside0.mk (HR.out.step hb); clear HR; have HR := q_; clear q_; clear hb; clear hc7_go_0 hc7_go_1 hc7_go_2 hc7_go_3 hc7_go_4 hc7_go_5 hc7_go_6 hc7_go_7 hc7_go_8; have hc8_go_0 : w12.cell? ⟨go, 0, none⟩ = some (.int .i64 x.f0) := HR.out.cell 0 rfl 0 rfl; have hc8_go_1 : w12.cell? ⟨go, 1, none⟩ = some (.string x.f1) := HR.out.cell 0 rfl 1 rfl; have hc8_go_2 : w12.cell? ⟨go, 2, none⟩ = some (.int .i64 x.f2) := HR.out.cell 0 rfl 2 rfl; have hc8_go_3 : w12.cell? ⟨go, 3, none⟩ = some (.slice A3 x.f3.length c3) := HR.out.cell 0 rfl 3 rfl; have hc8_go_4 : w12.cell? ⟨go, 4, none⟩ = some (.int .i64 y.f0) := HR.out.cell 0 rfl 4 rfl; have hc8_go_5 : w12.cell? ⟨go, 5, none⟩ = some (.string y.f1) := HR.out.cell 0 rfl 5 rfl; have hc8_go_6 : w12.cell? ⟨go, 6, none⟩ = some (.int .i64 y.f2) := HR.out.cell 0 rfl 6 rfl; have hc8_go_7 : w12.cell? ⟨go, 7, none⟩ = some (.slice A7 y.f3.length c7) := HR.out.cell 0 rfl 7 rfl; have hc8_go_8 : w12.cell? ⟨go, 8, none⟩ = some (.string file) := HR.out.cell 0 rfl 8 rfl)
    | (go_at_call 86; with_reducible refine (H4.out w12 A7 c7 (Kd.C_below HI7.out HR.out.bel) HL7.out).mono ?_; rintro e w13 ⟨rfl, hb⟩; have q_ := Aside0.mk (HR.out.step hb); clear HR; have HR := q_; clear q_; clear hb; clear hc8_go_0 hc8_go_1 hc8_go_2 hc8_go_3 hc8_go_4 hc8_go_5 hc8_go_6 hc8_go_7 hc8_go_8; have hc9_gr_0 : w13.cell? ⟨gr, 0, none⟩ = some (.int .i64 0) := HR.out.cell 1 rfl 0 rfl; have hc9_gr_1 : w13.cell? ⟨gr, 1, none⟩ = some (.string (⟨#[]⟩ : ByteArray)) := HR.out.cell 1 rfl 1 rfl; have hc9_gr_2 : w13.cell? ⟨gr, 2, none⟩ = some (.int .i64 0) := HR.out.cell 1 rfl 2 rfl; have hc9_gr_3 : w13.cell? ⟨gr, 3, none⟩ = some (.slice none 0 0) := HR.out.cell 1 rfl 3 rfl; have hc9_gr_4 : w13.cell? ⟨gr, 4, none⟩ = some (.int .i64 0) := HR.out.cell 1 rfl 4 rfl; have hc9_gr_5 : w13.cell? ⟨gr, 5, none⟩ = some (.string (⟨#[]⟩ : ByteArray)) := HR.out.cell 1 rfl 5 rfl; have hc9_gr_6 : w13.cell? ⟨gr, 6, none⟩ = some (.int .i64 0) := HR.out.cell 1 rfl 6 rfl; have hc9_gr_7 : w13.cell? ⟨gr, 7, none⟩ = some (.slice none 0 0) := HR.out.cell 1 rfl 7 rfl; have hc9_gr_8 : w13.cell? ⟨gr, 8, none⟩ = some (.string (⟨#[]⟩ : ByteArray)) := HR.out.cell 1 rfl 8 rfl; have fc9_gr_0 := HR.out.free 1 rfl 0; have fc9_gr_1 := HR.out.free 1 rfl 1; have fc9_gr_2 := HR.out.free 1 rfl 2; have fc9_gr_3 := HR.out.free 1 rfl 3; have fc9_gr_4 := HR.out.free 1 rfl 4; have fc9_gr_5 := HR.out.free 1 rfl 5; have fc9_gr_6 := HR.out.free 1 rfl 6; have fc9_gr_7 := HR.out.free 1 rfl 7; have fc9_gr_8 := HR.out.free 1 rfl 8)
    | ((with_reducible refine gate_store (t := 48) (p := 4) rfl ?_); refine store_event (t := 48) (p := 4) (v := ?vo_8) (w1 := w13.setCells gr 0 [.int .i64 0, .string (⟨#[]⟩ : ByteArray), .int .i64 0, .slice none 0 0, .int .i64 0, .string (⟨#[]⟩ : ByteArray), .int .i64 0, .slice none 0 0, .string (⟨#[]⟩ : ByteArray)]) ?hgs_8 ?hos_8 ?hns_8 ?hrs_8 ?_; (case hos_8 => rfl); (case hgs_8 => rfl); (case hns_8 => rfl); (case hrs_8 => first | (go_simp; done) | (go_simp; rfl)); intro w14 hw; have q_ := Aside0.mk (hw ▸ HR.out.store 1 rfl [.int .i64 0, .string (⟨#[]⟩ : ByteArray), .int .i64 0, .slice none 0 0, .int .i64 0, .string (⟨#[]⟩ : ByteArray), .int .i64 0, .slice none 0 0, .string (⟨#[]⟩ : ByteArray)] rfl); clear HR; have HR := q_; clear q_; clear hw; clear hc9_gr_0 hc9_gr_1 hc9_gr_2 hc9_gr_3 hc9_gr_4 hc9_gr_5 hc9_gr_6 hc9_gr_7 hc9_gr_8 fc9_gr_0 fc9_gr_1 fc9_gr_2 fc9_gr_3 fc9_gr_4 fc9_gr_5 fc9_gr_6 fc9_gr_7 fc9_gr_8))
   refine bodyPost_ret (results_ct rfl _ _ gr 48 #[.int .i64 0,.string (⟨#[]⟩ : ByteArray),.int .i64 0,.slice none 0 0,.int .i64 0,.string (⟨#[]⟩ : ByteArray),.int .i64 0,.slice none 0 0,.string (⟨#[]⟩ : ByteArray)] (0,0) _ rfl (HR.out.has 1 rfl).2 Tryd.underlying48 rfl (by kernel_rfl)) rfl ?_
   exact (show MadeCR zC false w _ _ from ⟨none,0,none,0,rfl,⟨Nat.le_refl _,Kd.C_nil k29 _,Nat.le_refl _,Kd.C_nil k29 _⟩,HR.out.bel⟩)
 ·skip
  go_wp2_with (first
   | (go_at_call 90; with_reducible refine (H2.out w8 HR.out.bel).mono ?_; rintro e w9 ⟨rfl, hb⟩; have q_ := Aside0.mk (HR.out.step hb); clear HR; have HR := q_; clear q_; clear hb; clear hc4_ga_0 hc4_ga_1 hc4_ga_2 hc4_ga_3; have hc5_ga_0 : w9.cell? ⟨ga, 0, none⟩ = some (.int .i64 a0) := HR.out.cell 2 rfl 0 rfl; have hc5_ga_1 : w9.cell? ⟨ga, 1, none⟩ = some (.string a1) := HR.out.cell 2 rfl 1 rfl; have hc5_ga_2 : w9.cell? ⟨ga, 2, none⟩ = some (.int .i64 a2) := HR.out.cell 2 rfl 2 rfl; have hc5_ga_3 : w9.cell? ⟨ga, 3, none⟩ = some (.slice (some ad) 2 c) := HR.out.cell 2 rfl 3 rfl; have hc5_go_0 : w9.cell? ⟨go, 0, none⟩ = some (.int .i64 a0) := HR.out.cell 0 rfl 0 rfl; have hc5_go_1 : w9.cell? ⟨go, 1, none⟩ = some (.string a1) := HR.out.cell 0 rfl 1 rfl; have hc5_go_2 : w9.cell? ⟨go, 2, none⟩ = some (.int .i64 a2) := HR.out.cell 0 rfl 2 rfl; have hc5_go_3 : w9.cell? ⟨go, 3, none⟩ = some (.slice (some ad) 2 c) := HR.out.cell 0 rfl 3 rfl; have hc5_go_4 : w9.cell? ⟨go, 4, none⟩ = some (.int .i64 2) := HR.out.cell 0 rfl 4 rfl; have hc5_go_5 : w9.cell? ⟨go, 5, none⟩ = some (.string (⟨#[116, 114, 117, 101]⟩ : ByteArray)) := HR.out.cell 0 rfl 5 rfl; have hc5_go_6 : w9.cell? ⟨go, 6, none⟩ = some (.int .i64 0) := HR.out.cell 0 rfl 6 rfl; have hc5_go_7 : w9.cell? ⟨go, 7, none⟩ = some (.slice none 0 0) := HR.out.cell 0 rfl 7 rfl; have hc5_go_8 : w9.cell? ⟨go, 8, none⟩ = some (.string file) := HR.out.cell 0 rfl 8 rfl; have fc5_go_0 := HR.out.free 0 rfl 0; have fc5_go_1 := HR.out.free 0 rfl 1; have fc5_go_2 := HR.out.free 0 rfl 2; have fc5_go_3 := HR.out.free 0 rfl 3; have fc5_go_4 := HR.out.free 0 rfl 4; have fc5_go_5 := HR.out.free 0 rfl 5; have fc5_go_6 := HR.out.free 0 rfl 6; have fc5_go_7 := HR.out.free 0 rfl 7; have fc5_go_8 := HR.out.free 0 rfl 8; have hx0 := (HR.out.bel.cell (World.block_lt_of_cell? w _ HX0.out)).trans HX0.out; have hx1 := (HR.out.bel.cell (World.block_lt_of_cell? w _ HX1.out)).trans HX1.out; have hx2 := (HR.out.bel.cell (World.block_lt_of_cell? w _ HX2.out)).trans HX2.out; have hx3 := (HR.out.bel.cell (World.block_lt_of_cell? w _ HX3.out)).trans HX3.out)
   | ((with_reducible refine gate_store (t := 29) (p := 21) rfl ?_); refine store_event (t := 29) (p := 21) (v := ?vo_5) (w1 := w9.setCells go 0 [.int .i64 x.f0, .string x.f1, .int .i64 x.f2, .slice A3 x.f3.length c3]) ?hgs_5 ?hos_5 ?hns_5 ?hrs_5 ?_; (case hos_5 => rfl); (case hgs_5 => rfl); (case hns_5 => rfl); (case hrs_5 => first | (go_simp; done) | (go_simp; rfl)); intro w10 hw; have q_ := Aside0.mk (HR.out.seg 0 rfl 0 [.int .i64 x.f0, .string x.f1, .int .i64 x.f2, .slice A3 x.f3.length c3] (Nat.le_of_ble_eq_true rfl)); rw [← hw] at q_; clear HR; have HR := q_; clear q_; clear hw; clear hc5_ga_0 hc5_ga_1 hc5_ga_2 hc5_ga_3 hc5_go_0 hc5_go_1 hc5_go_2 hc5_go_3 hc5_go_4 hc5_go_5 hc5_go_6 hc5_go_7 hc5_go_8 fc5_go_0 fc5_go_1 fc5_go_2 fc5_go_3 fc5_go_4 fc5_go_5 fc5_go_6 fc5_go_7 fc5_go_8; have hc6_ga_0 : w10.cell? ⟨ga, 0, none⟩ = some (.int .i64 a0) := HR.out.cell 2 rfl 0 rfl; have hc6_ga_1 : w10.cell? ⟨ga, 1, none⟩ = some (.string a1) := HR.out.cell 2 rfl 1 rfl; have hc6_ga_2 : w10.cell? ⟨ga, 2, none⟩ = some (.int .i64 a2) := HR.out.cell 2 rfl 2 rfl; have hc6_ga_3 : w10.cell? ⟨ga, 3, none⟩ = some (.slice (some ad) 2 c) := HR.out.cell 2 rfl 3 rfl; have hc6_go_0 : w10.cell? ⟨go, 0, none⟩ = some (.int .i64 x.f0) := HR.out.cell 0 rfl 0 rfl; have hc6_go_1 : w10.cell? ⟨go, 1, none⟩ = some (.string x.f1) := HR.out.cell 0 rfl 1 rfl; have hc6_go_2 : w10.cell? ⟨go, 2, none⟩ = some (.int .i64 x.f2) := HR.out.cell 0 rfl 2 rfl; have hc6_go_3 : w10.cell? ⟨go, 3, none⟩ = some (.slice A3 x.f3.length c3) := HR.out.cell 0 rfl 3 rfl; have hc6_go_4 : w10.cell? ⟨go, 4, none⟩ = some (.int .i64 2) := HR.out.cell 0 rfl 4 rfl; have hc6_go_5 : w10.cell? ⟨go, 5, none⟩ = some (.string (⟨#[116, 114, 117, 101]⟩ : ByteArray)) := HR.out.cell 0 rfl 5 rfl; have hc6_go_6 : w10.cell? ⟨go, 6, none⟩ = some (.int .i64 0) := HR.out.cell 0 rfl 6 rfl; have hc6_go_7 : w10.cell? ⟨go, 7, none⟩ = some (.slice none 0 0) := HR.out.cell 0 rfl 7 rfl; have hc6_go_8 : w10.cell? ⟨go, 8, none⟩ = some (.string file) := HR.out.cell 0 rfl 8 rfl; have fc6_go_0 := HR.out.free 0 rfl 0; have fc6_go_1 := HR.out.free 0 rfl 1; have fc6_go_2 := HR.out.free 0 rfl 2; have fc6_go_3 := HR.out.free 0 rfl 3; have fc6_go_4 := HR.out.free 0 rfl 4; have fc6_go_5 := HR.out.free 0 rfl 5; have fc6_go_6 := HR.out.free 0 rfl 6; have fc6_go_7 := HR.out.free 0 rfl 7; have fc6_go_8 := HR.out.free 0 rfl 8; clear hx0 hx1 hx2 hx3; have hy0 := (HR.out.bel.cell (World.block_lt_of_cell? w _ HY0.out)).trans HY0.out; have hy1 := (HR.out.bel.cell (World.block_lt_of_cell? w _ HY1.out)).trans HY1.out; have hy2 := (HR.out.bel.cell (World.block_lt_of_cell? w _ HY2.out)).trans HY2.out; have hy3 := (HR.out.bel.cell (World.block_lt_of_cell? w _ HY3.out)).trans HY3.out)
   | ((with_reducible refine gate_store (t := 29) (p := 26) rfl ?_); refine store_event (t := 29) (p := 26) (v := ?vo_6) (w1 := w10.setCells go 4 [.int .i64 y.f0, .string y.f1, .int .i64 y.f2, .slice A7 y.f3.length c7]) ?hgs_6 ?hos_6 ?hns_6 ?hrs_6 ?_; (case hos_6 => rfl); (case hgs_6 => rfl); (case hns_6 => rfl); (case hrs_6 => first | (go_simp; done) | (go_simp; rfl)); intro w11 hw; have q_ := Aside0.mk (HR.out.seg 0 rfl 4 [.int .i64 y.f0, .string y.f1, .int .i64 y.f2, .slice A7 y.f3.length c7] (Nat.le_of_ble_eq_true rfl)); rw [← hw] at q_; clear HR; have HR := q_; clear q_; clear hw; clear hc6_ga_0 hc6_ga_1 hc6_ga_2 hc6_ga_3 hc6_go_0 hc6_go_1 hc6_go_2 hc6_go_3 hc6_go_4 hc6_go_5 hc6_go_6 hc6_go_7 hc6_go_8 fc6_go_0 fc6_go_1 fc6_go_2 fc6_go_3 fc6_go_4 fc6_go_5 fc6_go_6 fc6_go_7 fc6_go_8; have hc7_go_0 : w11.cell? ⟨go, 0, none⟩ = some (.int .i64 x.f0) := HR.out.cell 0 rfl 0 rfl; have hc7_go_1 : w11.cell? ⟨go, 1, none⟩ = some (.string x.f1) := HR.out.cell 0 rfl 1 rfl; have hc7_go_2 : w11.cell? ⟨go, 2, none⟩ = some (.int .i64 x.f2) := HR.out.cell 0 rfl 2 rfl; have hc7_go_3 : w11.cell? ⟨go, 3, none⟩ = some (.slice A3 x.f3.length c3) := HR.out.cell 0 rfl 3 rfl; have hc7_go_4 : w11.cell? ⟨go, 4, none⟩ = some (.int .i64 y.f0) := HR.out.cell 0 rfl 4 rfl; have hc7_go_5 : w11.cell? ⟨go, 5, none⟩ = some (.string y.f1) := HR.out.cell 0 rfl 5 rfl; have hc7_go_6 : w11.cell? ⟨go, 6, none⟩ = some (.int .i64 y.f2) := HR.out.cell 0 rfl 6 rfl; have hc7_go_7 : w11.cell? ⟨go, 7, none⟩ = some (.slice A7 y.f3.length c7) := HR.out.cell 0 rfl 7 rfl; have hc7_go_8 : w11.cell? ⟨go, 8, none⟩ = some (.string file) := HR.out.cell 0 rfl 8 rfl; clear hy0 hy1 hy2 hy3)
   | (go_at_call 87; with_reducible refine (H3.out w11 A3 c3 HR.out.bel (Kd.C_below HI3.out HR.out.bel) HL3.out).mono ?_; rintro e w12 ⟨rfl, hb⟩; have q_ := Aside0.mk (HR.out.step hb); clear HR; have HR := q_; clear q_; clear hb; clear hc7_go_0 hc7_go_1 hc7_go_2 hc7_go_3 hc7_go_4 hc7_go_5 hc7_go_6 hc7_go_7 hc7_go_8; have hc8_gr_0 : w12.cell? ⟨gr, 0, none⟩ = some (.int .i64 0) := HR.out.cell 1 rfl 0 rfl; have hc8_gr_1 : w12.cell? ⟨gr, 1, none⟩ = some (.string (⟨#[]⟩ : ByteArray)) := HR.out.cell 1 rfl 1 rfl; have hc8_gr_2 : w12.cell? ⟨gr, 2, none⟩ = some (.int .i64 0) := HR.out.cell 1 rfl 2 rfl; have hc8_gr_3 : w12.cell? ⟨gr, 3, none⟩ = some (.slice none 0 0) := HR.out.cell 1 rfl 3 rfl; have hc8_gr_4 : w12.cell? ⟨gr, 4, none⟩ = some (.int .i64 0) := HR.out.cell 1 rfl 4 rfl; have hc8_gr_5 : w12.cell? ⟨gr, 5, none⟩ = some (.string (⟨#[]⟩ : ByteArray)) := HR.out.cell 1 rfl 5 rfl; have hc8_gr_6 : w12.cell? ⟨gr, 6, none⟩ = some (.int .i64 0) := HR.out.cell 1 rfl 6 rfl; have hc8_gr_7 : w12.cell? ⟨gr, 7, none⟩ = some (.slice none 0 0) := HR.out.cell 1 rfl 7 rfl; have hc8_gr_8 : w12.cell? ⟨gr, 8, none⟩ = some (.string (⟨#[]⟩ : ByteArray)) := HR.out.cell 1 rfl 8 rfl; have fc8_gr_0 := HR.out.free 1 rfl 0; have fc8_gr_1 := HR.out.free 1 rfl 1; have fc8_gr_2 := HR.out.free 1 rfl 2; have fc8_gr_3 := HR.out.free 1 rfl 3; have fc8_gr_4 := HR.out.free 1 rfl 4; have fc8_gr_5 := HR.out.free 1 rfl 5; have fc8_gr_6 := HR.out.free 1 rfl 6; have fc8_gr_7 := HR.out.free 1 rfl 7; have fc8_gr_8 := HR.out.free 1 rfl 8)
   | ((with_reducible refine gate_store (t := 48) (p := 4) rfl ?_); refine store_event (t := 48) (p := 4) (v := ?vo_9) (w1 := w12.setCells gr 0 [.int .i64 0, .string (⟨#[]⟩ : ByteArray), .int .i64 0, .slice none 0 0, .int .i64 0, .string (⟨#[]⟩ : ByteArray), .int .i64 0, .slice none 0 0, .string (⟨#[]⟩ : ByteArray)]) ?hgs_9 ?hos_9 ?hns_9 ?hrs_9 ?_; (case hos_9 => rfl); (case hgs_9 => rfl); (case hns_9 => rfl); (case hrs_9 => first | (go_simp; done) | (go_simp; rfl)); intro w13 hw; have q_ := Aside0.mk (hw ▸ HR.out.store 1 rfl [.int .i64 0, .string (⟨#[]⟩ : ByteArray), .int .i64 0, .slice none 0 0, .int .i64 0, .string (⟨#[]⟩ : ByteArray), .int .i64 0, .slice none 0 0, .string (⟨#[]⟩ : ByteArray)] rfl); clear HR; have HR := q_; clear q_; clear hw; clear hc8_gr_0 hc8_gr_1 hc8_gr_2 hc8_gr_3 hc8_gr_4 hc8_gr_5 hc8_gr_6 hc8_gr_7 hc8_gr_8 fc8_gr_0 fc8_gr_1 fc8_gr_2 fc8_gr_3 fc8_gr_4 fc8_gr_5 fc8_gr_6 fc8_gr_7 fc8_gr_8))
  refine bodyPost_ret (results_ct rfl _ _ gr 48 #[.int .i64 0,.string (⟨#[]⟩ : ByteArray),.int .i64 0,.slice none 0 0,.int .i64 0,.string (⟨#[]⟩ : ByteArray),.int .i64 0,.slice none 0 0,.string (⟨#[]⟩ : ByteArray)] (0,0) _ rfl (HR.out.has 1 rfl).2 Tryd.underlying48 rfl (by kernel_rfl)) rfl ?_
  exact (show MadeCR zC false w _ _ from ⟨none,0,none,0,rfl,⟨Nat.le_refl _,Kd.C_nil k29 _,Nat.le_refl _,Kd.C_nil k29 _⟩,HR.out.bel⟩)
set_option maxHeartbeats 16000000 in
set_option maxRecDepth 100000 in
theorem spec_clo_C (a0 : Int) (a1 : ByteArray) (a2 : Int) (x y : S29) (file : ByteArray) (ad : Addr) (c : Nat) (w : World) (hC : Kd.C k29 w (some ad) 2 [x,y]) (hc : 2 ≤ c)
  (h1 : ∀ W,Below w.heap.size w W → Calls Tryd.prog 86 #[.agg #[.int .i64 a0,.string a1,.int .i64 a2,.slice (some ad) 2 c]] W fun e W' => e = .returned (.bool true) ∧ Below W.heap.size W W') (h2 : ∀ W,Below w.heap.size w W → Calls Tryd.prog 90 #[.agg #[.int .i64 a0,.string a1,.int .i64 a2,.slice (some ad) 2 c],.string (⟨#[58,45]⟩ : ByteArray),.int .i64 2] W fun e W' => e = .returned (.bool true) ∧ Below W.heap.size W W') (hk : y.f0 = 1) (bh : Bool) (h3 : ∀ W (A : Option Addr) (c : Nat),Below w.heap.size w W → Kd.C k29 W A x.f3.length x.f3 → x.f3.length ≤ c → Calls Tryd.prog 87 #[.agg #[.int .i64 x.f0,.string x.f1,.int .i64 x.f2,.slice A x.f3.length c]] W fun e W' => e = .returned (.bool bh) ∧ Below W.heap.size W W') (bb : Bool) (h4 : ∀ W (g : Nat),Kd.C k29 W (some ⟨g,0,none⟩) 1 [y] → Calls Tryd.prog 86 #[.agg #[.int .i64 4,.string (⟨#[99,97,108,108]⟩ : ByteArray),.int .i64 0,.slice (some ⟨g,0,none⟩) 1 1]] W fun e W' => e = .returned (.bool bb) ∧ Below W.heap.size W W') : Calls Tryd.prog 58 #[.agg #[.int .i64 a0,.string a1,.int .i64 a2,.slice (some ad) 2 c],.string file] w fun e w' => MadeCR (if (bh && bb) = true then (⟨x,(⟨4,(⟨#[99,97,108,108]⟩ : ByteArray),0,[y]⟩ : S29),file⟩ : S48) else zC) (bh && bb) w e w':=by
 have HC:=Aside0.mk hC
 have HCC:=Aside0.mk hc
 have H1:=Aside0.mk h1
 have H2:=Aside0.mk h2
 have H3:=Aside0.mk h3
 have H4:=Aside0.mk h4
 have HR:=Aside0.mk (run_law w)
 have cv0 : (y.f0 == 1) = true:=beq_iff_eq.2 hk
 have cv1 : decide (y.f0 = 1) = true:=decide_eq_true hk
 obtain ⟨ad1,A3,c3,e1,hx0,hx1,hx2,hx3,hl3,hi3⟩:=at_T29 hC 0 (by decide) (by decide)
 obtain ⟨ad2,A7,c7,e2,hy0,hy1,hy2,hy3,hl7,hi7⟩:=at_T29 hC 1 (by decide) (by decide)
 injection e1 with e1
 injection e2 with e2
 rw [← e1] at hx0 hx1 hx2 hx3
 rw [← e2] at hy0 hy1 hy2 hy3
 clear e1 e2 ad1 ad2
 rw [show rd_T29 [x,y] 0 = x from rfl] at hx0 hx1 hx2 hx3 hl3 hi3
 rw [show rd_T29 [x,y] 1 = y from rfl] at hy0 hy1 hy2 hy3 hl7 hi7
 have E0 : ad.add ((0 : Int).toNat * 4) = ad:=ad_zero ad
 have E1 : ad.add ((1 : Int).toNat * 4) = ⟨ad.block,ad.off + 4,none⟩:=ad_four ad
 rw [E0] at hx0 hx1 hx2 hx3
 rw [E1] at hy0 hy1 hy2 hy3
 clear E0 E1
 replace hy1 : w.cell? ⟨ad.block,ad.off + 5,none⟩ = _:=hy1
 replace hy2 : w.cell? ⟨ad.block,ad.off + 6,none⟩ = _:=hy2
 replace hy3 : w.cell? ⟨ad.block,ad.off + 7,none⟩ = _:=hy3
 have HL3:=Aside0.mk hl3
 have HI3:=Aside0.mk hi3
 have HL7:=Aside0.mk hl7
 have HI7:=Aside0.mk hi7
 have HX0:=Aside0.mk hx0
 have HX1:=Aside0.mk hx1
 have HX2:=Aside0.mk hx2
 have HX3:=Aside0.mk hx3
 have HY0:=Aside0.mk hy0
 have HY1:=Aside0.mk hy1
 have HY2:=Aside0.mk hy2
 have HY3:=Aside0.mk hy3
 clear hl3 hi3 hl7 hi7 hx0 hx1 hx2 hx3 hy0 hy1 hy2 hy3
 clear hC hc h1 h2 h3 h4 hk
 go_enter Tryd.func58,Tryd.ntmps58
 go_wp2_with (first
  | ((with_reducible refine gate_dst (N := 2) rfl ?_); refine box_event ?hg2 (N := 2) ?hd2 (cs := #[.int .i64 a0, .string a1, .int .i64 a2, .slice (some ad) 2 c]) (t := 29) ?hr2 ?_; (case hd2 => rfl); (case hg2 => rfl); (case hr2 => first | (go_simp; done) | (go_simp; rfl)); intro ga hg w1 hbox hb; have q_ := Aside0.mk (HR.out.box hg hb hbox); clear HR; have HR := q_; clear q_; clear hg hbox hb)
  | ((with_reducible refine gate_dst (N := 4) rfl ?_); refine box_event ?hg4 (N := 4) ?hd4 (cs := #[.int .i64 0, .string (⟨#[]⟩ : ByteArray), .int .i64 0, .slice none 0 0, .int .i64 0, .string (⟨#[]⟩ : ByteArray), .int .i64 0, .slice none 0 0, .string (⟨#[]⟩ : ByteArray)]) (t := 48) ?hr4 ?_; (case hd4 => rfl); (case hg4 => rfl); (case hr4 => first | (go_simp; done) | (go_simp; rfl)); intro gr hg w2 hbox hb; have q_ := Aside0.mk (HR.out.box hg hb hbox); clear HR; have HR := q_; clear q_; clear hg hbox hb; have hc2_ga_0 : w2.cell? ⟨ga, 0, none⟩ = some (.int .i64 a0) := HR.out.cell 1 rfl 0 rfl; have hc2_ga_1 : w2.cell? ⟨ga, 1, none⟩ = some (.string a1) := HR.out.cell 1 rfl 1 rfl; have hc2_ga_2 : w2.cell? ⟨ga, 2, none⟩ = some (.int .i64 a2) := HR.out.cell 1 rfl 2 rfl; have hc2_ga_3 : w2.cell? ⟨ga, 3, none⟩ = some (.slice (some ad) 2 c) := HR.out.cell 1 rfl 3 rfl)
  | (go_at_call 86; with_reducible refine (H1.out w2 HR.out.bel).mono ?_; rintro e w3 ⟨rfl, hb⟩; have q_ := Aside0.mk (HR.out.step hb); clear HR; have HR := q_; clear q_; clear hb; clear hc2_ga_0 hc2_ga_1 hc2_ga_2 hc2_ga_3))
 have q_:=Aside0.mk (HR.out.drew)
 clear HR
 have HR:=q_
 clear q_
 refine start_ (n:=6) (S:=fun w' => w'.cell? ⟨ga,0,none⟩ = some (.int .i64 a0) ∧ w'.cell? ⟨ga,1,none⟩ = some (.string a1) ∧ w'.cell? ⟨ga,2,none⟩ = some (.int .i64 a2) ∧ w'.cell? ⟨ga,3,none⟩ = some (.slice (some ad) 2 c)) (ds:=[5]) #[false,false,false,false,false,false] (by kernel_rfl) rfl rfl ⟨HR.out.cell 1 rfl 0 rfl,HR.out.cell 1 rfl 1 rfl,HR.out.cell 1 rfl 2 rfl,HR.out.cell 1 rfl 3 rfl⟩ (fun hHeld => ?_);refine with_tabW specclo3_tab specclo3_bits (fun HT_ HW_ => ?_)
 generalize w3.drew = w4 at HR hHeld ⊢
 refine take_ (i:=0) (N:=some 11) (v:=?_) (a':=?_) #[true,false,false,false,false,false] rfl rfl (take_ofW HT_.out HW_.out (by kernel_rfl)) (fun _ _ _ h => h) (Or.inl ⟨by rfl,?_⟩) hHeld ?_ ?_
 rotate_left
 ·rintro w' ⟨s0,s1,s2,s3⟩
  go_simp
  with_reducible rfl
 rotate_left
 ·simp only [Act.put,List.setIfInBounds_toArray,List.set_cons_zero,List.set_cons_succ,i64_w,i32_w]
  rfl
 refine pure_ (i:=2) (N:=some 13) (v:=?_) (a':=?_) #[true,false,true,false,false,false] rfl rfl (any_of HT_.out (by kernel_rfl)) (fun _ _ _ h => h) (Or.inl ⟨by rfl,?_⟩) ?_ ?_
 rotate_left
 ·intro w'
  go_simp
  with_reducible rfl
 rotate_left
 ·simp only [Act.put,List.setIfInBounds_toArray,List.set_cons_zero,List.set_cons_succ,i64_w,i32_w]
  rfl
 refine join_ (σ:=Nat) 1 #[true,true,true,true,true,false] (fun go => [(12,.agg #[.int .i64 2,.string (⟨#[116,114,117,101]⟩ : ByteArray),.int .i64 0,.slice none 0 0]),(14,.agg #[.int .i64 a0,.string a1,.int .i64 a2,.slice (some ad) 2 c,.int .i64 2,.string (⟨#[116,114,117,101]⟩ : ByteArray),.int .i64 0,.slice none 0 0,.string file]),(6,.pointer (some ⟨go,0,none⟩))]) (fun go w' => Run w w (fun _ => False) [As.box go 48 #[.int .i64 0,.string (⟨#[]⟩ : ByteArray),.int .i64 0,.slice none 0 0,.int .i64 0,.string (⟨#[]⟩ : ByteArray),.int .i64 0,.slice none 0 0,.string (⟨#[]⟩ : ByteArray)],As.box gr 48 #[.int .i64 0,.string (⟨#[]⟩ : ByteArray),.int .i64 0,.slice none 0 0,.int .i64 0,.string (⟨#[]⟩ : ByteArray),.int .i64 0,.slice none 0 0,.string (⟨#[]⟩ : ByteArray)],As.box ga 29 #[.int .i64 a0,.string a1,.int .i64 a2,.slice (some ad) 2 c]] w') ?_ ?_
 rotate_left
 ·intro hCont
  refine two_ (i:=1) (j:=4) (Ni:=some 12) (Nj:=some 6) #[true,true,true,false,false,false] #[true,false,true,false,true,false] rfl rfl rfl rfl (two_of HT_.out (by kernel_rfl)) (by decide) (by decide) (fun K hK => ?_) (fun K hK => ?_)
  ·skip
   refine goes_ Tryd.func89 (by kernel_rfl) rfl #[.string (⟨#[116,114,117,101]⟩ : ByteArray)] (by rfl) rfl rfl (by (try simp only [List.map_toArray,List.map_cons,List.map_nil]);first|done|rfl) ?_
   refine (satom_calls (⟨#[116,114,117,101]⟩ : ByteArray) w4).mono ?_
   rintro e w5 ⟨rfl,hb⟩
   refine ⟨_,rfl,?_⟩
   have q_:=Aside0.mk (HR.out.step hb)
   clear HR
   have HR:=q_
   clear q_
   clear hb
   refine hK.out _ _ ⟨HR.out.cell 1 rfl 0 rfl,HR.out.cell 1 rfl 1 rfl,HR.out.cell 1 rfl 2 rfl,HR.out.cell 1 rfl 3 rfl⟩ (fun hHeld => ?_)
   clear hK K
   refine norm_ (a':=?_) ?_ ?_
   rotate_left
   ·show Act.put _ (some 12) _ = _
    simp only [Act.put,List.setIfInBounds_toArray,List.set_cons_zero,List.set_cons_succ,i64_w,i32_w]
    rfl
   refine pure_ (i:=3) (N:=some 14) (v:=?_) (a':=?_) #[true,true,true,true,false,false] rfl rfl (any_of HT_.out (by kernel_rfl)) (fun _ _ _ h => h) (Or.inl ⟨by rfl,?_⟩) ?_ ?_
   rotate_left
   ·intro w'
    go_simp
    with_reducible rfl
   rotate_left
   ·simp only [Act.put,List.setIfInBounds_toArray,List.set_cons_zero,List.set_cons_succ,i64_w,i32_w]
    rfl
   refine one_ (i:=4) (N:=some 6) #[true,true,true,true,true,false] rfl rfl (one_of HT_.out (by kernel_rfl)) (by decide) (fun K hK => ?_)
   refine box_step (by rfl) (N:=6) rfl (cs:=#[.int .i64 0,.string (⟨#[]⟩ : ByteArray),.int .i64 0,.slice none 0 0,.int .i64 0,.string (⟨#[]⟩ : ByteArray),.int .i64 0,.slice none 0 0,.string (⟨#[]⟩ : ByteArray)]) (t:=48) ?hra ?_
   (case hra => first|(go_simp;done)|(go_simp;rfl))
   intro go hg w6 hbox hb
   have q_:=Aside0.mk (HR.out.box hg hb hbox)
   clear HR
   have HR:=q_
   clear q_
   clear hg hbox hb
   refine hK.out _ _ ⟨HR.out.cell 2 rfl 0 rfl,HR.out.cell 2 rfl 1 rfl,HR.out.cell 2 rfl 2 rfl,HR.out.cell 2 rfl 3 rfl⟩ (fun hHeld => ?_)
   clear hK K
   refine norm_ (a':=?_) ?_ ?_
   rotate_left
   ·show Act.put _ (some 6) _ = _
    simp only [Act.put,List.setIfInBounds_toArray,List.set_cons_zero,List.set_cons_succ,i64_w,i32_w]
    rfl
   exact norm_ (by simp only [putAll,Act.put,List.setIfInBounds_toArray,List.set_cons_zero,List.set_cons_succ]) (hCont go _ HR.out)
  ·skip
   refine box_step (by rfl) (N:=6) rfl (cs:=#[.int .i64 0,.string (⟨#[]⟩ : ByteArray),.int .i64 0,.slice none 0 0,.int .i64 0,.string (⟨#[]⟩ : ByteArray),.int .i64 0,.slice none 0 0,.string (⟨#[]⟩ : ByteArray)]) (t:=48) ?hra ?_
   (case hra => first|(go_simp;done)|(go_simp;rfl))
   intro go hg w5 hbox hb
   have q_:=Aside0.mk (HR.out.box hg hb hbox)
   clear HR
   have HR:=q_
   clear q_
   clear hg hbox hb
   refine hK.out _ _ ⟨HR.out.cell 2 rfl 0 rfl,HR.out.cell 2 rfl 1 rfl,HR.out.cell 2 rfl 2 rfl,HR.out.cell 2 rfl 3 rfl⟩ (fun hHeld => ?_)
   clear hK K
   refine norm_ (a':=?_) ?_ ?_
   rotate_left
   ·show Act.put _ (some 6) _ = _
    simp only [Act.put,List.setIfInBounds_toArray,List.set_cons_zero,List.set_cons_succ,i64_w,i32_w]
    rfl
   refine one_ (i:=1) (N:=some 12) #[true,true,true,false,true,false] rfl rfl (one_of HT_.out (by kernel_rfl)) (by decide) (fun K hK => ?_)
   refine goes_ Tryd.func89 (by kernel_rfl) rfl #[.string (⟨#[116,114,117,101]⟩ : ByteArray)] (by rfl) rfl rfl (by (try simp only [List.map_toArray,List.map_cons,List.map_nil]);first|done|rfl) ?_
   refine (satom_calls (⟨#[116,114,117,101]⟩ : ByteArray) w5).mono ?_
   rintro e w6 ⟨rfl,hb⟩
   refine ⟨_,rfl,?_⟩
   have q_:=Aside0.mk (HR.out.step hb)
   clear HR
   have HR:=q_
   clear q_
   clear hb
   refine hK.out _ _ ⟨HR.out.cell 2 rfl 0 rfl,HR.out.cell 2 rfl 1 rfl,HR.out.cell 2 rfl 2 rfl,HR.out.cell 2 rfl 3 rfl⟩ (fun hHeld => ?_)
   clear hK K
   refine norm_ (a':=?_) ?_ ?_
   rotate_left
   ·show Act.put _ (some 12) _ = _
    simp only [Act.put,List.setIfInBounds_toArray,List.set_cons_zero,List.set_cons_succ,i64_w,i32_w]
    rfl
   refine pure_ (i:=3) (N:=some 14) (v:=?_) (a':=?_) #[true,true,true,true,true,false] rfl rfl (any_of HT_.out (by kernel_rfl)) (fun _ _ _ h => h) (Or.inl ⟨by rfl,?_⟩) ?_ ?_
   rotate_left
   ·intro w'
    go_simp
    with_reducible rfl
   rotate_left
   ·simp only [Act.put,List.setIfInBounds_toArray,List.set_cons_zero,List.set_cons_succ,i64_w,i32_w]
    rfl
   exact norm_ (by simp only [putAll,Act.put,List.setIfInBounds_toArray,List.set_cons_zero,List.set_cons_succ]) (hCont go _ HR.out)
 rintro go w7 hR_
 clear HR
 have HR:=Aside0.mk (show Run w w (fun _ => False) [As.box go 48 #[.int .i64 0,.string (⟨#[]⟩ : ByteArray),.int .i64 0,.slice none 0 0,.int .i64 0,.string (⟨#[]⟩ : ByteArray),.int .i64 0,.slice none 0 0,.string (⟨#[]⟩ : ByteArray)],As.box gr 48 #[.int .i64 0,.string (⟨#[]⟩ : ByteArray),.int .i64 0,.slice none 0 0,.int .i64 0,.string (⟨#[]⟩ : ByteArray),.int .i64 0,.slice none 0 0,.string (⟨#[]⟩ : ByteArray)],As.box ga 29 #[.int .i64 a0,.string a1,.int .i64 a2,.slice (some ad) 2 c]] w7 from hR_)
 clear hR_
 refine norm_ (a':=?_) ?_ ?_
 rotate_left
 ·simp only [putAll,Act.put,List.setIfInBounds_toArray,List.set_cons_zero,List.set_cons_succ]
  rfl
 refine last_ (i:=5) (N:=none) #[true,true,true,true,true,true] rfl rfl (one_of HT_.out (by kernel_rfl)) (by decide) (fun K hK => ?_)
 have hz0_ : w7.cell? ⟨go,0,none⟩ = some (.int .i64 0):=HR.out.cell 0 rfl 0 rfl
 have fz0_:=HR.out.free 0 rfl 0
 have hz1_ : w7.cell? ⟨go,1,none⟩ = some (.string (⟨#[]⟩ : ByteArray)):=HR.out.cell 0 rfl 1 rfl
 have fz1_:=HR.out.free 0 rfl 1
 have hz2_ : w7.cell? ⟨go,2,none⟩ = some (.int .i64 0):=HR.out.cell 0 rfl 2 rfl
 have fz2_:=HR.out.free 0 rfl 2
 have hz3_ : w7.cell? ⟨go,3,none⟩ = some (.slice none 0 0):=HR.out.cell 0 rfl 3 rfl
 have fz3_:=HR.out.free 0 rfl 3
 have hz4_ : w7.cell? ⟨go,4,none⟩ = some (.int .i64 0):=HR.out.cell 0 rfl 4 rfl
 have fz4_:=HR.out.free 0 rfl 4
 have hz5_ : w7.cell? ⟨go,5,none⟩ = some (.string (⟨#[]⟩ : ByteArray)):=HR.out.cell 0 rfl 5 rfl
 have fz5_:=HR.out.free 0 rfl 5
 have hz6_ : w7.cell? ⟨go,6,none⟩ = some (.int .i64 0):=HR.out.cell 0 rfl 6 rfl
 have fz6_:=HR.out.free 0 rfl 6
 have hz7_ : w7.cell? ⟨go,7,none⟩ = some (.slice none 0 0):=HR.out.cell 0 rfl 7 rfl
 have fz7_:=HR.out.free 0 rfl 7
 have hz8_ : w7.cell? ⟨go,8,none⟩ = some (.string (⟨#[]⟩ : ByteArray)):=HR.out.cell 0 rfl 8 rfl
 have fz8_:=HR.out.free 0 rfl 8
 refine skip_ (w1:=w7.setCells go 0 [.int .i64 a0,.string a1,.int .i64 a2,.slice (some ad) 2 c,.int .i64 2,.string (⟨#[116,114,117,101]⟩ : ByteArray),.int .i64 0,.slice none 0 0,.string file]) (by rfl) rfl ?_ ?_
 ·first|(go_simp;done)|(go_simp;rfl)
 refine hK.out _ _ ?_
 clear hK K hz0_ fz0_ hz1_ fz1_ hz2_ fz2_ hz3_ fz3_ hz4_ fz4_ hz5_ fz5_ hz6_ fz6_ hz7_ fz7_ hz8_ fz8_
 have q_:=Aside0.mk (HR.out.store 0 rfl [.int .i64 a0,.string a1,.int .i64 a2,.slice (some ad) 2 c,.int .i64 2,.string (⟨#[116,114,117,101]⟩ : ByteArray),.int .i64 0,.slice none 0 0,.string file] rfl)
 clear HR
 have HR:=q_
 clear q_
 generalize w7.setCells go 0 [.int .i64 a0,.string a1,.int .i64 a2,.slice (some ad) 2 c,.int .i64 2,.string (⟨#[116,114,117,101]⟩ : ByteArray),.int .i64 0,.slice none 0 0,.string file] = w8 at HR ⊢
 refine done_ (done_of HT_.out (by kernel_rfl)) ?_
 have hc4_ga_0 : w8.cell? ⟨ga,0,none⟩ = some (.int .i64 a0):=HR.out.cell 2 rfl 0 rfl
 have hc4_ga_1 : w8.cell? ⟨ga,1,none⟩ = some (.string a1):=HR.out.cell 2 rfl 1 rfl
 have hc4_ga_2 : w8.cell? ⟨ga,2,none⟩ = some (.int .i64 a2):=HR.out.cell 2 rfl 2 rfl
 have hc4_ga_3 : w8.cell? ⟨ga,3,none⟩ = some (.slice (some ad) 2 c):=HR.out.cell 2 rfl 3 rfl
 rcases Bool.eq_false_or_eq_true bh with rfl|rfl
 ·rcases Bool.eq_false_or_eq_true bb with rfl|rfl
  ·skip
   go_wp2_with (first
    | (go_at_call 90; with_reducible refine (H2.out w8 HR.out.bel).mono ?_; rintro e w9 ⟨rfl, hb⟩; have q_ := Aside0.mk (HR.out.step hb); clear HR; have HR := q_; clear q_; clear hb; clear hc4_ga_0 hc4_ga_1 hc4_ga_2 hc4_ga_3; have hc5_ga_0 : w9.cell? ⟨ga, 0, none⟩ = some (.int .i64 a0) := HR.out.cell 2 rfl 0 rfl; have hc5_ga_1 : w9.cell? ⟨ga, 1, none⟩ = some (.string a1) := HR.out.cell 2 rfl 1 rfl; have hc5_ga_2 : w9.cell? ⟨ga, 2, none⟩ = some (.int .i64 a2) := HR.out.cell 2 rfl 2 rfl; have hc5_ga_3 : w9.cell? ⟨ga, 3, none⟩ = some (.slice (some ad) 2 c) := HR.out.cell 2 rfl 3 rfl; have hc5_go_0 : w9.cell? ⟨go, 0, none⟩ = some (.int .i64 a0) := HR.out.cell 0 rfl 0 rfl; have hc5_go_1 : w9.cell? ⟨go, 1, none⟩ = some (.string a1) := HR.out.cell 0 rfl 1 rfl; have hc5_go_2 : w9.cell? ⟨go, 2, none⟩ = some (.int .i64 a2) := HR.out.cell 0 rfl 2 rfl; have hc5_go_3 : w9.cell? ⟨go, 3, none⟩ = some (.slice (some ad) 2 c) := HR.out.cell 0 rfl 3 rfl; have hc5_go_4 : w9.cell? ⟨go, 4, none⟩ = some (.int .i64 2) := HR.out.cell 0 rfl 4 rfl; have hc5_go_5 : w9.cell? ⟨go, 5, none⟩ = some (.string (⟨#[116, 114, 117, 101]⟩ : ByteArray)) := HR.out.cell 0 rfl 5 rfl; have hc5_go_6 : w9.cell? ⟨go, 6, none⟩ = some (.int .i64 0) := HR.out.cell 0 rfl 6 rfl; have hc5_go_7 : w9.cell? ⟨go, 7, none⟩ = some (.slice none 0 0) := HR.out.cell 0 rfl 7 rfl; have hc5_go_8 : w9.cell? ⟨go, 8, none⟩ = some (.string file) := HR.out.cell 0 rfl 8 rfl; have fc5_go_0 := HR.out.free 0 rfl 0; have fc5_go_1 := HR.out.free 0 rfl 1; have fc5_go_2 := HR.out.free 0 rfl 2; have fc5_go_3 := HR.out.free 0 rfl 3; have fc5_go_4 := HR.out.free 0 rfl 4; have fc5_go_5 := HR.out.free 0 rfl 5; have fc5_go_6 := HR.out.free 0 rfl 6; have fc5_go_7 := HR.out.free 0 rfl 7; have fc5_go_8 := HR.out.free 0 rfl 8; have hx0 := (HR.out.bel.cell (World.block_lt_of_cell? w _ HX0.out)).trans HX0.out; have hx1 := (HR.out.bel.cell (World.block_lt_of_cell? w _ HX1.out)).trans HX1.out; have hx2 := (HR.out.bel.cell (World.block_lt_of_cell? w _ HX2.out)).trans HX2.out; have hx3 := (HR.out.bel.cell (World.block_lt_of_cell? w _ HX3.out)).trans HX3.out)
    | ((with_reducible refine gate_store (t := 29) (p := 21) rfl ?_); refine store_event (t := 29) (p := 21) (v := ?vo_10) (w1 := w9.setCells go 0 [.int .i64 x.f0, .string x.f1, .int .i64 x.f2, .slice A3 x.f3.length c3]) ?hgs_10 ?hos_10 ?hns_10 ?hrs_10 ?_; (case hos_10 => rfl); (case hgs_10 => rfl); (case hns_10 => rfl); (case hrs_10 => first | (go_simp; done) | (go_simp; rfl)); intro w10 hw; have q_ := Aside0.mk (HR.out.seg 0 rfl 0 [.int .i64 x.f0, .string x.f1, .int .i64 x.f2, .slice A3 x.f3.length c3] (Nat.le_of_ble_eq_true rfl)); rw [← hw] at q_; clear HR; have HR := q_; clear q_; clear hw; clear hc5_ga_0 hc5_ga_1 hc5_ga_2 hc5_ga_3 hc5_go_0 hc5_go_1 hc5_go_2 hc5_go_3 hc5_go_4 hc5_go_5 hc5_go_6 hc5_go_7 hc5_go_8 fc5_go_0 fc5_go_1 fc5_go_2 fc5_go_3 fc5_go_4 fc5_go_5 fc5_go_6 fc5_go_7 fc5_go_8; have hc6_ga_0 : w10.cell? ⟨ga, 0, none⟩ = some (.int .i64 a0) := HR.out.cell 2 rfl 0 rfl; have hc6_ga_1 : w10.cell? ⟨ga, 1, none⟩ = some (.string a1) := HR.out.cell 2 rfl 1 rfl; have hc6_ga_2 : w10.cell? ⟨ga, 2, none⟩ = some (.int .i64 a2) := HR.out.cell 2 rfl 2 rfl; have hc6_ga_3 : w10.cell? ⟨ga, 3, none⟩ = some (.slice (some ad) 2 c) := HR.out.cell 2 rfl 3 rfl; have hc6_go_0 : w10.cell? ⟨go, 0, none⟩ = some (.int .i64 x.f0) := HR.out.cell 0 rfl 0 rfl; have hc6_go_1 : w10.cell? ⟨go, 1, none⟩ = some (.string x.f1) := HR.out.cell 0 rfl 1 rfl; have hc6_go_2 : w10.cell? ⟨go, 2, none⟩ = some (.int .i64 x.f2) := HR.out.cell 0 rfl 2 rfl; have hc6_go_3 : w10.cell? ⟨go, 3, none⟩ = some (.slice A3 x.f3.length c3) := HR.out.cell 0 rfl 3 rfl; have hc6_go_4 : w10.cell? ⟨go, 4, none⟩ = some (.int .i64 2) := HR.out.cell 0 rfl 4 rfl; have hc6_go_5 : w10.cell? ⟨go, 5, none⟩ = some (.string (⟨#[116, 114, 117, 101]⟩ : ByteArray)) := HR.out.cell 0 rfl 5 rfl; have hc6_go_6 : w10.cell? ⟨go, 6, none⟩ = some (.int .i64 0) := HR.out.cell 0 rfl 6 rfl; have hc6_go_7 : w10.cell? ⟨go, 7, none⟩ = some (.slice none 0 0) := HR.out.cell 0 rfl 7 rfl; have hc6_go_8 : w10.cell? ⟨go, 8, none⟩ = some (.string file) := HR.out.cell 0 rfl 8 rfl; have fc6_go_0 := HR.out.free 0 rfl 0; have fc6_go_1 := HR.out.free 0 rfl 1; have fc6_go_2 := HR.out.free 0 rfl 2; have fc6_go_3 := HR.out.free 0 rfl 3; have fc6_go_4 := HR.out.free 0 rfl 4; have fc6_go_5 := HR.out.free 0 rfl 5; have fc6_go_6 := HR.out.free 0 rfl 6; have fc6_go_7 := HR.out.free 0 rfl 7; have fc6_go_8 := HR.out.free 0 rfl 8; clear hx0 hx1 hx2 hx3; have hy0 := (HR.out.bel.cell (World.block_lt_of_cell? w _ HY0.out)).trans HY0.out; have hy1 := (HR.out.bel.cell (World.block_lt_of_cell? w _ HY1.out)).trans HY1.out; have hy2 := (HR.out.bel.cell (World.block_lt_of_cell? w _ HY2.out)).trans HY2.out; have hy3 := (HR.out.bel.cell (World.block_lt_of_cell? w _ HY3.out)).trans HY3.out)
    | ((with_reducible refine gate_store (t := 29) (p := 26) rfl ?_); refine store_event (t := 29) (p := 26) (v := ?vo_11) (w1 := w10.setCells go 4 [.int .i64 y.f0, .string y.f1, .int .i64 y.f2, .slice A7 y.f3.length c7]) ?hgs_11 ?hos_11 ?hns_11 ?hrs_11 ?_; (case hos_11 => rfl); (case hgs_11 => rfl); (case hns_11 => rfl); (case hrs_11 => first | (go_simp; done) | (go_simp; rfl)); intro w11 hw; have q_ := Aside0.mk (HR.out.seg 0 rfl 4 [.int .i64 y.f0, .string y.f1, .int .i64 y.f2, .slice A7 y.f3.length c7] (Nat.le_of_ble_eq_true rfl)); rw [← hw] at q_; clear HR; have HR := q_; clear q_; clear hw; clear hc6_ga_0 hc6_ga_1 hc6_ga_2 hc6_ga_3 hc6_go_0 hc6_go_1 hc6_go_2 hc6_go_3 hc6_go_4 hc6_go_5 hc6_go_6 hc6_go_7 hc6_go_8 fc6_go_0 fc6_go_1 fc6_go_2 fc6_go_3 fc6_go_4 fc6_go_5 fc6_go_6 fc6_go_7 fc6_go_8; have hc7_go_0 : w11.cell? ⟨go, 0, none⟩ = some (.int .i64 x.f0) := HR.out.cell 0 rfl 0 rfl; have hc7_go_1 : w11.cell? ⟨go, 1, none⟩ = some (.string x.f1) := HR.out.cell 0 rfl 1 rfl; have hc7_go_2 : w11.cell? ⟨go, 2, none⟩ = some (.int .i64 x.f2) := HR.out.cell 0 rfl 2 rfl; have hc7_go_3 : w11.cell? ⟨go, 3, none⟩ = some (.slice A3 x.f3.length c3) := HR.out.cell 0 rfl 3 rfl; have hc7_go_4 : w11.cell? ⟨go, 4, none⟩ = some (.int .i64 y.f0) := HR.out.cell 0 rfl 4 rfl; have hc7_go_5 : w11.cell? ⟨go, 5, none⟩ = some (.string y.f1) := HR.out.cell 0 rfl 5 rfl; have hc7_go_6 : w11.cell? ⟨go, 6, none⟩ = some (.int .i64 y.f2) := HR.out.cell 0 rfl 6 rfl; have hc7_go_7 : w11.cell? ⟨go, 7, none⟩ = some (.slice A7 y.f3.length c7) := HR.out.cell 0 rfl 7 rfl; have hc7_go_8 : w11.cell? ⟨go, 8, none⟩ = some (.string file) := HR.out.cell 0 rfl 8 rfl; have fc7_go_0 := HR.out.free 0 rfl 0; have fc7_go_1 := HR.out.free 0 rfl 1; have fc7_go_2 := HR.out.free 0 rfl 2; have fc7_go_3 := HR.out.free 0 rfl 3; have fc7_go_4 := HR.out.free 0 rfl 4; have fc7_go_5 := HR.out.free 0 rfl 5; have fc7_go_6 := HR.out.free 0 rfl 6; have fc7_go_7 := HR.out.free 0 rfl 7; have fc7_go_8 := HR.out.free 0 rfl 8; clear hy0 hy1 hy2 hy3)
    | ((with_reducible refine gate_dst (N := 33) rfl ?_); refine lit_event ?hg33 (N := 33) ?hd33 (cs := #[.int .i64 y.f0, .string y.f1, .int .i64 y.f2, .slice A7 y.f3.length c7]) (t := 29) (n := 1) ?hr33 ?_; (case hd33 => rfl); (case hg33 => rfl); (case hr33 => first | (go_simp; done) | (go_simp; rfl)); intro gl hg w12 hbox hb; have q_ := Aside0.mk (HR.out.box hg hb hbox); clear HR; have HR := q_; clear q_; clear hg hbox hb; clear hc7_go_0 hc7_go_1 hc7_go_2 hc7_go_3 hc7_go_4 hc7_go_5 hc7_go_6 hc7_go_7 hc7_go_8 fc7_go_0 fc7_go_1 fc7_go_2 fc7_go_3 fc7_go_4 fc7_go_5 fc7_go_6 fc7_go_7 fc7_go_8; have hc8_go_0 : w12.cell? ⟨go, 0, none⟩ = some (.int .i64 x.f0) := HR.out.cell 1 rfl 0 rfl; have hc8_go_1 : w12.cell? ⟨go, 1, none⟩ = some (.string x.f1) := HR.out.cell 1 rfl 1 rfl; have hc8_go_2 : w12.cell? ⟨go, 2, none⟩ = some (.int .i64 x.f2) := HR.out.cell 1 rfl 2 rfl; have hc8_go_3 : w12.cell? ⟨go, 3, none⟩ = some (.slice A3 x.f3.length c3) := HR.out.cell 1 rfl 3 rfl; have hc8_go_4 : w12.cell? ⟨go, 4, none⟩ = some (.int .i64 y.f0) := HR.out.cell 1 rfl 4 rfl; have hc8_go_5 : w12.cell? ⟨go, 5, none⟩ = some (.string y.f1) := HR.out.cell 1 rfl 5 rfl; have hc8_go_6 : w12.cell? ⟨go, 6, none⟩ = some (.int .i64 y.f2) := HR.out.cell 1 rfl 6 rfl; have hc8_go_7 : w12.cell? ⟨go, 7, none⟩ = some (.slice A7 y.f3.length c7) := HR.out.cell 1 rfl 7 rfl; have hc8_go_8 : w12.cell? ⟨go, 8, none⟩ = some (.string file) := HR.out.cell 1 rfl 8 rfl; have fc8_go_0 := HR.out.free 1 rfl 0; have fc8_go_1 := HR.out.free 1 rfl 1; have fc8_go_2 := HR.out.free 1 rfl 2; have fc8_go_3 := HR.out.free 1 rfl 3; have fc8_go_4 := HR.out.free 1 rfl 4; have fc8_go_5 := HR.out.free 1 rfl 5; have fc8_go_6 := HR.out.free 1 rfl 6; have fc8_go_7 := HR.out.free 1 rfl 7; have fc8_go_8 := HR.out.free 1 rfl 8)
    | ((with_reducible refine gate_store (t := 29) (p := 35) rfl ?_); refine store_event (t := 29) (p := 35) (v := ?vo_12) (w1 := w12.setCells go 4 [.int .i64 4, .string (⟨#[99, 97, 108, 108]⟩ : ByteArray), .int .i64 0, .slice (some ⟨gl, 0, none⟩) 1 1]) ?hgs_12 ?hos_12 ?hns_12 ?hrs_12 ?_; (case hos_12 => rfl); (case hgs_12 => rfl); (case hns_12 => rfl); (case hrs_12 => first | (go_simp; done) | (go_simp; rfl)); intro w13 hw; have q_ := Aside0.mk (HR.out.seg 1 rfl 4 [.int .i64 4, .string (⟨#[99, 97, 108, 108]⟩ : ByteArray), .int .i64 0, .slice (some ⟨gl, 0, none⟩) 1 1] (Nat.le_of_ble_eq_true rfl)); rw [← hw] at q_; clear HR; have HR := q_; clear q_; clear hw; clear hc8_go_0 hc8_go_1 hc8_go_2 hc8_go_3 hc8_go_4 hc8_go_5 hc8_go_6 hc8_go_7 hc8_go_8 fc8_go_0 fc8_go_1 fc8_go_2 fc8_go_3 fc8_go_4 fc8_go_5 fc8_go_6 fc8_go_7 fc8_go_8; have hc9_go_0 : w13.cell? ⟨go, 0, none⟩ = some (.int .i64 x.f0) := HR.out.cell 1 rfl 0 rfl; have hc9_go_1 : w13.cell? ⟨go, 1, none⟩ = some (.string x.f1) := HR.out.cell 1 rfl 1 rfl; have hc9_go_2 : w13.cell? ⟨go, 2, none⟩ = some (.int .i64 x.f2) := HR.out.cell 1 rfl 2 rfl; have hc9_go_3 : w13.cell? ⟨go, 3, none⟩ = some (.slice A3 x.f3.length c3) := HR.out.cell 1 rfl 3 rfl; have hc9_go_4 : w13.cell? ⟨go, 4, none⟩ = some (.int .i64 4) := HR.out.cell 1 rfl 4 rfl; have hc9_go_5 : w13.cell? ⟨go, 5, none⟩ = some (.string (⟨#[99, 97, 108, 108]⟩ : ByteArray)) := HR.out.cell 1 rfl 5 rfl; have hc9_go_6 : w13.cell? ⟨go, 6, none⟩ = some (.int .i64 0) := HR.out.cell 1 rfl 6 rfl; have hc9_go_7 : w13.cell? ⟨go, 7, none⟩ = some (.slice (some ⟨gl, 0, none⟩) 1 1) := HR.out.cell 1 rfl 7 rfl; have hc9_go_8 : w13.cell? ⟨go, 8, none⟩ = some (.string file) := HR.out.cell 1 rfl 8 rfl)
    | (go_at_call 87; with_reducible refine (H3.out w13 A3 c3 HR.out.bel (Kd.C_below HI3.out HR.out.bel) HL3.out).mono ?_; rintro e w14 ⟨rfl, hb⟩; have q_ := Aside0.mk (HR.out.step hb); clear HR; have HR := q_; clear q_; clear hb; clear hc9_go_0 hc9_go_1 hc9_go_2 hc9_go_3 hc9_go_4 hc9_go_5 hc9_go_6 hc9_go_7 hc9_go_8; have hc10_go_0 : w14.cell? ⟨go, 0, none⟩ = some (.int .i64 x.f0) := HR.out.cell 1 rfl 0 rfl; have hc10_go_1 : w14.cell? ⟨go, 1, none⟩ = some (.string x.f1) := HR.out.cell 1 rfl 1 rfl; have hc10_go_2 : w14.cell? ⟨go, 2, none⟩ = some (.int .i64 x.f2) := HR.out.cell 1 rfl 2 rfl; have hc10_go_3 : w14.cell? ⟨go, 3, none⟩ = some (.slice A3 x.f3.length c3) := HR.out.cell 1 rfl 3 rfl; have hc10_go_4 : w14.cell? ⟨go, 4, none⟩ = some (.int .i64 4) := HR.out.cell 1 rfl 4 rfl; have hc10_go_5 : w14.cell? ⟨go, 5, none⟩ = some (.string (⟨#[99, 97, 108, 108]⟩ : ByteArray)) := HR.out.cell 1 rfl 5 rfl; have hc10_go_6 : w14.cell? ⟨go, 6, none⟩ = some (.int .i64 0) := HR.out.cell 1 rfl 6 rfl; have hc10_go_7 : w14.cell? ⟨go, 7, none⟩ = some (.slice (some ⟨gl, 0, none⟩) 1 1) := HR.out.cell 1 rfl 7 rfl; have hc10_go_8 : w14.cell? ⟨go, 8, none⟩ = some (.string file) := HR.out.cell 1 rfl 8 rfl)
    | (go_at_call 86; have hl_ := lit1 (HR.out.has 0 rfl).2 HL7.out (Kd.C_below HI7.out HR.out.bel); with_reducible refine (H4.out w14 gl hl_).mono ?_; rintro e w15 ⟨rfl, hb⟩; clear hl_; have q_ := Aside0.mk (HR.out.step hb); clear HR; have HR := q_; clear q_; clear hb; clear hc10_go_0 hc10_go_1 hc10_go_2 hc10_go_3 hc10_go_4 hc10_go_5 hc10_go_6 hc10_go_7 hc10_go_8; have hc11_go_0 : w15.cell? ⟨go, 0, none⟩ = some (.int .i64 x.f0) := HR.out.cell 1 rfl 0 rfl; have hc11_go_1 : w15.cell? ⟨go, 1, none⟩ = some (.string x.f1) := HR.out.cell 1 rfl 1 rfl; have hc11_go_2 : w15.cell? ⟨go, 2, none⟩ = some (.int .i64 x.f2) := HR.out.cell 1 rfl 2 rfl; have hc11_go_3 : w15.cell? ⟨go, 3, none⟩ = some (.slice A3 x.f3.length c3) := HR.out.cell 1 rfl 3 rfl; have hc11_go_4 : w15.cell? ⟨go, 4, none⟩ = some (.int .i64 4) := HR.out.cell 1 rfl 4 rfl; have hc11_go_5 : w15.cell? ⟨go, 5, none⟩ = some (.string (⟨#[99, 97, 108, 108]⟩ : ByteArray)) := HR.out.cell 1 rfl 5 rfl; have hc11_go_6 : w15.cell? ⟨go, 6, none⟩ = some (.int .i64 0) := HR.out.cell 1 rfl 6 rfl; have hc11_go_7 : w15.cell? ⟨go, 7, none⟩ = some (.slice (some ⟨gl, 0, none⟩) 1 1) := HR.out.cell 1 rfl 7 rfl; have hc11_go_8 : w15.cell? ⟨go, 8, none⟩ = some (.string file) := HR.out.cell 1 rfl 8 rfl; have hc11_gr_0 : w15.cell? ⟨gr, 0, none⟩ = some (.int .i64 0) := HR.out.cell 2 rfl 0 rfl; have hc11_gr_1 : w15.cell? ⟨gr, 1, none⟩ = some (.string (⟨#[]⟩ : ByteArray)) := HR.out.cell 2 rfl 1 rfl; have hc11_gr_2 : w15.cell? ⟨gr, 2, none⟩ = some (.int .i64 0) := HR.out.cell 2 rfl 2 rfl; have hc11_gr_3 : w15.cell? ⟨gr, 3, none⟩ = some (.slice none 0 0) := HR.out.cell 2 rfl 3 rfl; have hc11_gr_4 : w15.cell? ⟨gr, 4, none⟩ = some (.int .i64 0) := HR.out.cell 2 rfl 4 rfl; have hc11_gr_5 : w15.cell? ⟨gr, 5, none⟩ = some (.string (⟨#[]⟩ : ByteArray)) := HR.out.cell 2 rfl 5 rfl; have hc11_gr_6 : w15.cell? ⟨gr, 6, none⟩ = some (.int .i64 0) := HR.out.cell 2 rfl 6 rfl; have hc11_gr_7 : w15.cell? ⟨gr, 7, none⟩ = some (.slice none 0 0) := HR.out.cell 2 rfl 7 rfl; have hc11_gr_8 : w15.cell? ⟨gr, 8, none⟩ = some (.string (⟨#[]⟩ : ByteArray)) := HR.out.cell 2 rfl 8 rfl; have fc11_gr_0 := HR.out.free 2 rfl 0; have fc11_gr_1 := HR.out.free 2 rfl 1; have fc11_gr_2 := HR.out.free 2 rfl 2; have fc11_gr_3 := HR.out.free 2 rfl 3; have fc11_gr_4 := HR.out.free 2 rfl 4; have fc11_gr_5 := HR.out.free 2 rfl 5; have fc11_gr_6 := HR.out.free 2 rfl 6; have fc11_gr_7 := HR.out.free 2 rfl 7; have fc11_gr_8 := HR.out.free 2 rfl 8)
    | ((with_reducible refine gate_store (t := 48) (p := 4) rfl ?_); refine store_event (t := 48) (p := 4) (v := ?vo_13) (w1 := w15.setCells gr 0 [.int .i64 x.f0, .string x.f1, .int .i64 x.f2, .slice A3 x.f3.length c3, .int .i64 4, .string (⟨#[99, 97, 108, 108]⟩ : ByteArray), .int .i64 0, .slice (some ⟨gl, 0, none⟩) 1 1, .string file]) ?hgs_13 ?hos_13 ?hns_13 ?hrs_13 ?_; (case hos_13 => rfl); (case hgs_13 => rfl); (case hns_13 => rfl); (case hrs_13 => first | (go_simp; done) | (go_simp; rfl)); intro w16 hw; have q_ := Aside0.mk (hw ▸ HR.out.store 2 rfl [.int .i64 x.f0, .string x.f1, .int .i64 x.f2, .slice A3 x.f3.length c3, .int .i64 4, .string (⟨#[99, 97, 108, 108]⟩ : ByteArray), .int .i64 0, .slice (some ⟨gl, 0, none⟩) 1 1, .string file] rfl); clear HR; have HR := q_; clear q_; clear hw; clear hc11_go_0 hc11_go_1 hc11_go_2 hc11_go_3 hc11_go_4 hc11_go_5 hc11_go_6 hc11_go_7 hc11_go_8 hc11_gr_0 hc11_gr_1 hc11_gr_2 hc11_gr_3 hc11_gr_4 hc11_gr_5 hc11_gr_6 hc11_gr_7 hc11_gr_8 fc11_gr_0 fc11_gr_1 fc11_gr_2 fc11_gr_3 fc11_gr_4 fc11_gr_5 fc11_gr_6 fc11_gr_7 fc11_gr_8))
   refine bodyPost_ret (results_ct rfl _ _ gr 48 #[.int .i64 x.f0,.string x.f1,.int .i64 x.f2,.slice A3 x.f3.length c3,.int .i64 4,.string (⟨#[99,97,108,108]⟩ : ByteArray),.int .i64 0,.slice (some ⟨gl,0,none⟩) 1 1,.string file] (0,0) _ rfl (HR.out.has 2 rfl).2 Tryd.underlying48 rfl (by kernel_rfl)) rfl ?_
   exact (show MadeCR (⟨x,(⟨4,(⟨#[99,97,108,108]⟩ : ByteArray),0,[y]⟩ : S29),file⟩ : S48) true w _ _ from ⟨A3,c3,some ⟨gl,0,none⟩,1,rfl,⟨HL3.out,(Kd.C_below HI3.out HR.out.bel),(Nat.le_refl _),(lit1 (HR.out.has 0 rfl).2 HL7.out (Kd.C_below HI7.out HR.out.bel))⟩,HR.out.bel⟩)
  ·skip
   go_wp2_with (first
    | (go_at_call 90; with_reducible refine (H2.out w8 HR.out.bel).mono ?_; rintro e w9 ⟨rfl, hb⟩; have q_ := Aside0.mk (HR.out.step hb); clear HR; have HR := q_; clear q_; clear hb; clear hc4_ga_0 hc4_ga_1 hc4_ga_2 hc4_ga_3; have hc5_ga_0 : w9.cell? ⟨ga, 0, none⟩ = some (.int .i64 a0) := HR.out.cell 2 rfl 0 rfl; have hc5_ga_1 : w9.cell? ⟨ga, 1, none⟩ = some (.string a1) := HR.out.cell 2 rfl 1 rfl; have hc5_ga_2 : w9.cell? ⟨ga, 2, none⟩ = some (.int .i64 a2) := HR.out.cell 2 rfl 2 rfl; have hc5_ga_3 : w9.cell? ⟨ga, 3, none⟩ = some (.slice (some ad) 2 c) := HR.out.cell 2 rfl 3 rfl; have hc5_go_0 : w9.cell? ⟨go, 0, none⟩ = some (.int .i64 a0) := HR.out.cell 0 rfl 0 rfl; have hc5_go_1 : w9.cell? ⟨go, 1, none⟩ = some (.string a1) := HR.out.cell 0 rfl 1 rfl; have hc5_go_2 : w9.cell? ⟨go, 2, none⟩ = some (.int .i64 a2) := HR.out.cell 0 rfl 2 rfl; have hc5_go_3 : w9.cell? ⟨go, 3, none⟩ = some (.slice (some ad) 2 c) := HR.out.cell 0 rfl 3 rfl; have hc5_go_4 : w9.cell? ⟨go, 4, none⟩ = some (.int .i64 2) := HR.out.cell 0 rfl 4 rfl; have hc5_go_5 : w9.cell? ⟨go, 5, none⟩ = some (.string (⟨#[116, 114, 117, 101]⟩ : ByteArray)) := HR.out.cell 0 rfl 5 rfl; have hc5_go_6 : w9.cell? ⟨go, 6, none⟩ = some (.int .i64 0) := HR.out.cell 0 rfl 6 rfl; have hc5_go_7 : w9.cell? ⟨go, 7, none⟩ = some (.slice none 0 0) := HR.out.cell 0 rfl 7 rfl; have hc5_go_8 : w9.cell? ⟨go, 8, none⟩ = some (.string file) := HR.out.cell 0 rfl 8 rfl; have fc5_go_0 := HR.out.free 0 rfl 0; have fc5_go_1 := HR.out.free 0 rfl 1; have fc5_go_2 := HR.out.free 0 rfl 2; have fc5_go_3 := HR.out.free 0 rfl 3; have fc5_go_4 := HR.out.free 0 rfl 4; have fc5_go_5 := HR.out.free 0 rfl 5; have fc5_go_6 := HR.out.free 0 rfl 6; have fc5_go_7 := HR.out.free 0 rfl 7; have fc5_go_8 := HR.out.free 0 rfl 8; have hx0 := (HR.out.bel.cell (World.block_lt_of_cell? w _ HX0.out)).trans HX0.out; have hx1 := (HR.out.bel.cell (World.block_lt_of_cell? w _ HX1.out)).trans HX1.out; have hx2 := (HR.out.bel.cell (World.block_lt_of_cell? w _ HX2.out)).trans HX2.out; have hx3 := (HR.out.bel.cell (World.block_lt_of_cell? w _ HX3.out)).trans HX3.out)
    | ((with_reducible refine gate_store (t := 29) (p := 21) rfl ?_); refine store_event (t := 29) (p := 21) (v := ?vo_10) (w1 := w9.setCells go 0 [.int .i64 x.f0, .string x.f1, .int .i64 x.f2, .slice A3 x.f3.length c3]) ?hgs_10 ?hos_10 ?hns_10 ?hrs_10 ?_; (case hos_10 => rfl); (case hgs_10 => rfl); (case hns_10 => rfl); (case hrs_10 => first | (go_simp; done) | (go_simp; rfl)); intro w10 hw; have q_ := Aside0.mk (HR.out.seg 0 rfl 0 [.int .i64 x.f0, .string x.f1, .int .i64 x.f2, .slice A3 x.f3.length c3] (Nat.le_of_ble_eq_true rfl)); rw [← hw] at q_; clear HR; have HR := q_; clear q_; clear hw; clear hc5_ga_0 hc5_ga_1 hc5_ga_2 hc5_ga_3 hc5_go_0 hc5_go_1 hc5_go_2 hc5_go_3 hc5_go_4 hc5_go_5 hc5_go_6 hc5_go_7 hc5_go_8 fc5_go_0 fc5_go_1 fc5_go_2 fc5_go_3 fc5_go_4 fc5_go_5 fc5_go_6 fc5_go_7 fc5_go_8; have hc6_ga_0 : w10.cell? ⟨ga, 0, none⟩ = some (.int .i64 a0) := HR.out.cell 2 rfl 0 rfl; have hc6_ga_1 : w10.cell? ⟨ga, 1, none⟩ = some (.string a1) := HR.out.cell 2 rfl 1 rfl; have hc6_ga_2 : w10.cell? ⟨ga, 2, none⟩ = some (.int .i64 a2) := HR.out.cell 2 rfl 2 rfl; have hc6_ga_3 : w10.cell? ⟨ga, 3, none⟩ = some (.slice (some ad) 2 c) := HR.out.cell 2 rfl 3 rfl; have hc6_go_0 : w10.cell? ⟨go, 0, none⟩ = some (.int .i64 x.f0) := HR.out.cell 0 rfl 0 rfl; have hc6_go_1 : w10.cell? ⟨go, 1, none⟩ = some (.string x.f1) := HR.out.cell 0 rfl 1 rfl; have hc6_go_2 : w10.cell? ⟨go, 2, none⟩ = some (.int .i64 x.f2) := HR.out.cell 0 rfl 2 rfl; have hc6_go_3 : w10.cell? ⟨go, 3, none⟩ = some (.slice A3 x.f3.length c3) := HR.out.cell 0 rfl 3 rfl; have hc6_go_4 : w10.cell? ⟨go, 4, none⟩ = some (.int .i64 2) := HR.out.cell 0 rfl 4 rfl; have hc6_go_5 : w10.cell? ⟨go, 5, none⟩ = some (.string (⟨#[116, 114, 117, 101]⟩ : ByteArray)) := HR.out.cell 0 rfl 5 rfl; have hc6_go_6 : w10.cell? ⟨go, 6, none⟩ = some (.int .i64 0) := HR.out.cell 0 rfl 6 rfl; have hc6_go_7 : w10.cell? ⟨go, 7, none⟩ = some (.slice none 0 0) := HR.out.cell 0 rfl 7 rfl; have hc6_go_8 : w10.cell? ⟨go, 8, none⟩ = some (.string file) := HR.out.cell 0 rfl 8 rfl; have fc6_go_0 := HR.out.free 0 rfl 0; have fc6_go_1 := HR.out.free 0 rfl 1; have fc6_go_2 := HR.out.free 0 rfl 2; have fc6_go_3 := HR.out.free 0 rfl 3; have fc6_go_4 := HR.out.free 0 rfl 4; have fc6_go_5 := HR.out.free 0 rfl 5; have fc6_go_6 := HR.out.free 0 rfl 6; have fc6_go_7 := HR.out.free 0 rfl 7; have fc6_go_8 := HR.out.free 0 rfl 8; clear hx0 hx1 hx2 hx3; have hy0 := (HR.out.bel.cell (World.block_lt_of_cell? w _ HY0.out)).trans HY0.out; have hy1 := (HR.out.bel.cell (World.block_lt_of_cell? w _ HY1.out)).trans HY1.out; have hy2 := (HR.out.bel.cell (World.block_lt_of_cell? w _ HY2.out)).trans HY2.out; have hy3 := (HR.out.bel.cell (World.block_lt_of_cell? w _ HY3.out)).trans HY3.out)
    | ((with_reducible refine gate_store (t := 29) (p := 26) rfl ?_); refine store_event (t := 29) (p := 26) (v := ?vo_11) (w1 := w10.setCells go 4 [.int .i64 y.f0, .string y.f1, .int .i64 y.f2, .slice A7 y.f3.length c7]) ?hgs_11 ?hos_11 ?hns_11 ?hrs_11 ?_; (case hos_11 => rfl); (case hgs_11 => rfl); (case hns_11 => rfl); (case hrs_11 => first | (go_simp; done) | (go_simp; rfl)); intro w11 hw; have q_ := Aside0.mk (HR.out.seg 0 rfl 4 [.int .i64 y.f0, .string y.f1, .int .i64 y.f2, .slice A7 y.f3.length c7] (Nat.le_of_ble_eq_true rfl)); rw [← hw] at q_; clear HR; have HR := q_; clear q_; clear hw; clear hc6_ga_0 hc6_ga_1 hc6_ga_2 hc6_ga_3 hc6_go_0 hc6_go_1 hc6_go_2 hc6_go_3 hc6_go_4 hc6_go_5 hc6_go_6 hc6_go_7 hc6_go_8 fc6_go_0 fc6_go_1 fc6_go_2 fc6_go_3 fc6_go_4 fc6_go_5 fc6_go_6 fc6_go_7 fc6_go_8; have hc7_go_0 : w11.cell? ⟨go, 0, none⟩ = some (.int .i64 x.f0) := HR.out.cell 0 rfl 0 rfl; have hc7_go_1 : w11.cell? ⟨go, 1, none⟩ = some (.string x.f1) := HR.out.cell 0 rfl 1 rfl; have hc7_go_2 : w11.cell? ⟨go, 2, none⟩ = some (.int .i64 x.f2) := HR.out.cell 0 rfl 2 rfl; have hc7_go_3 : w11.cell? ⟨go, 3, none⟩ = some (.slice A3 x.f3.length c3) := HR.out.cell 0 rfl 3 rfl; have hc7_go_4 : w11.cell? ⟨go, 4, none⟩ = some (.int .i64 y.f0) := HR.out.cell 0 rfl 4 rfl; have hc7_go_5 : w11.cell? ⟨go, 5, none⟩ = some (.string y.f1) := HR.out.cell 0 rfl 5 rfl; have hc7_go_6 : w11.cell? ⟨go, 6, none⟩ = some (.int .i64 y.f2) := HR.out.cell 0 rfl 6 rfl; have hc7_go_7 : w11.cell? ⟨go, 7, none⟩ = some (.slice A7 y.f3.length c7) := HR.out.cell 0 rfl 7 rfl; have hc7_go_8 : w11.cell? ⟨go, 8, none⟩ = some (.string file) := HR.out.cell 0 rfl 8 rfl; have fc7_go_0 := HR.out.free 0 rfl 0; have fc7_go_1 := HR.out.free 0 rfl 1; have fc7_go_2 := HR.out.free 0 rfl 2; have fc7_go_3 := HR.out.free 0 rfl 3; have fc7_go_4 := HR.out.free 0 rfl 4; have fc7_go_5 := HR.out.free 0 rfl 5; have fc7_go_6 := HR.out.free 0 rfl 6; have fc7_go_7 := HR.out.free 0 rfl 7; have fc7_go_8 := HR.out.free 0 rfl 8; clear hy0 hy1 hy2 hy3)
    | ((with_reducible refine gate_dst (N := 33) rfl ?_); refine lit_event ?hg33 (N := 33) ?hd33 (cs := #[.int .i64 y.f0, .string y.f1, .int .i64 y.f2, .slice A7 y.f3.length c7]) (t := 29) (n := 1) ?hr33 ?_; (case hd33 => rfl); (case hg33 => rfl); (case hr33 => first | (go_simp; done) | (go_simp; rfl)); intro gl hg w12 hbox hb; have q_ := Aside0.mk (HR.out.box hg hb hbox); clear HR; have HR := q_; clear q_; clear hg hbox hb; clear hc7_go_0 hc7_go_1 hc7_go_2 hc7_go_3 hc7_go_4 hc7_go_5 hc7_go_6 hc7_go_7 hc7_go_8 fc7_go_0 fc7_go_1 fc7_go_2 fc7_go_3 fc7_go_4 fc7_go_5 fc7_go_6 fc7_go_7 fc7_go_8; have hc8_go_0 : w12.cell? ⟨go, 0, none⟩ = some (.int .i64 x.f0) := HR.out.cell 1 rfl 0 rfl; have hc8_go_1 : w12.cell? ⟨go, 1, none⟩ = some (.string x.f1) := HR.out.cell 1 rfl 1 rfl; have hc8_go_2 : w12.cell? ⟨go, 2, none⟩ = some (.int .i64 x.f2) := HR.out.cell 1 rfl 2 rfl; have hc8_go_3 : w12.cell? ⟨go, 3, none⟩ = some (.slice A3 x.f3.length c3) := HR.out.cell 1 rfl 3 rfl; have hc8_go_4 : w12.cell? ⟨go, 4, none⟩ = some (.int .i64 y.f0) := HR.out.cell 1 rfl 4 rfl; have hc8_go_5 : w12.cell? ⟨go, 5, none⟩ = some (.string y.f1) := HR.out.cell 1 rfl 5 rfl; have hc8_go_6 : w12.cell? ⟨go, 6, none⟩ = some (.int .i64 y.f2) := HR.out.cell 1 rfl 6 rfl; have hc8_go_7 : w12.cell? ⟨go, 7, none⟩ = some (.slice A7 y.f3.length c7) := HR.out.cell 1 rfl 7 rfl; have hc8_go_8 : w12.cell? ⟨go, 8, none⟩ = some (.string file) := HR.out.cell 1 rfl 8 rfl; have fc8_go_0 := HR.out.free 1 rfl 0; have fc8_go_1 := HR.out.free 1 rfl 1; have fc8_go_2 := HR.out.free 1 rfl 2; have fc8_go_3 := HR.out.free 1 rfl 3; have fc8_go_4 := HR.out.free 1 rfl 4; have fc8_go_5 := HR.out.free 1 rfl 5; have fc8_go_6 := HR.out.free 1 rfl 6; have fc8_go_7 := HR.out.free 1 rfl 7; have fc8_go_8 := HR.out.free 1 rfl 8)
    | ((with_reducible refine gate_store (t := 29) (p := 35) rfl ?_); refine store_event (t := 29) (p := 35) (v := ?vo_12) (w1 := w12.setCells go 4 [.int .i64 4, .string (⟨#[99, 97, 108, 108]⟩ : ByteArray), .int .i64 0, .slice (some ⟨gl, 0, none⟩) 1 1]) ?hgs_12 ?hos_12 ?hns_12 ?hrs_12 ?_; (case hos_12 => rfl); (case hgs_12 => rfl); (case hns_12 => rfl); (case hrs_12 => first | (go_simp; done) | (go_simp; rfl)); intro w13 hw; have q_ := Aside0.mk (HR.out.seg 1 rfl 4 [.int .i64 4, .string (⟨#[99, 97, 108, 108]⟩ : ByteArray), .int .i64 0, .slice (some ⟨gl, 0, none⟩) 1 1] (Nat.le_of_ble_eq_true rfl)); rw [← hw] at q_; clear HR; have HR := q_; clear q_; clear hw; clear hc8_go_0 hc8_go_1 hc8_go_2 hc8_go_3 hc8_go_4 hc8_go_5 hc8_go_6 hc8_go_7 hc8_go_8 fc8_go_0 fc8_go_1 fc8_go_2 fc8_go_3 fc8_go_4 fc8_go_5 fc8_go_6 fc8_go_7 fc8_go_8; have hc9_go_0 : w13.cell? ⟨go, 0, none⟩ = some (.int .i64 x.f0) := HR.out.cell 1 rfl 0 rfl; have hc9_go_1 : w13.cell? ⟨go, 1, none⟩ = some (.string x.f1) := HR.out.cell 1 rfl 1 rfl; have hc9_go_2 : w13.cell? ⟨go, 2, none⟩ = some (.int .i64 x.f2) := HR.out.cell 1 rfl 2 rfl; have hc9_go_3 : w13.cell? ⟨go, 3, none⟩ = some (.slice A3 x.f3.length c3) := HR.out.cell 1 rfl 3 rfl; have hc9_go_4 : w13.cell? ⟨go, 4, none⟩ = some (.int .i64 4) := HR.out.cell 1 rfl 4 rfl; have hc9_go_5 : w13.cell? ⟨go, 5, none⟩ = some (.string (⟨#[99, 97, 108, 108]⟩ : ByteArray)) := HR.out.cell 1 rfl 5 rfl; have hc9_go_6 : w13.cell? ⟨go, 6, none⟩ = some (.int .i64 0) := HR.out.cell 1 rfl 6 rfl; have hc9_go_7 : w13.cell? ⟨go, 7, none⟩ = some (.slice (some ⟨gl, 0, none⟩) 1 1) := HR.out.cell 1 rfl 7 rfl; have hc9_go_8 : w13.cell? ⟨go, 8, none⟩ = some (.string file) := HR.out.cell 1 rfl 8 rfl)
    | (go_at_call 87; with_reducible refine (H3.out w13 A3 c3 HR.out.bel (Kd.C_below HI3.out HR.out.bel) HL3.out).mono ?_; rintro e w14 ⟨rfl, hb⟩; have q_ := Aside0.mk (HR.out.step hb); clear HR; have HR := q_; clear q_; clear hb; clear hc9_go_0 hc9_go_1 hc9_go_2 hc9_go_3 hc9_go_4 hc9_go_5 hc9_go_6 hc9_go_7 hc9_go_8; have hc10_go_0 : w14.cell? ⟨go, 0, none⟩ = some (.int .i64 x.f0) := HR.out.cell 1 rfl 0 rfl; have hc10_go_1 : w14.cell? ⟨go, 1, none⟩ = some (.string x.f1) := HR.out.cell 1 rfl 1 rfl; have hc10_go_2 : w14.cell? ⟨go, 2, none⟩ = some (.int .i64 x.f2) := HR.out.cell 1 rfl 2 rfl; have hc10_go_3 : w14.cell? ⟨go, 3, none⟩ = some (.slice A3 x.f3.length c3) := HR.out.cell 1 rfl 3 rfl; have hc10_go_4 : w14.cell? ⟨go, 4, none⟩ = some (.int .i64 4) := HR.out.cell 1 rfl 4 rfl; have hc10_go_5 : w14.cell? ⟨go, 5, none⟩ = some (.string (⟨#[99, 97, 108, 108]⟩ : ByteArray)) := HR.out.cell 1 rfl 5 rfl; have hc10_go_6 : w14.cell? ⟨go, 6, none⟩ = some (.int .i64 0) := HR.out.cell 1 rfl 6 rfl; have hc10_go_7 : w14.cell? ⟨go, 7, none⟩ = some (.slice (some ⟨gl, 0, none⟩) 1 1) := HR.out.cell 1 rfl 7 rfl; have hc10_go_8 : w14.cell? ⟨go, 8, none⟩ = some (.string file) := HR.out.cell 1 rfl 8 rfl)
    | (go_at_call 86; have hl_ := lit1 (HR.out.has 0 rfl).2 HL7.out (Kd.C_below HI7.out HR.out.bel); with_reducible refine (H4.out w14 gl hl_).mono ?_; rintro e w15 ⟨rfl, hb⟩; clear hl_; have q_ := Aside0.mk (HR.out.step hb); clear HR; have HR := q_; clear q_; clear hb; clear hc10_go_0 hc10_go_1 hc10_go_2 hc10_go_3 hc10_go_4 hc10_go_5 hc10_go_6 hc10_go_7 hc10_go_8; have hc11_gr_0 : w15.cell? ⟨gr, 0, none⟩ = some (.int .i64 0) := HR.out.cell 2 rfl 0 rfl; have hc11_gr_1 : w15.cell? ⟨gr, 1, none⟩ = some (.string (⟨#[]⟩ : ByteArray)) := HR.out.cell 2 rfl 1 rfl; have hc11_gr_2 : w15.cell? ⟨gr, 2, none⟩ = some (.int .i64 0) := HR.out.cell 2 rfl 2 rfl; have hc11_gr_3 : w15.cell? ⟨gr, 3, none⟩ = some (.slice none 0 0) := HR.out.cell 2 rfl 3 rfl; have hc11_gr_4 : w15.cell? ⟨gr, 4, none⟩ = some (.int .i64 0) := HR.out.cell 2 rfl 4 rfl; have hc11_gr_5 : w15.cell? ⟨gr, 5, none⟩ = some (.string (⟨#[]⟩ : ByteArray)) := HR.out.cell 2 rfl 5 rfl; have hc11_gr_6 : w15.cell? ⟨gr, 6, none⟩ = some (.int .i64 0) := HR.out.cell 2 rfl 6 rfl; have hc11_gr_7 : w15.cell? ⟨gr, 7, none⟩ = some (.slice none 0 0) := HR.out.cell 2 rfl 7 rfl; have hc11_gr_8 : w15.cell? ⟨gr, 8, none⟩ = some (.string (⟨#[]⟩ : ByteArray)) := HR.out.cell 2 rfl 8 rfl; have fc11_gr_0 := HR.out.free 2 rfl 0; have fc11_gr_1 := HR.out.free 2 rfl 1; have fc11_gr_2 := HR.out.free 2 rfl 2; have fc11_gr_3 := HR.out.free 2 rfl 3; have fc11_gr_4 := HR.out.free 2 rfl 4; have fc11_gr_5 := HR.out.free 2 rfl 5; have fc11_gr_6 := HR.out.free 2 rfl 6; have fc11_gr_7 := HR.out.free 2 rfl 7; have fc11_gr_8 := HR.out.free 2 rfl 8)
    | ((with_reducible refine gate_store (t := 48) (p := 4) rfl ?_); refine store_event (t := 48) (p := 4) (v := ?vo_14) (w1 := w15.setCells gr 0 [.int .i64 0, .string (⟨#[]⟩ : ByteArray), .int .i64 0, .slice none 0 0, .int .i64 0, .string (⟨#[]⟩ : ByteArray), .int .i64 0, .slice none 0 0, .string (⟨#[]⟩ : ByteArray)]) ?hgs_14 ?hos_14 ?hns_14 ?hrs_14 ?_; (case hos_14 => rfl); (case hgs_14 => rfl); (case hns_14 => rfl); (case hrs_14 => first | (go_simp; done) | (go_simp; rfl)); intro w16 hw; have q_ := Aside0.mk (hw ▸ HR.out.store 2 rfl [.int .i64 0, .string (⟨#[]⟩ : ByteArray), .int .i64 0, .slice none 0 0, .int .i64 0, .string (⟨#[]⟩ : ByteArray), .int .i64 0, .slice none 0 0, .string (⟨#[]⟩ : ByteArray)] rfl); clear HR; have HR := q_; clear q_; clear hw; clear hc11_gr_0 hc11_gr_1 hc11_gr_2 hc11_gr_3 hc11_gr_4 hc11_gr_5 hc11_gr_6 hc11_gr_7 hc11_gr_8 fc11_gr_0 fc11_gr_1 fc11_gr_2 fc11_gr_3 fc11_gr_4 fc11_gr_5 fc11_gr_6 fc11_gr_7 fc11_gr_8))
   refine bodyPost_ret (results_ct rfl _ _ gr 48 #[.int .i64 0,.string (⟨#[]⟩ : ByteArray),.int .i64 0,.slice none 0 0,.int .i64 0,.string (⟨#[]⟩ : ByteArray),.int .i64 0,.slice none 0 0,.string (⟨#[]⟩ : ByteArray)] (0,0) _ rfl (HR.out.has 2 rfl).2 Tryd.underlying48 rfl (by kernel_rfl)) rfl ?_
   exact (show MadeCR zC false w _ _ from ⟨none,0,none,0,rfl,⟨Nat.le_refl _,Kd.C_nil k29 _,Nat.le_refl _,Kd.C_nil k29 _⟩,HR.out.bel⟩)
 ·skip
  go_wp2_with (first
   | (go_at_call 90; with_reducible refine (H2.out w8 HR.out.bel).mono ?_; rintro e w9 ⟨rfl, hb⟩; have q_ := Aside0.mk (HR.out.step hb); clear HR; have HR := q_; clear q_; clear hb; clear hc4_ga_0 hc4_ga_1 hc4_ga_2 hc4_ga_3; have hc5_ga_0 : w9.cell? ⟨ga, 0, none⟩ = some (.int .i64 a0) := HR.out.cell 2 rfl 0 rfl; have hc5_ga_1 : w9.cell? ⟨ga, 1, none⟩ = some (.string a1) := HR.out.cell 2 rfl 1 rfl; have hc5_ga_2 : w9.cell? ⟨ga, 2, none⟩ = some (.int .i64 a2) := HR.out.cell 2 rfl 2 rfl; have hc5_ga_3 : w9.cell? ⟨ga, 3, none⟩ = some (.slice (some ad) 2 c) := HR.out.cell 2 rfl 3 rfl; have hc5_go_0 : w9.cell? ⟨go, 0, none⟩ = some (.int .i64 a0) := HR.out.cell 0 rfl 0 rfl; have hc5_go_1 : w9.cell? ⟨go, 1, none⟩ = some (.string a1) := HR.out.cell 0 rfl 1 rfl; have hc5_go_2 : w9.cell? ⟨go, 2, none⟩ = some (.int .i64 a2) := HR.out.cell 0 rfl 2 rfl; have hc5_go_3 : w9.cell? ⟨go, 3, none⟩ = some (.slice (some ad) 2 c) := HR.out.cell 0 rfl 3 rfl; have hc5_go_4 : w9.cell? ⟨go, 4, none⟩ = some (.int .i64 2) := HR.out.cell 0 rfl 4 rfl; have hc5_go_5 : w9.cell? ⟨go, 5, none⟩ = some (.string (⟨#[116, 114, 117, 101]⟩ : ByteArray)) := HR.out.cell 0 rfl 5 rfl; have hc5_go_6 : w9.cell? ⟨go, 6, none⟩ = some (.int .i64 0) := HR.out.cell 0 rfl 6 rfl; have hc5_go_7 : w9.cell? ⟨go, 7, none⟩ = some (.slice none 0 0) := HR.out.cell 0 rfl 7 rfl; have hc5_go_8 : w9.cell? ⟨go, 8, none⟩ = some (.string file) := HR.out.cell 0 rfl 8 rfl; have fc5_go_0 := HR.out.free 0 rfl 0; have fc5_go_1 := HR.out.free 0 rfl 1; have fc5_go_2 := HR.out.free 0 rfl 2; have fc5_go_3 := HR.out.free 0 rfl 3; have fc5_go_4 := HR.out.free 0 rfl 4; have fc5_go_5 := HR.out.free 0 rfl 5; have fc5_go_6 := HR.out.free 0 rfl 6; have fc5_go_7 := HR.out.free 0 rfl 7; have fc5_go_8 := HR.out.free 0 rfl 8; have hx0 := (HR.out.bel.cell (World.block_lt_of_cell? w _ HX0.out)).trans HX0.out; have hx1 := (HR.out.bel.cell (World.block_lt_of_cell? w _ HX1.out)).trans HX1.out; have hx2 := (HR.out.bel.cell (World.block_lt_of_cell? w _ HX2.out)).trans HX2.out; have hx3 := (HR.out.bel.cell (World.block_lt_of_cell? w _ HX3.out)).trans HX3.out)
   | ((with_reducible refine gate_store (t := 29) (p := 21) rfl ?_); refine store_event (t := 29) (p := 21) (v := ?vo_10) (w1 := w9.setCells go 0 [.int .i64 x.f0, .string x.f1, .int .i64 x.f2, .slice A3 x.f3.length c3]) ?hgs_10 ?hos_10 ?hns_10 ?hrs_10 ?_; (case hos_10 => rfl); (case hgs_10 => rfl); (case hns_10 => rfl); (case hrs_10 => first | (go_simp; done) | (go_simp; rfl)); intro w10 hw; have q_ := Aside0.mk (HR.out.seg 0 rfl 0 [.int .i64 x.f0, .string x.f1, .int .i64 x.f2, .slice A3 x.f3.length c3] (Nat.le_of_ble_eq_true rfl)); rw [← hw] at q_; clear HR; have HR := q_; clear q_; clear hw; clear hc5_ga_0 hc5_ga_1 hc5_ga_2 hc5_ga_3 hc5_go_0 hc5_go_1 hc5_go_2 hc5_go_3 hc5_go_4 hc5_go_5 hc5_go_6 hc5_go_7 hc5_go_8 fc5_go_0 fc5_go_1 fc5_go_2 fc5_go_3 fc5_go_4 fc5_go_5 fc5_go_6 fc5_go_7 fc5_go_8; have hc6_ga_0 : w10.cell? ⟨ga, 0, none⟩ = some (.int .i64 a0) := HR.out.cell 2 rfl 0 rfl; have hc6_ga_1 : w10.cell? ⟨ga, 1, none⟩ = some (.string a1) := HR.out.cell 2 rfl 1 rfl; have hc6_ga_2 : w10.cell? ⟨ga, 2, none⟩ = some (.int .i64 a2) := HR.out.cell 2 rfl 2 rfl; have hc6_ga_3 : w10.cell? ⟨ga, 3, none⟩ = some (.slice (some ad) 2 c) := HR.out.cell 2 rfl 3 rfl; have hc6_go_0 : w10.cell? ⟨go, 0, none⟩ = some (.int .i64 x.f0) := HR.out.cell 0 rfl 0 rfl; have hc6_go_1 : w10.cell? ⟨go, 1, none⟩ = some (.string x.f1) := HR.out.cell 0 rfl 1 rfl; have hc6_go_2 : w10.cell? ⟨go, 2, none⟩ = some (.int .i64 x.f2) := HR.out.cell 0 rfl 2 rfl; have hc6_go_3 : w10.cell? ⟨go, 3, none⟩ = some (.slice A3 x.f3.length c3) := HR.out.cell 0 rfl 3 rfl; have hc6_go_4 : w10.cell? ⟨go, 4, none⟩ = some (.int .i64 2) := HR.out.cell 0 rfl 4 rfl; have hc6_go_5 : w10.cell? ⟨go, 5, none⟩ = some (.string (⟨#[116, 114, 117, 101]⟩ : ByteArray)) := HR.out.cell 0 rfl 5 rfl; have hc6_go_6 : w10.cell? ⟨go, 6, none⟩ = some (.int .i64 0) := HR.out.cell 0 rfl 6 rfl; have hc6_go_7 : w10.cell? ⟨go, 7, none⟩ = some (.slice none 0 0) := HR.out.cell 0 rfl 7 rfl; have hc6_go_8 : w10.cell? ⟨go, 8, none⟩ = some (.string file) := HR.out.cell 0 rfl 8 rfl; have fc6_go_0 := HR.out.free 0 rfl 0; have fc6_go_1 := HR.out.free 0 rfl 1; have fc6_go_2 := HR.out.free 0 rfl 2; have fc6_go_3 := HR.out.free 0 rfl 3; have fc6_go_4 := HR.out.free 0 rfl 4; have fc6_go_5 := HR.out.free 0 rfl 5; have fc6_go_6 := HR.out.free 0 rfl 6; have fc6_go_7 := HR.out.free 0 rfl 7; have fc6_go_8 := HR.out.free 0 rfl 8; clear hx0 hx1 hx2 hx3; have hy0 := (HR.out.bel.cell (World.block_lt_of_cell? w _ HY0.out)).trans HY0.out; have hy1 := (HR.out.bel.cell (World.block_lt_of_cell? w _ HY1.out)).trans HY1.out; have hy2 := (HR.out.bel.cell (World.block_lt_of_cell? w _ HY2.out)).trans HY2.out; have hy3 := (HR.out.bel.cell (World.block_lt_of_cell? w _ HY3.out)).trans HY3.out)
   | ((with_reducible refine gate_store (t := 29) (p := 26) rfl ?_); refine store_event (t := 29) (p := 26) (v := ?vo_11) (w1 := w10.setCells go 4 [.int .i64 y.f0, .string y.f1, .int .i64 y.f2, .slice A7 y.f3.length c7]) ?hgs_11 ?hos_11 ?hns_11 ?hrs_11 ?_; (case hos_11 => rfl); (case hgs_11 => rfl); (case hns_11 => rfl); (case hrs_11 => first | (go_simp; done) | (go_simp; rfl)); intro w11 hw; have q_ := Aside0.mk (HR.out.seg 0 rfl 4 [.int .i64 y.f0, .string y.f1, .int .i64 y.f2, .slice A7 y.f3.length c7] (Nat.le_of_ble_eq_true rfl)); rw [← hw] at q_; clear HR; have HR := q_; clear q_; clear hw; clear hc6_ga_0 hc6_ga_1 hc6_ga_2 hc6_ga_3 hc6_go_0 hc6_go_1 hc6_go_2 hc6_go_3 hc6_go_4 hc6_go_5 hc6_go_6 hc6_go_7 hc6_go_8 fc6_go_0 fc6_go_1 fc6_go_2 fc6_go_3 fc6_go_4 fc6_go_5 fc6_go_6 fc6_go_7 fc6_go_8; have hc7_go_0 : w11.cell? ⟨go, 0, none⟩ = some (.int .i64 x.f0) := HR.out.cell 0 rfl 0 rfl; have hc7_go_1 : w11.cell? ⟨go, 1, none⟩ = some (.string x.f1) := HR.out.cell 0 rfl 1 rfl; have hc7_go_2 : w11.cell? ⟨go, 2, none⟩ = some (.int .i64 x.f2) := HR.out.cell 0 rfl 2 rfl; have hc7_go_3 : w11.cell? ⟨go, 3, none⟩ = some (.slice A3 x.f3.length c3) := HR.out.cell 0 rfl 3 rfl; have hc7_go_4 : w11.cell? ⟨go, 4, none⟩ = some (.int .i64 y.f0) := HR.out.cell 0 rfl 4 rfl; have hc7_go_5 : w11.cell? ⟨go, 5, none⟩ = some (.string y.f1) := HR.out.cell 0 rfl 5 rfl; have hc7_go_6 : w11.cell? ⟨go, 6, none⟩ = some (.int .i64 y.f2) := HR.out.cell 0 rfl 6 rfl; have hc7_go_7 : w11.cell? ⟨go, 7, none⟩ = some (.slice A7 y.f3.length c7) := HR.out.cell 0 rfl 7 rfl; have hc7_go_8 : w11.cell? ⟨go, 8, none⟩ = some (.string file) := HR.out.cell 0 rfl 8 rfl; have fc7_go_0 := HR.out.free 0 rfl 0; have fc7_go_1 := HR.out.free 0 rfl 1; have fc7_go_2 := HR.out.free 0 rfl 2; have fc7_go_3 := HR.out.free 0 rfl 3; have fc7_go_4 := HR.out.free 0 rfl 4; have fc7_go_5 := HR.out.free 0 rfl 5; have fc7_go_6 := HR.out.free 0 rfl 6; have fc7_go_7 := HR.out.free 0 rfl 7; have fc7_go_8 := HR.out.free 0 rfl 8; clear hy0 hy1 hy2 hy3)
   | ((with_reducible refine gate_dst (N := 33) rfl ?_); refine lit_event ?hg33 (N := 33) ?hd33 (cs := #[.int .i64 y.f0, .string y.f1, .int .i64 y.f2, .slice A7 y.f3.length c7]) (t := 29) (n := 1) ?hr33 ?_; (case hd33 => rfl); (case hg33 => rfl); (case hr33 => first | (go_simp; done) | (go_simp; rfl)); intro gl hg w12 hbox hb; have q_ := Aside0.mk (HR.out.box hg hb hbox); clear HR; have HR := q_; clear q_; clear hg hbox hb; clear hc7_go_0 hc7_go_1 hc7_go_2 hc7_go_3 hc7_go_4 hc7_go_5 hc7_go_6 hc7_go_7 hc7_go_8 fc7_go_0 fc7_go_1 fc7_go_2 fc7_go_3 fc7_go_4 fc7_go_5 fc7_go_6 fc7_go_7 fc7_go_8; have hc8_go_0 : w12.cell? ⟨go, 0, none⟩ = some (.int .i64 x.f0) := HR.out.cell 1 rfl 0 rfl; have hc8_go_1 : w12.cell? ⟨go, 1, none⟩ = some (.string x.f1) := HR.out.cell 1 rfl 1 rfl; have hc8_go_2 : w12.cell? ⟨go, 2, none⟩ = some (.int .i64 x.f2) := HR.out.cell 1 rfl 2 rfl; have hc8_go_3 : w12.cell? ⟨go, 3, none⟩ = some (.slice A3 x.f3.length c3) := HR.out.cell 1 rfl 3 rfl; have hc8_go_4 : w12.cell? ⟨go, 4, none⟩ = some (.int .i64 y.f0) := HR.out.cell 1 rfl 4 rfl; have hc8_go_5 : w12.cell? ⟨go, 5, none⟩ = some (.string y.f1) := HR.out.cell 1 rfl 5 rfl; have hc8_go_6 : w12.cell? ⟨go, 6, none⟩ = some (.int .i64 y.f2) := HR.out.cell 1 rfl 6 rfl; have hc8_go_7 : w12.cell? ⟨go, 7, none⟩ = some (.slice A7 y.f3.length c7) := HR.out.cell 1 rfl 7 rfl; have hc8_go_8 : w12.cell? ⟨go, 8, none⟩ = some (.string file) := HR.out.cell 1 rfl 8 rfl; have fc8_go_0 := HR.out.free 1 rfl 0; have fc8_go_1 := HR.out.free 1 rfl 1; have fc8_go_2 := HR.out.free 1 rfl 2; have fc8_go_3 := HR.out.free 1 rfl 3; have fc8_go_4 := HR.out.free 1 rfl 4; have fc8_go_5 := HR.out.free 1 rfl 5; have fc8_go_6 := HR.out.free 1 rfl 6; have fc8_go_7 := HR.out.free 1 rfl 7; have fc8_go_8 := HR.out.free 1 rfl 8)
   | ((with_reducible refine gate_store (t := 29) (p := 35) rfl ?_); refine store_event (t := 29) (p := 35) (v := ?vo_12) (w1 := w12.setCells go 4 [.int .i64 4, .string (⟨#[99, 97, 108, 108]⟩ : ByteArray), .int .i64 0, .slice (some ⟨gl, 0, none⟩) 1 1]) ?hgs_12 ?hos_12 ?hns_12 ?hrs_12 ?_; (case hos_12 => rfl); (case hgs_12 => rfl); (case hns_12 => rfl); (case hrs_12 => first | (go_simp; done) | (go_simp; rfl)); intro w13 hw; have q_ := Aside0.mk (HR.out.seg 1 rfl 4 [.int .i64 4, .string (⟨#[99, 97, 108, 108]⟩ : ByteArray), .int .i64 0, .slice (some ⟨gl, 0, none⟩) 1 1] (Nat.le_of_ble_eq_true rfl)); rw [← hw] at q_; clear HR; have HR := q_; clear q_; clear hw; clear hc8_go_0 hc8_go_1 hc8_go_2 hc8_go_3 hc8_go_4 hc8_go_5 hc8_go_6 hc8_go_7 hc8_go_8 fc8_go_0 fc8_go_1 fc8_go_2 fc8_go_3 fc8_go_4 fc8_go_5 fc8_go_6 fc8_go_7 fc8_go_8; have hc9_go_0 : w13.cell? ⟨go, 0, none⟩ = some (.int .i64 x.f0) := HR.out.cell 1 rfl 0 rfl; have hc9_go_1 : w13.cell? ⟨go, 1, none⟩ = some (.string x.f1) := HR.out.cell 1 rfl 1 rfl; have hc9_go_2 : w13.cell? ⟨go, 2, none⟩ = some (.int .i64 x.f2) := HR.out.cell 1 rfl 2 rfl; have hc9_go_3 : w13.cell? ⟨go, 3, none⟩ = some (.slice A3 x.f3.length c3) := HR.out.cell 1 rfl 3 rfl; have hc9_go_4 : w13.cell? ⟨go, 4, none⟩ = some (.int .i64 4) := HR.out.cell 1 rfl 4 rfl; have hc9_go_5 : w13.cell? ⟨go, 5, none⟩ = some (.string (⟨#[99, 97, 108, 108]⟩ : ByteArray)) := HR.out.cell 1 rfl 5 rfl; have hc9_go_6 : w13.cell? ⟨go, 6, none⟩ = some (.int .i64 0) := HR.out.cell 1 rfl 6 rfl; have hc9_go_7 : w13.cell? ⟨go, 7, none⟩ = some (.slice (some ⟨gl, 0, none⟩) 1 1) := HR.out.cell 1 rfl 7 rfl; have hc9_go_8 : w13.cell? ⟨go, 8, none⟩ = some (.string file) := HR.out.cell 1 rfl 8 rfl)
   | (go_at_call 87; with_reducible refine (H3.out w13 A3 c3 HR.out.bel (Kd.C_below HI3.out HR.out.bel) HL3.out).mono ?_; rintro e w14 ⟨rfl, hb⟩; have q_ := Aside0.mk (HR.out.step hb); clear HR; have HR := q_; clear q_; clear hb; clear hc9_go_0 hc9_go_1 hc9_go_2 hc9_go_3 hc9_go_4 hc9_go_5 hc9_go_6 hc9_go_7 hc9_go_8; have hc10_gr_0 : w14.cell? ⟨gr, 0, none⟩ = some (.int .i64 0) := HR.out.cell 2 rfl 0 rfl; have hc10_gr_1 : w14.cell? ⟨gr, 1, none⟩ = some (.string (⟨#[]⟩ : ByteArray)) := HR.out.cell 2 rfl 1 rfl; have hc10_gr_2 : w14.cell? ⟨gr, 2, none⟩ = some (.int .i64 0) := HR.out.cell 2 rfl 2 rfl; have hc10_gr_3 : w14.cell? ⟨gr, 3, none⟩ = some (.slice none 0 0) := HR.out.cell 2 rfl 3 rfl; have hc10_gr_4 : w14.cell? ⟨gr, 4, none⟩ = some (.int .i64 0) := HR.out.cell 2 rfl 4 rfl; have hc10_gr_5 : w14.cell? ⟨gr, 5, none⟩ = some (.string (⟨#[]⟩ : ByteArray)) := HR.out.cell 2 rfl 5 rfl; have hc10_gr_6 : w14.cell? ⟨gr, 6, none⟩ = some (.int .i64 0) := HR.out.cell 2 rfl 6 rfl; have hc10_gr_7 : w14.cell? ⟨gr, 7, none⟩ = some (.slice none 0 0) := HR.out.cell 2 rfl 7 rfl; have hc10_gr_8 : w14.cell? ⟨gr, 8, none⟩ = some (.string (⟨#[]⟩ : ByteArray)) := HR.out.cell 2 rfl 8 rfl; have fc10_gr_0 := HR.out.free 2 rfl 0; have fc10_gr_1 := HR.out.free 2 rfl 1; have fc10_gr_2 := HR.out.free 2 rfl 2; have fc10_gr_3 := HR.out.free 2 rfl 3; have fc10_gr_4 := HR.out.free 2 rfl 4; have fc10_gr_5 := HR.out.free 2 rfl 5; have fc10_gr_6 := HR.out.free 2 rfl 6; have fc10_gr_7 := HR.out.free 2 rfl 7; have fc10_gr_8 := HR.out.free 2 rfl 8)
   | ((with_reducible refine gate_store (t := 48) (p := 4) rfl ?_); refine store_event (t := 48) (p := 4) (v := ?vo_15) (w1 := w14.setCells gr 0 [.int .i64 0, .string (⟨#[]⟩ : ByteArray), .int .i64 0, .slice none 0 0, .int .i64 0, .string (⟨#[]⟩ : ByteArray), .int .i64 0, .slice none 0 0, .string (⟨#[]⟩ : ByteArray)]) ?hgs_15 ?hos_15 ?hns_15 ?hrs_15 ?_; (case hos_15 => rfl); (case hgs_15 => rfl); (case hns_15 => rfl); (case hrs_15 => first | (go_simp; done) | (go_simp; rfl)); intro w15 hw; have q_ := Aside0.mk (hw ▸ HR.out.store 2 rfl [.int .i64 0, .string (⟨#[]⟩ : ByteArray), .int .i64 0, .slice none 0 0, .int .i64 0, .string (⟨#[]⟩ : ByteArray), .int .i64 0, .slice none 0 0, .string (⟨#[]⟩ : ByteArray)] rfl); clear HR; have HR := q_; clear q_; clear hw; clear hc10_gr_0 hc10_gr_1 hc10_gr_2 hc10_gr_3 hc10_gr_4 hc10_gr_5 hc10_gr_6 hc10_gr_7 hc10_gr_8 fc10_gr_0 fc10_gr_1 fc10_gr_2 fc10_gr_3 fc10_gr_4 fc10_gr_5 fc10_gr_6 fc10_gr_7 fc10_gr_8))
  refine bodyPost_ret (results_ct rfl _ _ gr 48 #[.int .i64 0,.string (⟨#[]⟩ : ByteArray),.int .i64 0,.slice none 0 0,.int .i64 0,.string (⟨#[]⟩ : ByteArray),.int .i64 0,.slice none 0 0,.string (⟨#[]⟩ : ByteArray)] (0,0) _ rfl (HR.out.has 2 rfl).2 Tryd.underlying48 rfl (by kernel_rfl)) rfl ?_
  exact (show MadeCR zC false w _ _ from ⟨none,0,none,0,rfl,⟨Nat.le_refl _,Kd.C_nil k29 _,Nat.le_refl _,Kd.C_nil k29 _⟩,HR.out.bel⟩)
end
def avr (v : Value) (xs : List S29) (v' : Value) (ys : List S29) : As:=As.also (As.vrow k29 29 v xs) (As.vrow k29 29 v' ys)
theorem below_setCells {b : Nat} {W W' : World} (h : Below b W W') {g : Nat} (hg : b ≤ g) (vs : List Value) : Below b W (W'.setCells g 0 vs):=by
 obtain ⟨e1,e2,e3,e4⟩:=setCells_same g vs 0 W'
 exact ⟨e1.trans h.os,e2.trans h.tape,e3.trans h.output,by rw [e4];exact h.size,fun k hk => (setCells_far vs 0 (w:=W') k (fun e => by omega)).trans (h.block k hk)⟩
section
set_option linter.unusedSectionVars false
variable [fk_laws_szTerm] [fk_laws_eqTerm] [fk_spec_l34Term] [fk_strconv_Itoa]
set_option maxHeartbeats 16000000 in
set_option maxRecDepth 100000 in
theorem spec_clo (t : S29) (file : ByteArray) (A : Option Addr) (c : Nat) (x : S48) (b : Bool) (w : World)
  (h1 : ∀ W,Below w.heap.size w W → Calls Tryd.prog 58 #[.agg #[.int .i64 t.f0,.string t.f1,.int .i64 t.f2,.slice A t.f3.length c],.string file] W fun e W' => MadeCR x b W e W')
  (h2 : ∀ W (A : Option Addr) (c : Nat) (B : Option Addr) (d : Nat),Kd.C k29 W A x.f0.f3.length x.f0.f3 → x.f0.f3.length ≤ c → Kd.C k29 W B x.f1.f3.length x.f1.f3 → x.f1.f3.length ≤ d → Calls Tryd.prog 59 #[.agg #[.int .i64 x.f0.f0,.string x.f0.f1,.int .i64 x.f0.f2,.slice A x.f0.f3.length c,.int .i64 x.f1.f0,.string x.f1.f1,.int .i64 x.f1.f2,.slice B x.f1.f3.length d,.string x.f2]] W fun e W' => ∃ A c B d,e = .returned (.agg #[.int .i64 x.f0.f0,.string x.f0.f1,.int .i64 x.f0.f2,.slice A x.f0.f3.length c,.int .i64 x.f1.f0,.string x.f1.f1,.int .i64 x.f1.f2,.slice B x.f1.f3.length d,.string x.f2]) ∧ (avr (.slice A x.f0.f3.length c) x.f0.f3 (.slice B x.f1.f3.length d) x.f1.f3).M W.heap.size W' (fun k => W.heap.size ≤ k) ∧ Below W.heap.size W W') :
  Calls Tryd.prog 22 #[.agg #[.int .i64 t.f0,.string t.f1,.int .i64 t.f2,.slice A t.f3.length c],.string file] w fun e w' => ∃ A c B d,e = .returned (.tuple #[.agg #[.int .i64 x.f0.f0,.string x.f0.f1,.int .i64 x.f0.f2,.slice A x.f0.f3.length c,.int .i64 x.f1.f0,.string x.f1.f1,.int .i64 x.f1.f2,.slice B x.f1.f3.length d,.string x.f2],.bool b]) ∧ (avr (.slice A x.f0.f3.length c) x.f0.f3 (.slice B x.f1.f3.length d) x.f1.f3).M w.heap.size w' (fun k => w.heap.size ≤ k) ∧ Below w.heap.size w w':=by
 have H1:=Aside0.mk h1
 have H2:=Aside0.mk h2
 have HR:=Aside0.mk (run_law w)
 clear h1 h2
 go_enter Tryd.func22,Tryd.ntmps22
 go_wp2_with (first
  | ((with_reducible refine gate_dst (N := 2) rfl ?_); refine box_event ?hg2 (N := 2) ?hd2 (cs := #[.int .i64 t.f0, .string t.f1, .int .i64 t.f2, .slice A t.f3.length c]) (t := 29) ?hr2 ?_; (case hd2 => rfl); (case hg2 => rfl); (case hr2 => first | (go_simp; done) | (go_simp; rfl)); intro ga hg w1 hbox hb; have q_ := Aside0.mk (HR.out.box hg hb hbox); clear HR; have HR := q_; clear q_; clear hg hbox hb)
  | ((with_reducible refine gate_dst (N := 4) rfl ?_); refine box_event ?hg4 (N := 4) ?hd4 (cs := #[.int .i64 0, .string (⟨#[]⟩ : ByteArray), .int .i64 0, .slice none 0 0, .int .i64 0, .string (⟨#[]⟩ : ByteArray), .int .i64 0, .slice none 0 0, .string (⟨#[]⟩ : ByteArray)]) (t := 48) ?hr4 ?_; (case hd4 => rfl); (case hg4 => rfl); (case hr4 => first | (go_simp; done) | (go_simp; rfl)); intro gr hg w2 hbox hb; have q_ := Aside0.mk (HR.out.box hg hb hbox); clear HR; have HR := q_; clear q_; clear hg hbox hb; have hc2_ga_0 : w2.cell? ⟨ga, 0, none⟩ = some (.int .i64 t.f0) := HR.out.cell 1 rfl 0 rfl; have hc2_ga_1 : w2.cell? ⟨ga, 1, none⟩ = some (.string t.f1) := HR.out.cell 1 rfl 1 rfl; have hc2_ga_2 : w2.cell? ⟨ga, 2, none⟩ = some (.int .i64 t.f2) := HR.out.cell 1 rfl 2 rfl; have hc2_ga_3 : w2.cell? ⟨ga, 3, none⟩ = some (.slice A t.f3.length c) := HR.out.cell 1 rfl 3 rfl)
  | (go_at_call 58; with_reducible refine (H1.out w2 HR.out.bel).mono ?_; rintro e w3 hq_; unfold MadeCR at hq_; obtain ⟨A1, c1, B1, d1, rfl, ⟨l1, q1, l2, q2⟩, hb⟩ := hq_; have L1 := Aside0.mk l1; have Q1 := Aside0.mk q1; have L2 := Aside0.mk l2; have Q2 := Aside0.mk q2; clear l1 q1 l2 q2; have q_ := Aside0.mk (HR.out.step hb); clear HR; have HR := q_; clear q_; clear hb; clear hc2_ga_0 hc2_ga_1 hc2_ga_2 hc2_ga_3)
  | ((with_reducible refine gate_dst (N := 6) rfl ?_); refine box_event ?hg6 (N := 6) ?hd6 (cs := #[.int .i64 0, .string (⟨#[]⟩ : ByteArray), .int .i64 0, .slice none 0 0, .int .i64 0, .string (⟨#[]⟩ : ByteArray), .int .i64 0, .slice none 0 0, .string (⟨#[]⟩ : ByteArray)]) (t := 48) ?hr6 ?_; (case hd6 => rfl); (case hg6 => rfl); (case hr6 => first | (go_simp; done) | (go_simp; rfl)); intro gx hg w4 hbox hb; have q_ := Aside0.mk (HR.out.box hg hb hbox); clear HR; have HR := q_; clear q_; have HX3 := Aside0.mk (show w3.heap.size ≤ gx from Nat.le_of_eq hg.symm); have HB3 := Aside0.mk hb; clear hg hbox hb; have hc4_gx_0 : w4.cell? ⟨gx, 0, none⟩ = some (.int .i64 0) := HR.out.cell 0 rfl 0 rfl; have hc4_gx_1 : w4.cell? ⟨gx, 1, none⟩ = some (.string (⟨#[]⟩ : ByteArray)) := HR.out.cell 0 rfl 1 rfl; have hc4_gx_2 : w4.cell? ⟨gx, 2, none⟩ = some (.int .i64 0) := HR.out.cell 0 rfl 2 rfl; have hc4_gx_3 : w4.cell? ⟨gx, 3, none⟩ = some (.slice none 0 0) := HR.out.cell 0 rfl 3 rfl; have hc4_gx_4 : w4.cell? ⟨gx, 4, none⟩ = some (.int .i64 0) := HR.out.cell 0 rfl 4 rfl; have hc4_gx_5 : w4.cell? ⟨gx, 5, none⟩ = some (.string (⟨#[]⟩ : ByteArray)) := HR.out.cell 0 rfl 5 rfl; have hc4_gx_6 : w4.cell? ⟨gx, 6, none⟩ = some (.int .i64 0) := HR.out.cell 0 rfl 6 rfl; have hc4_gx_7 : w4.cell? ⟨gx, 7, none⟩ = some (.slice none 0 0) := HR.out.cell 0 rfl 7 rfl; have hc4_gx_8 : w4.cell? ⟨gx, 8, none⟩ = some (.string (⟨#[]⟩ : ByteArray)) := HR.out.cell 0 rfl 8 rfl; have fc4_gx_0 := HR.out.free 0 rfl 0; have fc4_gx_1 := HR.out.free 0 rfl 1; have fc4_gx_2 := HR.out.free 0 rfl 2; have fc4_gx_3 := HR.out.free 0 rfl 3; have fc4_gx_4 := HR.out.free 0 rfl 4; have fc4_gx_5 := HR.out.free 0 rfl 5; have fc4_gx_6 := HR.out.free 0 rfl 6; have fc4_gx_7 := HR.out.free 0 rfl 7; have fc4_gx_8 := HR.out.free 0 rfl 8)
  | ((with_reducible refine gate_store (t := 48) (p := 6) rfl ?_); refine store_event (t := 48) (p := 6) (v := ?vo_1) (w1 := w4.setCells gx 0 [.int .i64 x.f0.f0, .string x.f0.f1, .int .i64 x.f0.f2, .slice A1 x.f0.f3.length c1, .int .i64 x.f1.f0, .string x.f1.f1, .int .i64 x.f1.f2, .slice B1 x.f1.f3.length d1, .string x.f2]) ?hgs_1 ?hos_1 ?hns_1 ?hrs_1 ?_; (case hos_1 => rfl); (case hgs_1 => rfl); (case hns_1 => rfl); (case hrs_1 => first | (go_simp; done) | (go_simp; rfl)); intro w5 hw; have qb_ := Aside0.mk (below_setCells HB3.out HX3.out [.int .i64 x.f0.f0, .string x.f0.f1, .int .i64 x.f0.f2, .slice A1 x.f0.f3.length c1, .int .i64 x.f1.f0, .string x.f1.f1, .int .i64 x.f1.f2, .slice B1 x.f1.f3.length d1, .string x.f2]); rw [← hw] at qb_; clear HB3; have HB3 := qb_; clear qb_; have q_ := Aside0.mk (hw ▸ HR.out.store 0 rfl [.int .i64 x.f0.f0, .string x.f0.f1, .int .i64 x.f0.f2, .slice A1 x.f0.f3.length c1, .int .i64 x.f1.f0, .string x.f1.f1, .int .i64 x.f1.f2, .slice B1 x.f1.f3.length d1, .string x.f2] rfl); clear HR; have HR := q_; clear q_; clear hw; clear hc4_gx_0 hc4_gx_1 hc4_gx_2 hc4_gx_3 hc4_gx_4 hc4_gx_5 hc4_gx_6 hc4_gx_7 hc4_gx_8 fc4_gx_0 fc4_gx_1 fc4_gx_2 fc4_gx_3 fc4_gx_4 fc4_gx_5 fc4_gx_6 fc4_gx_7 fc4_gx_8; have hc5_gx_0 : w5.cell? ⟨gx, 0, none⟩ = some (.int .i64 x.f0.f0) := HR.out.cell 0 rfl 0 rfl; have hc5_gx_1 : w5.cell? ⟨gx, 1, none⟩ = some (.string x.f0.f1) := HR.out.cell 0 rfl 1 rfl; have hc5_gx_2 : w5.cell? ⟨gx, 2, none⟩ = some (.int .i64 x.f0.f2) := HR.out.cell 0 rfl 2 rfl; have hc5_gx_3 : w5.cell? ⟨gx, 3, none⟩ = some (.slice A1 x.f0.f3.length c1) := HR.out.cell 0 rfl 3 rfl; have hc5_gx_4 : w5.cell? ⟨gx, 4, none⟩ = some (.int .i64 x.f1.f0) := HR.out.cell 0 rfl 4 rfl; have hc5_gx_5 : w5.cell? ⟨gx, 5, none⟩ = some (.string x.f1.f1) := HR.out.cell 0 rfl 5 rfl; have hc5_gx_6 : w5.cell? ⟨gx, 6, none⟩ = some (.int .i64 x.f1.f2) := HR.out.cell 0 rfl 6 rfl; have hc5_gx_7 : w5.cell? ⟨gx, 7, none⟩ = some (.slice B1 x.f1.f3.length d1) := HR.out.cell 0 rfl 7 rfl; have hc5_gx_8 : w5.cell? ⟨gx, 8, none⟩ = some (.string x.f2) := HR.out.cell 0 rfl 8 rfl)
  | (go_at_call 59; with_reducible refine (H2.out w5 A1 c1 B1 d1 (Kd.C_below Q1.out HB3.out) L1.out (Kd.C_below Q2.out HB3.out) L2.out).mono ?_; rintro e w6 ⟨A2, c2, B2, d2, rfl, ho, hb⟩; have q_ := Aside0.mk (HR.out.push _ hb ho); clear HR; have HR := q_; clear q_; clear hb ho; clear hc5_gx_0 hc5_gx_1 hc5_gx_2 hc5_gx_3 hc5_gx_4 hc5_gx_5 hc5_gx_6 hc5_gx_7 hc5_gx_8; have hc6_gr_0 : w6.cell? ⟨gr, 0, none⟩ = some (.int .i64 0) := HR.out.cell 2 rfl 0 rfl; have hc6_gr_1 : w6.cell? ⟨gr, 1, none⟩ = some (.string (⟨#[]⟩ : ByteArray)) := HR.out.cell 2 rfl 1 rfl; have hc6_gr_2 : w6.cell? ⟨gr, 2, none⟩ = some (.int .i64 0) := HR.out.cell 2 rfl 2 rfl; have hc6_gr_3 : w6.cell? ⟨gr, 3, none⟩ = some (.slice none 0 0) := HR.out.cell 2 rfl 3 rfl; have hc6_gr_4 : w6.cell? ⟨gr, 4, none⟩ = some (.int .i64 0) := HR.out.cell 2 rfl 4 rfl; have hc6_gr_5 : w6.cell? ⟨gr, 5, none⟩ = some (.string (⟨#[]⟩ : ByteArray)) := HR.out.cell 2 rfl 5 rfl; have hc6_gr_6 : w6.cell? ⟨gr, 6, none⟩ = some (.int .i64 0) := HR.out.cell 2 rfl 6 rfl; have hc6_gr_7 : w6.cell? ⟨gr, 7, none⟩ = some (.slice none 0 0) := HR.out.cell 2 rfl 7 rfl; have hc6_gr_8 : w6.cell? ⟨gr, 8, none⟩ = some (.string (⟨#[]⟩ : ByteArray)) := HR.out.cell 2 rfl 8 rfl; have fc6_gr_0 := HR.out.free 2 rfl 0; have fc6_gr_1 := HR.out.free 2 rfl 1; have fc6_gr_2 := HR.out.free 2 rfl 2; have fc6_gr_3 := HR.out.free 2 rfl 3; have fc6_gr_4 := HR.out.free 2 rfl 4; have fc6_gr_5 := HR.out.free 2 rfl 5; have fc6_gr_6 := HR.out.free 2 rfl 6; have fc6_gr_7 := HR.out.free 2 rfl 7; have fc6_gr_8 := HR.out.free 2 rfl 8)
  | ((with_reducible refine gate_store (t := 48) (p := 4) rfl ?_); refine store_event (t := 48) (p := 4) (v := ?vo_2) (w1 := w6.setCells gr 0 [.int .i64 x.f0.f0, .string x.f0.f1, .int .i64 x.f0.f2, .slice A2 x.f0.f3.length c2, .int .i64 x.f1.f0, .string x.f1.f1, .int .i64 x.f1.f2, .slice B2 x.f1.f3.length d2, .string x.f2]) ?hgs_2 ?hos_2 ?hns_2 ?hrs_2 ?_; (case hos_2 => rfl); (case hgs_2 => rfl); (case hns_2 => rfl); (case hrs_2 => first | (go_simp; done) | (go_simp; rfl)); intro w7 hw; have q_ := Aside0.mk (hw ▸ HR.out.store 2 rfl [.int .i64 x.f0.f0, .string x.f0.f1, .int .i64 x.f0.f2, .slice A2 x.f0.f3.length c2, .int .i64 x.f1.f0, .string x.f1.f1, .int .i64 x.f1.f2, .slice B2 x.f1.f3.length d2, .string x.f2] rfl); clear HR; have HR := q_; clear q_; clear hw; clear hc6_gr_0 hc6_gr_1 hc6_gr_2 hc6_gr_3 hc6_gr_4 hc6_gr_5 hc6_gr_6 hc6_gr_7 hc6_gr_8 fc6_gr_0 fc6_gr_1 fc6_gr_2 fc6_gr_3 fc6_gr_4 fc6_gr_5 fc6_gr_6 fc6_gr_7 fc6_gr_8))
 refine bodyPost_ret (results_ct rfl _ _ gr 48 #[.int .i64 x.f0.f0,.string x.f0.f1,.int .i64 x.f0.f2,.slice A2 x.f0.f3.length c2,.int .i64 x.f1.f0,.string x.f1.f1,.int .i64 x.f1.f2,.slice B2 x.f1.f3.length d2,.string x.f2] (0,0) _ rfl (HR.out.has 2 rfl).2 Tryd.underlying48 rfl (by kernel_rfl)) rfl ?_
 exact ⟨A2,c2,B2,d2,rfl,As.mono _ (fun k hk => hk.elim False.elim id) (HR.out.one 0 rfl),HR.out.bel⟩
end
set_option maxHeartbeats 4000000 in
theorem spec_all (n : Nat) (t : S29) (file : ByteArray) (A : Option Addr) (c : Nat) (w : World) (hC : Kd.C k29 w A t.f3.length t.f3) (hc : t.f3.length ≤ c) (hf : fine n t) :
  Calls Tryd.prog 58 #[.agg #[.int .i64 t.f0,.string t.f1,.int .i64 t.f2,.slice A t.f3.length c],.string file] w fun e w' => MadeCR (clofP t file).1 (clofP t file).2 w e w':=by
 letI:=i_sz n
 letI:=i_eq n
 letI:=i_34 n
 letI:=i_it
 obtain ⟨k1,hk1⟩:=ok_s hf
 by_cases h0 : okB t = true
 ·rw [h0] at hk1
  by_cases h1 : isB t = true
  ·have hl:=is_len t h1
   obtain ⟨x,y,hxy⟩:=two_of_len hl
   have e : clofP t file = clo2 x (bodyP y) file:=by unfold clofP;rw [if_pos h0,if_pos h1,hxy];rfl
   have hfx:=fine_mem hf (x:=x) (by rw [hxy];simp)
   have hfy:=fine_mem hf (x:=y) (by rw [hxy];simp)
   have hfb:=fine_body hfy.1 hfy.2.1 hfy.2.2
   have his:=is_spec t
   rw [h1] at his
   rw [e]
   obtain ⟨kh,hkh⟩:=hd_s hfx.1
   obtain ⟨kb,hkb⟩:=ok_s hfb
   obtain ⟨a0,a1,a2,l⟩:=t
   obtain rfl : l = [x,y]:=hxy
   obtain ⟨ad,rfl,_⟩:=hC.2.2 (by show 0 < 2;decide)
   by_cases hk : y.f0 = 1
   ·have eb : bodyP y = ⟨4,(⟨#[99,97,108,108]⟩ : ByteArray),0,[y]⟩:=if_pos hk
    unfold clo2
    rw [eb] at hkb hfb ⊢
    exact spec_clo_C a0 a1 a2 x y file ad c w hC hc (fun W hB => spec_TermOk.calls k1 a0 a1 a2 (some ad) c [x,y] true W (Kd.C_below hC hB) hc hk1) (fun W hB => spec_l03Is.calls a0 a1 a2 (some ad) c [x,y] _ 2 true W (Kd.C_below hC hB) hc his) hk _
     (fun W A c hB q1 q2 => spec_l08Head.calls kh x.f0 x.f1 x.f2 A c x.f3 _ W q1 q2 hkh) _ (fun W g q => spec_TermOk.calls kb 4 _ 0 (some ⟨g,0,none⟩) 1 [y] _ W q (Nat.le_refl _) hkb)
   ·have eb : bodyP y = y:=if_neg hk
    unfold clo2
    rw [eb] at hkb hfb ⊢
    exact spec_clo_B a0 a1 a2 x y file ad c w hC hc (fun W hB => spec_TermOk.calls k1 a0 a1 a2 (some ad) c [x,y] true W (Kd.C_below hC hB) hc hk1) (fun W hB => spec_l03Is.calls a0 a1 a2 (some ad) c [x,y] _ 2 true W (Kd.C_below hC hB) hc his) hk _
     (fun W A c hB q1 q2 => spec_l08Head.calls kh x.f0 x.f1 x.f2 A c x.f3 _ W q1 q2 hkh) _ (fun W B d q1 q2 => spec_TermOk.calls kb y.f0 y.f1 y.f2 B d y.f3 _ W q1 q2 hkb)
  ·have h1' : isB t = false:=by simpa using h1
   have e : clofP t file = clo2 t atT file:=by unfold clofP;rw [if_pos h0,if_neg h1]
   have his:=is_spec t
   rw [h1'] at his
   rw [e]
   have hfa:=fine_at (fine_pos hf)
   obtain ⟨kh,hkh⟩:=hd_s hf
   obtain ⟨kb,hkb⟩:=ok_s hfa
   exact spec_clo_A t file A c w hC hc (fun W hB => spec_TermOk.calls k1 t.f0 t.f1 t.f2 A c t.f3 true W (Kd.C_below hC hB) hc hk1) (fun W hB => spec_l03Is.calls t.f0 t.f1 t.f2 A c t.f3 _ 2 false W (Kd.C_below hC hB) hc his) _
    (fun W A c hB q1 q2 => spec_l08Head.calls kh t.f0 t.f1 t.f2 A c t.f3 _ W q1 q2 hkh) _ (fun W => spec_TermOk.calls kb 2 _ 0 none 0 [] _ W (nil_C _ _) (Nat.le_refl _) hkb)
 ·have h0' : okB t = false:=by simpa using h0
  have e : clofP t file = (zC,false):=by unfold clofP;rw [if_neg h0]
  rw [h0'] at hk1
  rw [e]
  exact spec_clo_no t file A c w hC hc (fun W hB => spec_TermOk.calls k1 t.f0 t.f1 t.f2 A c t.f3 false W (Kd.C_below hC hB) hc hk1)
end Go.Proofs.YtojedbogbodkiaaDoor.KCo
