/- Parts of a proof about terms. No condition. -/
import Derived.Test.YtojedbogbodkiaaKFlx5
import Derived.Test.YtojedbogbodkiaaFlC
import Derived.Test.YtojedbogbodkiaaKS
set_option linter.unusedVariables false
set_option linter.unusedSimpArgs false
namespace Go.Proofs.Ytojedbogbodkiaa.KFl
open Go.RowKit Go.Proofs.YtojedbogbodkiaaW.PrintWords Go.Proofs.YtojedbogbodkiaaW.PrintLast Go.Proofs.YtojedbogbodkiaaW.PrintMore
/-! #### the law FnExactFilled, step by step, for any callees that tell what they should -/
section
set_option linter.unusedSectionVars false
variable [fk_laws_szTerm] [fk_laws_eqTerm]
def lw12_8_T : Bool × List (List Nat × List Nat):=(true,[([],[]),([0],[0]),([],[]),([2,1],[2]),([1,3,3],[1,3]),([4],[4]),([5],[5]),([5],[5]),([],[]),([8,6,4,0,1,2,3,4,5,6,8],[6,8]),([7,9,0,1,2,3,4,5,6,7,8,9],[7])])
def lw12_8_B : List Nat:=[0,1,0,7,15,31,63,63,0,383,1023]
theorem lw12_8_tab : rtab .any (opsOf Try.f12 8) = lw12_8_T:=by kernel_rfl
theorem lw12_8_bits : waitsOk lw12_8_T.2 lw12_8_B = true:=by kernel_rfl

def lw12_14_T : Bool × List (List Nat × List Nat):=(true,[([],[]),([],[]),([1],[1]),([0,2,2],[0,2]),([3],[3])])
def lw12_14_B : List Nat:=[0,0,2,7,15]
theorem lw12_14_tab : rtab .any (opsOf Try.f12 14) = lw12_14_T:=by kernel_rfl
theorem lw12_14_bits : waitsOk lw12_14_T.2 lw12_14_B = true:=by kernel_rfl

def lw12_16_T : Bool × List (List Nat × List Nat):=(true,[([],[]),([],[]),([1],[1]),([0,2,2],[0,2]),([3],[3])])
def lw12_16_B : List Nat:=[0,0,2,7,15]
theorem lw12_16_tab : rtab .any (opsOf Try.f12 16) = lw12_16_T:=by kernel_rfl
theorem lw12_16_bits : waitsOk lw12_16_T.2 lw12_16_B = true:=by kernel_rfl

def lw12_31_T : Bool × List (List Nat × List Nat):=(true,[([],[]),([0],[0]),([],[]),([2,1],[2]),([1,3,3],[1,3]),([4],[4]),([5],[5]),([5],[5]),([],[]),([8,6,4,0,1,2,3,4,5,6,8],[6,8]),([7,9,0,1,2,3,4,5,6,7,8,9],[7])])
def lw12_31_B : List Nat:=[0,1,0,7,15,31,63,63,0,383,1023]
theorem lw12_31_tab : rtab .any (opsOf Try.f12 31) = lw12_31_T:=by kernel_rfl
theorem lw12_31_bits : waitsOk lw12_31_T.2 lw12_31_B = true:=by kernel_rfl

set_option maxHeartbeats 32000000 in
set_option maxRecDepth 100000 in
theorem fl_walk (b : Bool) (bl : List S24) (t : S24) (A_B : Option Addr) (c_B : Nat) (A_T : Option Addr) (c_T : Nat) (left1 left2 m m1 m2 r0 r2 : Int) (r1 : ByteArray) (xb xt xs yb yt ys : List S29) (w : World)
  (hm : 0 ≤ m)
  (hm1 : 0 < m1)
  (hm2 : 0 ≤ m2)
  (hl1 : 0 ≤ left1)
  (hl2 : 0 ≤ left2)
  (hlB : bl.length ≤ c_B)
  (hCB : Kd.C k24 w A_B bl.length bl)
  (hlT : t.f3.length ≤ c_T)
  (hCT : Kd.C k24 w A_T t.f3.length t.f3)
  (c38 : ∀ W A c,bl.length ≤ c → Kd.C k24 W A bl.length bl → Calls Try.prog 38 #[.agg #[.slice A bl.length c],.int .i64 1048576] W fun e W' => e = .returned (.int .i64 left1) ∧ Below W.heap.size W W')
  (c15 : ∀ W A c,t.f3.length ≤ c → Kd.C k24 W A t.f3.length t.f3 → Calls Try.prog 15 #[.agg #[.int .i64 t.f0,.string t.f1,.int .i64 t.f2,.slice A t.f3.length c],.int .i64 left1] W fun e W' => e = .returned (.int .i64 left2) ∧ Below W.heap.size W W')
  (c40 : ∀ W A c,bl.length ≤ c → Kd.C k24 W A bl.length bl → Calls Try.prog 40 #[.agg #[.slice A bl.length c]] W fun e W' => ∃ v,e = .returned (.agg #[v]) ∧ Kd.S kD29 29 W' W.heap.size (fun _ => True) v xb ∧ Below W.heap.size W W')
  (c17 : ∀ W A c,t.f3.length ≤ c → Kd.C k24 W A t.f3.length t.f3 → Calls Try.prog 17 #[.agg #[.int .i64 t.f0,.string t.f1,.int .i64 t.f2,.slice A t.f3.length c]] W fun e W' => ∃ v,e = .returned (.agg #[.int .i64 t.f0,.string t.f1,.int .i64 t.f2,v]) ∧ Kd.S kD29 29 W' W.heap.size (fun _ => True) v xt ∧ Below W.heap.size W W')
  (c50 : ∀ W (P : Nat → Prop) A c B d,(∀ k,W.heap.size ≤ k → P k) → Kd.V k29 29 W 0 P (.slice A xb.length c) xb → Kd.V k29 29 W 0 P (.slice B xt.length d) xt → Calls Try.prog 50 #[.agg #[.slice A xb.length c],.agg #[.int .i64 t.f0,.string t.f1,.int .i64 t.f2,.slice B xt.length d]] W fun e W' => ∃ v,e = .returned (.tuple #[.agg #[.int .i64 r0,.string r1,.int .i64 r2,v],.bool b]) ∧ Kd.S kD29 29 W' W.heap.size (fun _ => True) v xs ∧ Below W.heap.size W W')
  (c51 : ∀ W (P : Nat → Prop) A c B d,(∀ k,W.heap.size ≤ k → P k) → Kd.V k29 29 W 0 P (.slice A xb.length c) xb → Kd.V k29 29 W 0 P (.slice B xt.length d) xt → Calls Try.prog 51 #[.agg #[.slice A xb.length c],.agg #[.int .i64 t.f0,.string t.f1,.int .i64 t.f2,.slice B xt.length d]] W fun e W' => ∃ v,e = .returned (.tuple #[.agg #[.int .i64 r0,.string r1,.int .i64 r2,v],.bool b]) ∧ Kd.S kD29 29 W' W.heap.size (fun _ => True) v xs ∧ Below W.heap.size W W')
  (c19 : ∀ W A c B d,xs.length ≤ c → Kd.C k29 W A xs.length xs → xs.length ≤ d → Kd.C k29 W B xs.length xs → Calls Try.prog 19 #[.agg #[.int .i64 r0,.string r1,.int .i64 r2,.slice A xs.length c],.agg #[.int .i64 r0,.string r1,.int .i64 r2,.slice B xs.length d]] W fun e W' => e = .returned (.bool true) ∧ Below W.heap.size W W')
  (d19 : ∀ W A c B d,xt.length ≤ c → Kd.C k29 W A xt.length xt → xt.length ≤ d → Kd.C k29 W B xt.length xt → Calls Try.prog 19 #[.agg #[.int .i64 t.f0,.string t.f1,.int .i64 t.f2,.slice A xt.length c],.agg #[.int .i64 t.f0,.string t.f1,.int .i64 t.f2,.slice B xt.length d]] W fun e W' => e = .returned (.bool true) ∧ Below W.heap.size W W')
  (c24 : ∀ W A c B d,xb.length ≤ c → Kd.C k29 W A xb.length xb → xb.length ≤ d → Kd.C k29 W B xb.length xb → Calls Try.prog 24 #[.agg #[.slice A xb.length c],.agg #[.slice B xb.length d]] W fun e W' => e = .returned (.bool true) ∧ Below W.heap.size W W')
  (c25 : ∀ W base ok A c,base ≤ W.heap.size → Kd.S kD29 29 W base ok (.slice A xb.length c) xb → Calls Try.prog 25 #[.agg #[.slice A xb.length c],.int .i64 1] W fun e W' => e = .returned (.int .i64 m1) ∧ Kd.S kD29 29 W' base ok (.slice A xb.length c) yb ∧ Below base W W' ∧ Kept W W' ok)
  (d29 : ∀ W base ok A c,base ≤ W.heap.size → Kd.S kD29 29 W base ok (.slice A xt.length c) xt → Calls Try.prog 29 #[.agg #[.int .i64 t.f0,.string t.f1,.int .i64 t.f2,.slice A xt.length c],.int .i64 m1] W fun e W' => e = .returned (.int .i64 m2) ∧ Kd.S kD29 29 W' base ok (.slice A xt.length c) yt ∧ Below base W W' ∧ Kept W W' ok)
  (c29 : ∀ W base ok A c,base ≤ W.heap.size → Kd.S kD29 29 W base ok (.slice A xs.length c) xs → Calls Try.prog 29 #[.agg #[.int .i64 r0,.string r1,.int .i64 r2,.slice A xs.length c],.int .i64 1] W fun e W' => e = .returned (.int .i64 m) ∧ Kd.S kD29 29 W' base ok (.slice A xs.length c) ys ∧ Below base W W' ∧ Kept W W' ok)
  (c30 : ∀ W A c,xs.length ≤ c → Kd.C k29 W A xs.length ys → Calls Try.prog 30 #[.agg #[.int .i64 r0,.string r1,.int .i64 r2,.slice A xs.length c],.int .i64 1] W fun e W' => e = .returned (.int .i64 m) ∧ Below W.heap.size W W') :
  Calls Try.prog 12 #[.agg #[.slice A_B bl.length c_B],.agg #[.int .i64 t.f0,.string t.f1,.int .i64 t.f2,.slice A_T t.f3.length c_T]] w fun e w' => e = .returned (.bool true) ∧ Below w.heap.size w w':=by
 have HL_B:=Aside0.mk hlB
 have HC_B:=Aside0.mk hCB
 have HL_T:=Aside0.mk hlT
 have HC_T:=Aside0.mk hCT
 clear hlB hCB hlT hCT
 have cm0 : decide (m < 0) = false:=decide_eq_false (by omega)
 have cm1 : (m != m) = false:=by simp
 have cb1 : (b != b) = false:=by simp
 have cm2 : decide (m2 < 0) = false:=decide_eq_false (by omega)
 have cl1 : decide (left1 < 0) = false:=decide_eq_false (by omega)
 have cl2 : decide (left2 < 0) = false:=decide_eq_false (by omega)
 clear hm hm1 hm2 hl1 hl2
 have HB:=Aside0.mk (Below.refl w.heap.size w)
 go_enter Try.func12,Try.ntmps12
 go_wp2_with (first
  | ((with_reducible refine gate_dst (N := 2) rfl ?_); refine box_event ?hg2 (N := 2) ?hd2 (cs := #[.slice A_B bl.length c_B]) (t := 49) ?hr2 ?_; (case hd2 => rfl); (case hg2 => rfl); (case hr2 => first | (go_simp; done) | (go_simp; rfl)); intro g_b2 hg w1 hbox hb; have HG_b2 := Aside0.mk hg; have HL_b2 := Aside0.mk (blk_lt hbox); have CH0 := Aside0.mk hb.size; have n0_ := Aside0.mk (below_step HB.out hb); clear HB; have HB := n0_; clear n0_; have BK_b2 := Aside0.mk hbox; clear hg hbox hb)
  | ((with_reducible refine gate_dst (N := 3) rfl ?_); refine box_event ?hg3 (N := 3) ?hd3 (cs := #[.int .i64 t.f0, .string t.f1, .int .i64 t.f2, .slice A_T t.f3.length c_T]) (t := 24) ?hr3 ?_; (case hd3 => rfl); (case hg3 => rfl); (case hr3 => first | (go_simp; done) | (go_simp; rfl)); intro g_b3 hg w2 hbox hb; have HG_b3 := Aside0.mk hg; have HL_b3 := Aside0.mk (blk_lt hbox); have CH1 := Aside0.mk hb.size; have n0_ := Aside0.mk (below_step HB.out hb); have n1_ := Aside0.mk (blk_below BK_b2.out hb); clear HB BK_b2; have HB := n0_; have BK_b2 := n1_; clear n0_ n1_; have BK_b3 := Aside0.mk hbox; clear hg hbox hb; have hc_b2_0 : w2.cell? ⟨g_b2, 0, none⟩ = some (.slice A_B bl.length c_B) := (blk_cell BK_b2.out 0).trans rfl)
  | ((with_reducible refine gate_callee (f := 38) rfl ?_); refine goesL_ (some 19) rfl rfl Try.func38 (by kernel_rfl) rfl #[.agg #[.slice A_B bl.length c_B], .int .i64 1048576] rfl (by (try simp only [List.map_toArray, List.map_cons, List.map_nil]); first | done | rfl) ?_; refine (c38 _ _ _ HL_B.out (Kd.C_below HC_B.out HB.out)).mono ?_; rintro e w3 ⟨rfl, hb⟩; refine ⟨_, rfl, ?_⟩; have CH2 := Aside0.mk hb.size; have n0_ := Aside0.mk (below_step HB.out hb); have n1_ := Aside0.mk (blk_below BK_b2.out hb); have n2_ := Aside0.mk (blk_below BK_b3.out hb); clear HB BK_b2 BK_b3; have HB := n0_; have BK_b2 := n1_; have BK_b3 := n2_; clear n0_ n1_ n2_; clear hb; clear hc_b2_0; have hc_b3_0 : w3.cell? ⟨g_b3, 0, none⟩ = some (.int .i64 t.f0) := (blk_cell BK_b3.out 0).trans rfl; have hc_b3_1 : w3.cell? ⟨g_b3, 1, none⟩ = some (.string t.f1) := (blk_cell BK_b3.out 1).trans rfl; have hc_b3_2 : w3.cell? ⟨g_b3, 2, none⟩ = some (.int .i64 t.f2) := (blk_cell BK_b3.out 2).trans rfl; have hc_b3_3 : w3.cell? ⟨g_b3, 3, none⟩ = some (.slice A_T t.f3.length c_T) := (blk_cell BK_b3.out 3).trans rfl)
  | ((with_reducible refine gate_callee (f := 15) rfl ?_); refine goesL_ (some 24) rfl rfl Try.func15 (by kernel_rfl) rfl #[.agg #[.int .i64 t.f0, .string t.f1, .int .i64 t.f2, .slice A_T t.f3.length c_T], .int .i64 left1] rfl (by (try simp only [List.map_toArray, List.map_cons, List.map_nil]); first | done | rfl) ?_; refine (c15 _ _ _ HL_T.out (Kd.C_below HC_T.out HB.out)).mono ?_; rintro e w4 ⟨rfl, hb⟩; refine ⟨_, rfl, ?_⟩; have CH3 := Aside0.mk hb.size; have n0_ := Aside0.mk (below_step HB.out hb); have n1_ := Aside0.mk (blk_below BK_b2.out hb); have n2_ := Aside0.mk (blk_below BK_b3.out hb); clear HB BK_b2 BK_b3; have HB := n0_; have BK_b2 := n1_; have BK_b3 := n2_; clear n0_ n1_ n2_; clear hb; clear hc_b3_0 hc_b3_1 hc_b3_2 hc_b3_3))
 have hb:=below_drew (Below.refl w4.heap.size w4)
 have CH4:=Aside0.mk (show w4.heap.size ≤ w4.drew.heap.size from hb.size)
 have n0_:=Aside0.mk (below_step HB.out hb)
 have n1_:=Aside0.mk (blk_below BK_b2.out hb)
 have n2_:=Aside0.mk (blk_below BK_b3.out hb)
 clear HB BK_b2 BK_b3
 have HB:=n0_
 have BK_b2:=n1_
 have BK_b3:=n2_
 clear n0_ n1_ n2_
 clear hb
 refine start_ (n:=11) (S:=fun w' => w'.cell? ⟨g_b2,0,none⟩ = some (.slice A_B bl.length c_B) ∧ w'.cell? ⟨g_b3,0,none⟩ = some (.int .i64 t.f0) ∧ w'.cell? ⟨g_b3,1,none⟩ = some (.string t.f1) ∧ w'.cell? ⟨g_b3,2,none⟩ = some (.int .i64 t.f2) ∧ w'.cell? ⟨g_b3,3,none⟩ = some (.slice A_T t.f3.length c_T)) (ds:=[9]) #[false,false,false,false,false,false,false,false,false,false,false] (by kernel_rfl) rfl rfl ⟨(blk_cell BK_b2.out 0).trans rfl,(blk_cell BK_b3.out 0).trans rfl,(blk_cell BK_b3.out 1).trans rfl,(blk_cell BK_b3.out 2).trans rfl,(blk_cell BK_b3.out 3).trans rfl⟩ (fun hHeld => ?_);refine with_tabW lw12_8_tab lw12_8_bits (fun HT_ HW_ => ?_)
 generalize w4.drew = w5 at HB BK_b2 BK_b3 CH4 hHeld ⊢
 refine take_ (i:=0) (N:=some 28) (v:=?_) (a':=?_) #[true,false,false,false,false,false,false,false,false,false,false] rfl rfl (take_ofW HT_.out HW_.out (by kernel_rfl)) (fun _ _ _ h => h) (Or.inl ⟨by rfl,?_⟩) hHeld ?_ ?_
 rotate_left
 ·rintro w' ⟨s0,s1,s2,s3,s4⟩
  go_simp
  with_reducible rfl
 rotate_left
 ·simp only [Act.put,List.setIfInBounds_toArray,List.set_cons_zero,List.set_cons_succ,i64_w,i32_w]
  rfl
 refine take_ (i:=2) (N:=some 30) (v:=?_) (a':=?_) #[true,false,true,false,false,false,false,false,false,false,false] rfl rfl (take_ofW HT_.out HW_.out (by kernel_rfl)) (fun _ _ _ h => h) (Or.inl ⟨by rfl,?_⟩) hHeld ?_ ?_
 rotate_left
 ·rintro w' ⟨s0,s1,s2,s3,s4⟩
  go_simp
  with_reducible rfl
 rotate_left
 ·simp only [Act.put,List.setIfInBounds_toArray,List.set_cons_zero,List.set_cons_succ,i64_w,i32_w]
  rfl
 refine join_ (σ:=Option Addr × Nat × Option Addr × Nat × Option Addr × Nat × Nat) 2 #[true,true,true,true,true,true,true,true,true,false,false] (fun s => let ⟨A_e0,c_e0,A_f0,c_f0,A_w0,c_w0,g_b6⟩:=s;[(29,.agg #[.slice A_e0 xb.length c_e0]),(31,.agg #[.int .i64 t.f0,.string t.f1,.int .i64 t.f2,.slice A_f0 xt.length c_f0]),(32,.tuple #[.agg #[.int .i64 r0,.string r1,.int .i64 r2,.slice A_w0 xs.length c_w0],.bool b]),(27,.tuple #[.agg #[.int .i64 r0,.string r1,.int .i64 r2,.slice A_w0 xs.length c_w0],.bool b]),(33,.agg #[.int .i64 r0,.string r1,.int .i64 r2,.slice A_w0 xs.length c_w0]),(34,.bool b),(6,.pointer (some ⟨g_b6,0,none⟩))]) (fun s w' => let ⟨A_e0,c_e0,A_f0,c_f0,A_w0,c_w0,g_b6⟩:=s;Below w.heap.size w w' ∧ w'.heap[g_b2]? = some (.cells #[.slice A_B bl.length c_B] 49 (0,0)) ∧ w'.heap[g_b3]? = some (.cells #[.int .i64 t.f0,.string t.f1,.int .i64 t.f2,.slice A_T t.f3.length c_T] 24 (0,0)) ∧ Kd.S kD29 29 w' w5.heap.size (fun k_ => (w5.heap.size ≤ k_ ∧ k_ < w'.heap.size) ∧ k_ ≠ g_b6) (.slice A_w0 xs.length c_w0) xs ∧ w'.heap[g_b6]? = some (.cells #[.int .i64 0,.string (⟨#[]⟩ : ByteArray),.int .i64 0,.slice none 0 0] 29 (0,0)) ∧ w5.heap.size ≤ g_b6 ∧ g_b6 < w'.heap.size ∧ w5.heap.size ≤ w'.heap.size) ?_ ?_
 rotate_left
 ·intro hCont
  refine two_ (i:=1) (j:=8) (Ni:=some 29) (Nj:=some 6) #[true,true,true,false,false,false,false,false,false,false,false] #[true,false,true,false,false,false,false,false,true,false,false] rfl rfl rfl rfl (two_of HT_.out (by kernel_rfl)) (by decide) (by decide) (fun K hK => ?_) (fun K hK => ?_)
  ·skip
   refine goes_ Try.func40 (by kernel_rfl) rfl #[.agg #[.slice A_B bl.length c_B]] (by rfl) rfl rfl (by (try simp only [List.map_toArray,List.map_cons,List.map_nil]);first|done|rfl) ?_
   refine (c40 _ _ _ HL_B.out (Kd.C_below HC_B.out HB.out)).mono ?_
   rintro e w6 ⟨v_e0,rfl,ho_e0,hb⟩
   refine ⟨_,rfl,?_⟩
   have CH5:=Aside0.mk hb.size
   have HW_e0:=Aside0.mk HB.out.size
   have n0_:=Aside0.mk (below_step HB.out hb)
   have n1_:=Aside0.mk (blk_below BK_b2.out hb)
   have n2_:=Aside0.mk (blk_below BK_b3.out hb)
   clear HB BK_b2 BK_b3
   have HB:=n0_
   have BK_b2:=n1_
   have BK_b3:=n2_
   clear n0_ n1_ n2_
   obtain ⟨A_e0,c_e0,rfl⟩:=Kd.S_slice ho_e0
   have RW_e0:=Aside0.mk (Kd.S_mono (ok':=fun k_ => w5.heap.size ≤ k_ ∧ k_ < w6.heap.size) (Kd.S_bound ho_e0) (fun k_ hk_ => ⟨hk_.2.1,hk_.2.2.1⟩))
   clear hb ho_e0
   refine hK.out _ _ ⟨(blk_cell BK_b2.out 0).trans rfl,(blk_cell BK_b3.out 0).trans rfl,(blk_cell BK_b3.out 1).trans rfl,(blk_cell BK_b3.out 2).trans rfl,(blk_cell BK_b3.out 3).trans rfl⟩ (fun hHeld => ?_)
   clear hK K
   refine norm_ (a':=?_) ?_ ?_
   rotate_left
   ·show Act.put _ (some 29) _ = _
    simp only [Act.put,List.setIfInBounds_toArray,List.set_cons_zero,List.set_cons_succ,i64_w,i32_w]
    rfl
   refine two_ (i:=3) (j:=8) (Ni:=some 31) (Nj:=some 6) #[true,true,true,true,false,false,false,false,false,false,false] #[true,true,true,false,false,false,false,false,true,false,false] rfl rfl rfl rfl (two_of HT_.out (by kernel_rfl)) (by decide) (by decide) (fun K hK => ?_) (fun K hK => ?_)
   ·skip
    refine goes_ Try.func17 (by kernel_rfl) rfl #[.agg #[.int .i64 t.f0,.string t.f1,.int .i64 t.f2,.slice A_T t.f3.length c_T]] (by rfl) rfl rfl (by (try simp only [List.map_toArray,List.map_cons,List.map_nil]);first|done|rfl) ?_
    refine (c17 _ _ _ HL_T.out (Kd.C_below HC_T.out HB.out)).mono ?_
    rintro e w7 ⟨v_f0,rfl,ho_f0,hb⟩
    refine ⟨_,rfl,?_⟩
    have CH6:=Aside0.mk hb.size
    have HW_f0:=Aside0.mk HB.out.size
    have n0_:=Aside0.mk (below_step HB.out hb)
    have n1_:=Aside0.mk (blk_below BK_b2.out hb)
    have n2_:=Aside0.mk (blk_below BK_b3.out hb)
    have n3_:=Aside0.mk (Kd.S_below RW_e0.out hb)
    clear HB BK_b2 BK_b3 RW_e0
    have HB:=n0_
    have BK_b2:=n1_
    have BK_b3:=n2_
    have RW_e0:=n3_
    clear n0_ n1_ n2_ n3_
    obtain ⟨A_f0,c_f0,rfl⟩:=Kd.S_slice ho_f0
    have RW_f0:=Aside0.mk (Kd.S_mono (ok':=fun k_ => w6.heap.size ≤ k_ ∧ k_ < w7.heap.size) (Kd.S_bound ho_f0) (fun k_ hk_ => ⟨hk_.2.1,hk_.2.2.1⟩))
    clear hb ho_f0
    refine hK.out _ _ ⟨(blk_cell BK_b2.out 0).trans rfl,(blk_cell BK_b3.out 0).trans rfl,(blk_cell BK_b3.out 1).trans rfl,(blk_cell BK_b3.out 2).trans rfl,(blk_cell BK_b3.out 3).trans rfl⟩ (fun hHeld => ?_)
    clear hK K
    refine norm_ (a':=?_) ?_ ?_
    rotate_left
    ·show Act.put _ (some 31) _ = _
     simp only [Act.put,List.setIfInBounds_toArray,List.set_cons_zero,List.set_cons_succ,i64_w,i32_w]
     rfl
    refine two_ (i:=4) (j:=8) (Ni:=some 32) (Nj:=some 6) #[true,true,true,true,true,false,false,false,false,false,false] #[true,true,true,true,false,false,false,false,true,false,false] rfl rfl rfl rfl (two_of HT_.out (by kernel_rfl)) (by decide) (by decide) (fun K hK => ?_) (fun K hK => ?_)
    ·skip
     refine goes_ Try.func50 (by kernel_rfl) rfl #[.agg #[.slice A_e0 xb.length c_e0],.agg #[.int .i64 t.f0,.string t.f1,.int .i64 t.f2,.slice A_f0 xt.length c_f0]] (by rfl) rfl rfl (by (try simp only [List.map_toArray,List.map_cons,List.map_nil]);first|done|rfl) ?_
     refine (c50 _ (fun k_ => w5.heap.size ≤ k_) _ _ _ _ (fun k_ hk_ => by have:=CH0.out;have:=CH1.out;have:=CH2.out;have:=CH3.out;have:=CH4.out;have:=CH5.out;have:=CH6.out;omega) (Kd.V_mono (Kd.R_V (base':=0) (S_k29 RW_e0.out)) (fun k_ hk_ => by have:=CH0.out;have:=CH1.out;have:=CH2.out;have:=CH3.out;have:=CH4.out;have:=CH5.out;have:=CH6.out;omega)) (Kd.V_mono (Kd.R_V (base':=0) (S_k29 RW_f0.out)) (fun k_ hk_ => by have:=CH0.out;have:=CH1.out;have:=CH2.out;have:=CH3.out;have:=CH4.out;have:=CH5.out;have:=CH6.out;omega))).mono ?_
     rintro e w8 ⟨v_w0,rfl,ho_w0,hb⟩
     refine ⟨_,rfl,?_⟩
     have CH7:=Aside0.mk hb.size
     have HW_w0:=Aside0.mk HB.out.size
     have n0_:=Aside0.mk (below_step HB.out hb)
     have n1_:=Aside0.mk (blk_below BK_b2.out hb)
     have n2_:=Aside0.mk (blk_below BK_b3.out hb)
     have n3_:=Aside0.mk (Kd.S_below RW_e0.out hb)
     have n4_:=Aside0.mk (Kd.S_below RW_f0.out hb)
     clear HB BK_b2 BK_b3 RW_e0 RW_f0
     have HB:=n0_
     have BK_b2:=n1_
     have BK_b3:=n2_
     have RW_e0:=n3_
     have RW_f0:=n4_
     clear n0_ n1_ n2_ n3_ n4_
     obtain ⟨A_w0,c_w0,rfl⟩:=Kd.S_slice ho_w0
     have RW_w0:=Aside0.mk (Kd.S_mono (ok':=fun k_ => w7.heap.size ≤ k_ ∧ k_ < w8.heap.size) (Kd.S_bound ho_w0) (fun k_ hk_ => ⟨hk_.2.1,hk_.2.2.1⟩))
     clear hb ho_w0
     clear RW_e0
     clear RW_f0
     refine hK.out _ _ ⟨(blk_cell BK_b2.out 0).trans rfl,(blk_cell BK_b3.out 0).trans rfl,(blk_cell BK_b3.out 1).trans rfl,(blk_cell BK_b3.out 2).trans rfl,(blk_cell BK_b3.out 3).trans rfl⟩ (fun hHeld => ?_)
     clear hK K
     refine norm_ (a':=?_) ?_ ?_
     rotate_left
     ·show Act.put _ (some 32) _ = _
      simp only [Act.put,List.setIfInBounds_toArray,List.set_cons_zero,List.set_cons_succ,i64_w,i32_w]
      rfl
     refine pure_ (i:=5) (N:=some 27) (v:=?_) (a':=?_) #[true,true,true,true,true,true,false,false,false,false,false] rfl rfl (any_of HT_.out (by kernel_rfl)) (fun _ _ _ h => h) (Or.inl ⟨by rfl,?_⟩) ?_ ?_
     rotate_left
     ·intro w'
      go_simp
      with_reducible rfl
     rotate_left
     ·simp only [Act.put,List.setIfInBounds_toArray,List.set_cons_zero,List.set_cons_succ,i64_w,i32_w]
      rfl
     refine pure_ (i:=6) (N:=some 33) (v:=?_) (a':=?_) #[true,true,true,true,true,true,true,false,false,false,false] rfl rfl (any_of HT_.out (by kernel_rfl)) (fun _ _ _ h => h) (Or.inl ⟨by rfl,?_⟩) ?_ ?_
     rotate_left
     ·intro w'
      go_simp
      with_reducible rfl
     rotate_left
     ·simp only [Act.put,List.setIfInBounds_toArray,List.set_cons_zero,List.set_cons_succ,i64_w,i32_w]
      rfl
     refine pure_ (i:=7) (N:=some 34) (v:=?_) (a':=?_) #[true,true,true,true,true,true,true,true,false,false,false] rfl rfl (any_of HT_.out (by kernel_rfl)) (fun _ _ _ h => h) (Or.inl ⟨by rfl,?_⟩) ?_ ?_
     rotate_left
     ·intro w'
      go_simp
      with_reducible rfl
     rotate_left
     ·simp only [Act.put,List.setIfInBounds_toArray,List.set_cons_zero,List.set_cons_succ,i64_w,i32_w]
      rfl
     refine one_ (i:=8) (N:=some 6) #[true,true,true,true,true,true,true,true,true,false,false] rfl rfl (one_of HT_.out (by kernel_rfl)) (by decide) (fun K hK => ?_)
     refine box_step (by rfl) (N:=6) rfl (cs:=#[.int .i64 0,.string (⟨#[]⟩ : ByteArray),.int .i64 0,.slice none 0 0]) (t:=29) ?hra ?_
     (case hra => first|(go_simp;done)|(go_simp;rfl))
     intro g_b6 hg w9 hbox hb
     have BZ:=Aside0.mk hbox
     have HGA:=Aside0.mk (show w5.heap.size ≤ g_b6 by have:=CH0.out;have:=CH1.out;have:=CH2.out;have:=CH3.out;have:=CH4.out;have:=CH5.out;have:=CH6.out;have:=CH7.out;omega)
     have HGC:=Aside0.mk hg
     have HGD:=Aside0.mk (blk_lt hbox)
     have HGB:=Aside0.mk (blk_lt hbox)
     have CH8:=Aside0.mk hb.size
     have n0_:=Aside0.mk (below_step HB.out hb)
     have n1_:=Aside0.mk (blk_below BK_b2.out hb)
     have n2_:=Aside0.mk (blk_below BK_b3.out hb)
     have n3_:=Aside0.mk (Kd.S_below RW_w0.out hb)
     clear HB BK_b2 BK_b3 RW_w0
     have HB:=n0_
     have BK_b2:=n1_
     have BK_b3:=n2_
     have RW_w0:=n3_
     clear n0_ n1_ n2_ n3_
     clear hg hbox hb
     refine hK.out _ _ ⟨(blk_cell BK_b2.out 0).trans rfl,(blk_cell BK_b3.out 0).trans rfl,(blk_cell BK_b3.out 1).trans rfl,(blk_cell BK_b3.out 2).trans rfl,(blk_cell BK_b3.out 3).trans rfl⟩ (fun hHeld => ?_)
     clear hK K
     refine norm_ (a':=?_) ?_ ?_
     rotate_left
     ·show Act.put _ (some 6) _ = _
      simp only [Act.put,List.setIfInBounds_toArray,List.set_cons_zero,List.set_cons_succ,i64_w,i32_w]
      rfl
     exact norm_ (by simp only [putAll,Act.put,List.setIfInBounds_toArray,List.set_cons_zero,List.set_cons_succ]) (hCont (A_e0,c_e0,A_f0,c_f0,A_w0,c_w0,g_b6) _ ⟨HB.out,BK_b2.out,BK_b3.out,(by have h_:=RW_w0.out;exact Kd.S_mono (Kd.S_lower h_ (by have:=CH0.out;have:=CH1.out;have:=CH2.out;have:=CH3.out;have:=CH4.out;have:=CH5.out;have:=CH6.out;have:=CH7.out;have:=CH8.out;omega)) (fun k_ hk_ => ⟨⟨by have:=CH0.out;have:=CH1.out;have:=CH2.out;have:=CH3.out;have:=CH4.out;have:=CH5.out;have:=CH6.out;have:=CH7.out;have:=CH8.out;omega,by have:=CH0.out;have:=CH1.out;have:=CH2.out;have:=CH3.out;have:=CH4.out;have:=CH5.out;have:=CH6.out;have:=CH7.out;have:=CH8.out;omega⟩,by have:=HGC.out;have:=HGA.out;have:=HGD.out;have:=CH0.out;have:=CH1.out;have:=CH2.out;have:=CH3.out;have:=CH4.out;have:=CH5.out;have:=CH6.out;have:=CH7.out;have:=CH8.out;omega⟩)),BZ.out,HGA.out,HGB.out,(by have:=CH0.out;have:=CH1.out;have:=CH2.out;have:=CH3.out;have:=CH4.out;have:=CH5.out;have:=CH6.out;have:=CH7.out;have:=CH8.out;omega)⟩)
    ·skip
     refine box_step (by rfl) (N:=6) rfl (cs:=#[.int .i64 0,.string (⟨#[]⟩ : ByteArray),.int .i64 0,.slice none 0 0]) (t:=29) ?hra ?_
     (case hra => first|(go_simp;done)|(go_simp;rfl))
     intro g_b6 hg w8 hbox hb
     have BZ:=Aside0.mk hbox
     have HGA:=Aside0.mk (show w5.heap.size ≤ g_b6 by have:=CH0.out;have:=CH1.out;have:=CH2.out;have:=CH3.out;have:=CH4.out;have:=CH5.out;have:=CH6.out;omega)
     have HGC:=Aside0.mk hg
     have HGD:=Aside0.mk (blk_lt hbox)
     have HGB:=Aside0.mk (blk_lt hbox)
     have CH7:=Aside0.mk hb.size
     have n0_:=Aside0.mk (below_step HB.out hb)
     have n1_:=Aside0.mk (blk_below BK_b2.out hb)
     have n2_:=Aside0.mk (blk_below BK_b3.out hb)
     have n3_:=Aside0.mk (Kd.S_below RW_e0.out hb)
     have n4_:=Aside0.mk (Kd.S_below RW_f0.out hb)
     clear HB BK_b2 BK_b3 RW_e0 RW_f0
     have HB:=n0_
     have BK_b2:=n1_
     have BK_b3:=n2_
     have RW_e0:=n3_
     have RW_f0:=n4_
     clear n0_ n1_ n2_ n3_ n4_
     clear hg hbox hb
     refine hK.out _ _ ⟨(blk_cell BK_b2.out 0).trans rfl,(blk_cell BK_b3.out 0).trans rfl,(blk_cell BK_b3.out 1).trans rfl,(blk_cell BK_b3.out 2).trans rfl,(blk_cell BK_b3.out 3).trans rfl⟩ (fun hHeld => ?_)
     clear hK K
     refine norm_ (a':=?_) ?_ ?_
     rotate_left
     ·show Act.put _ (some 6) _ = _
      simp only [Act.put,List.setIfInBounds_toArray,List.set_cons_zero,List.set_cons_succ,i64_w,i32_w]
      rfl
     refine one_ (i:=4) (N:=some 32) #[true,true,true,true,true,false,false,false,true,false,false] rfl rfl (one_of HT_.out (by kernel_rfl)) (by decide) (fun K hK => ?_)
     refine goes_ Try.func50 (by kernel_rfl) rfl #[.agg #[.slice A_e0 xb.length c_e0],.agg #[.int .i64 t.f0,.string t.f1,.int .i64 t.f2,.slice A_f0 xt.length c_f0]] (by rfl) rfl rfl (by (try simp only [List.map_toArray,List.map_cons,List.map_nil]);first|done|rfl) ?_
     refine (c50 _ (fun k_ => w5.heap.size ≤ k_ ∧ k_ ≠ g_b6) _ _ _ _ (fun k_ hk_ => by have:=HGA.out;have:=HGC.out;have:=HGD.out;have:=CH0.out;have:=CH1.out;have:=CH2.out;have:=CH3.out;have:=CH4.out;have:=CH5.out;have:=CH6.out;have:=CH7.out;omega) (Kd.V_mono (Kd.R_V (base':=0) (S_k29 RW_e0.out)) (fun k_ hk_ => by have:=HGA.out;have:=HGC.out;have:=HGD.out;have:=CH0.out;have:=CH1.out;have:=CH2.out;have:=CH3.out;have:=CH4.out;have:=CH5.out;have:=CH6.out;have:=CH7.out;omega)) (Kd.V_mono (Kd.R_V (base':=0) (S_k29 RW_f0.out)) (fun k_ hk_ => by have:=HGA.out;have:=HGC.out;have:=HGD.out;have:=CH0.out;have:=CH1.out;have:=CH2.out;have:=CH3.out;have:=CH4.out;have:=CH5.out;have:=CH6.out;have:=CH7.out;omega))).mono ?_
     rintro e w9 ⟨v_w0,rfl,ho_w0,hb⟩
     refine ⟨_,rfl,?_⟩
     have QZ:=Aside0.mk (blk_below BZ.out hb)
     have QB:=Aside0.mk (Nat.lt_of_lt_of_le HGB.out hb.size)
     clear BZ HGB
     have BZ:=QZ
     have HGB:=QB
     clear QZ QB
     have CH8:=Aside0.mk hb.size
     have HW_w0:=Aside0.mk HB.out.size
     have n0_:=Aside0.mk (below_step HB.out hb)
     have n1_:=Aside0.mk (blk_below BK_b2.out hb)
     have n2_:=Aside0.mk (blk_below BK_b3.out hb)
     have n3_:=Aside0.mk (Kd.S_below RW_e0.out hb)
     have n4_:=Aside0.mk (Kd.S_below RW_f0.out hb)
     clear HB BK_b2 BK_b3 RW_e0 RW_f0
     have HB:=n0_
     have BK_b2:=n1_
     have BK_b3:=n2_
     have RW_e0:=n3_
     have RW_f0:=n4_
     clear n0_ n1_ n2_ n3_ n4_
     obtain ⟨A_w0,c_w0,rfl⟩:=Kd.S_slice ho_w0
     have RW_w0:=Aside0.mk (Kd.S_mono (ok':=fun k_ => w8.heap.size ≤ k_ ∧ k_ < w9.heap.size) (Kd.S_bound ho_w0) (fun k_ hk_ => ⟨hk_.2.1,hk_.2.2.1⟩))
     clear hb ho_w0
     clear RW_e0
     clear RW_f0
     refine hK.out _ _ ⟨(blk_cell BK_b2.out 0).trans rfl,(blk_cell BK_b3.out 0).trans rfl,(blk_cell BK_b3.out 1).trans rfl,(blk_cell BK_b3.out 2).trans rfl,(blk_cell BK_b3.out 3).trans rfl⟩ (fun hHeld => ?_)
     clear hK K
     refine norm_ (a':=?_) ?_ ?_
     rotate_left
     ·show Act.put _ (some 32) _ = _
      simp only [Act.put,List.setIfInBounds_toArray,List.set_cons_zero,List.set_cons_succ,i64_w,i32_w]
      rfl
     refine pure_ (i:=5) (N:=some 27) (v:=?_) (a':=?_) #[true,true,true,true,true,true,false,false,true,false,false] rfl rfl (any_of HT_.out (by kernel_rfl)) (fun _ _ _ h => h) (Or.inl ⟨by rfl,?_⟩) ?_ ?_
     rotate_left
     ·intro w'
      go_simp
      with_reducible rfl
     rotate_left
     ·simp only [Act.put,List.setIfInBounds_toArray,List.set_cons_zero,List.set_cons_succ,i64_w,i32_w]
      rfl
     refine pure_ (i:=6) (N:=some 33) (v:=?_) (a':=?_) #[true,true,true,true,true,true,true,false,true,false,false] rfl rfl (any_of HT_.out (by kernel_rfl)) (fun _ _ _ h => h) (Or.inl ⟨by rfl,?_⟩) ?_ ?_
     rotate_left
     ·intro w'
      go_simp
      with_reducible rfl
     rotate_left
     ·simp only [Act.put,List.setIfInBounds_toArray,List.set_cons_zero,List.set_cons_succ,i64_w,i32_w]
      rfl
     refine pure_ (i:=7) (N:=some 34) (v:=?_) (a':=?_) #[true,true,true,true,true,true,true,true,true,false,false] rfl rfl (any_of HT_.out (by kernel_rfl)) (fun _ _ _ h => h) (Or.inl ⟨by rfl,?_⟩) ?_ ?_
     rotate_left
     ·intro w'
      go_simp
      with_reducible rfl
     rotate_left
     ·simp only [Act.put,List.setIfInBounds_toArray,List.set_cons_zero,List.set_cons_succ,i64_w,i32_w]
      rfl
     exact norm_ (by simp only [putAll,Act.put,List.setIfInBounds_toArray,List.set_cons_zero,List.set_cons_succ]) (hCont (A_e0,c_e0,A_f0,c_f0,A_w0,c_w0,g_b6) _ ⟨HB.out,BK_b2.out,BK_b3.out,(by have h_:=RW_w0.out;exact Kd.S_mono (Kd.S_lower h_ (by have:=CH0.out;have:=CH1.out;have:=CH2.out;have:=CH3.out;have:=CH4.out;have:=CH5.out;have:=CH6.out;have:=CH7.out;have:=CH8.out;omega)) (fun k_ hk_ => ⟨⟨by have:=CH0.out;have:=CH1.out;have:=CH2.out;have:=CH3.out;have:=CH4.out;have:=CH5.out;have:=CH6.out;have:=CH7.out;have:=CH8.out;omega,by have:=CH0.out;have:=CH1.out;have:=CH2.out;have:=CH3.out;have:=CH4.out;have:=CH5.out;have:=CH6.out;have:=CH7.out;have:=CH8.out;omega⟩,by have:=HGC.out;have:=HGA.out;have:=HGD.out;have:=CH0.out;have:=CH1.out;have:=CH2.out;have:=CH3.out;have:=CH4.out;have:=CH5.out;have:=CH6.out;have:=CH7.out;have:=CH8.out;omega⟩)),BZ.out,HGA.out,HGB.out,(by have:=CH0.out;have:=CH1.out;have:=CH2.out;have:=CH3.out;have:=CH4.out;have:=CH5.out;have:=CH6.out;have:=CH7.out;have:=CH8.out;omega)⟩)
   ·skip
    refine box_step (by rfl) (N:=6) rfl (cs:=#[.int .i64 0,.string (⟨#[]⟩ : ByteArray),.int .i64 0,.slice none 0 0]) (t:=29) ?hra ?_
    (case hra => first|(go_simp;done)|(go_simp;rfl))
    intro g_b6 hg w7 hbox hb
    have BZ:=Aside0.mk hbox
    have HGA:=Aside0.mk (show w5.heap.size ≤ g_b6 by have:=CH0.out;have:=CH1.out;have:=CH2.out;have:=CH3.out;have:=CH4.out;have:=CH5.out;omega)
    have HGC:=Aside0.mk hg
    have HGD:=Aside0.mk (blk_lt hbox)
    have HGB:=Aside0.mk (blk_lt hbox)
    have CH6:=Aside0.mk hb.size
    have n0_:=Aside0.mk (below_step HB.out hb)
    have n1_:=Aside0.mk (blk_below BK_b2.out hb)
    have n2_:=Aside0.mk (blk_below BK_b3.out hb)
    have n3_:=Aside0.mk (Kd.S_below RW_e0.out hb)
    clear HB BK_b2 BK_b3 RW_e0
    have HB:=n0_
    have BK_b2:=n1_
    have BK_b3:=n2_
    have RW_e0:=n3_
    clear n0_ n1_ n2_ n3_
    clear hg hbox hb
    refine hK.out _ _ ⟨(blk_cell BK_b2.out 0).trans rfl,(blk_cell BK_b3.out 0).trans rfl,(blk_cell BK_b3.out 1).trans rfl,(blk_cell BK_b3.out 2).trans rfl,(blk_cell BK_b3.out 3).trans rfl⟩ (fun hHeld => ?_)
    clear hK K
    refine norm_ (a':=?_) ?_ ?_
    rotate_left
    ·show Act.put _ (some 6) _ = _
     simp only [Act.put,List.setIfInBounds_toArray,List.set_cons_zero,List.set_cons_succ,i64_w,i32_w]
     rfl
    refine one_ (i:=3) (N:=some 31) #[true,true,true,true,false,false,false,false,true,false,false] rfl rfl (one_of HT_.out (by kernel_rfl)) (by decide) (fun K hK => ?_)
    refine goes_ Try.func17 (by kernel_rfl) rfl #[.agg #[.int .i64 t.f0,.string t.f1,.int .i64 t.f2,.slice A_T t.f3.length c_T]] (by rfl) rfl rfl (by (try simp only [List.map_toArray,List.map_cons,List.map_nil]);first|done|rfl) ?_
    refine (c17 _ _ _ HL_T.out (Kd.C_below HC_T.out HB.out)).mono ?_
    rintro e w8 ⟨v_f0,rfl,ho_f0,hb⟩
    refine ⟨_,rfl,?_⟩
    have QZ:=Aside0.mk (blk_below BZ.out hb)
    have QB:=Aside0.mk (Nat.lt_of_lt_of_le HGB.out hb.size)
    clear BZ HGB
    have BZ:=QZ
    have HGB:=QB
    clear QZ QB
    have CH7:=Aside0.mk hb.size
    have HW_f0:=Aside0.mk HB.out.size
    have n0_:=Aside0.mk (below_step HB.out hb)
    have n1_:=Aside0.mk (blk_below BK_b2.out hb)
    have n2_:=Aside0.mk (blk_below BK_b3.out hb)
    have n3_:=Aside0.mk (Kd.S_below RW_e0.out hb)
    clear HB BK_b2 BK_b3 RW_e0
    have HB:=n0_
    have BK_b2:=n1_
    have BK_b3:=n2_
    have RW_e0:=n3_
    clear n0_ n1_ n2_ n3_
    obtain ⟨A_f0,c_f0,rfl⟩:=Kd.S_slice ho_f0
    have RW_f0:=Aside0.mk (Kd.S_mono (ok':=fun k_ => w7.heap.size ≤ k_ ∧ k_ < w8.heap.size) (Kd.S_bound ho_f0) (fun k_ hk_ => ⟨hk_.2.1,hk_.2.2.1⟩))
    clear hb ho_f0
    refine hK.out _ _ ⟨(blk_cell BK_b2.out 0).trans rfl,(blk_cell BK_b3.out 0).trans rfl,(blk_cell BK_b3.out 1).trans rfl,(blk_cell BK_b3.out 2).trans rfl,(blk_cell BK_b3.out 3).trans rfl⟩ (fun hHeld => ?_)
    clear hK K
    refine norm_ (a':=?_) ?_ ?_
    rotate_left
    ·show Act.put _ (some 31) _ = _
     simp only [Act.put,List.setIfInBounds_toArray,List.set_cons_zero,List.set_cons_succ,i64_w,i32_w]
     rfl
    refine one_ (i:=4) (N:=some 32) #[true,true,true,true,true,false,false,false,true,false,false] rfl rfl (one_of HT_.out (by kernel_rfl)) (by decide) (fun K hK => ?_)
    refine goes_ Try.func50 (by kernel_rfl) rfl #[.agg #[.slice A_e0 xb.length c_e0],.agg #[.int .i64 t.f0,.string t.f1,.int .i64 t.f2,.slice A_f0 xt.length c_f0]] (by rfl) rfl rfl (by (try simp only [List.map_toArray,List.map_cons,List.map_nil]);first|done|rfl) ?_
    refine (c50 _ (fun k_ => w5.heap.size ≤ k_ ∧ k_ ≠ g_b6) _ _ _ _ (fun k_ hk_ => by have:=HGA.out;have:=HGC.out;have:=HGD.out;have:=CH0.out;have:=CH1.out;have:=CH2.out;have:=CH3.out;have:=CH4.out;have:=CH5.out;have:=CH6.out;have:=CH7.out;omega) (Kd.V_mono (Kd.R_V (base':=0) (S_k29 RW_e0.out)) (fun k_ hk_ => by have:=HGA.out;have:=HGC.out;have:=HGD.out;have:=CH0.out;have:=CH1.out;have:=CH2.out;have:=CH3.out;have:=CH4.out;have:=CH5.out;have:=CH6.out;have:=CH7.out;omega)) (Kd.V_mono (Kd.R_V (base':=0) (S_k29 RW_f0.out)) (fun k_ hk_ => by have:=HGA.out;have:=HGC.out;have:=HGD.out;have:=CH0.out;have:=CH1.out;have:=CH2.out;have:=CH3.out;have:=CH4.out;have:=CH5.out;have:=CH6.out;have:=CH7.out;omega))).mono ?_
    rintro e w9 ⟨v_w0,rfl,ho_w0,hb⟩
    refine ⟨_,rfl,?_⟩
    have QZ:=Aside0.mk (blk_below BZ.out hb)
    have QB:=Aside0.mk (Nat.lt_of_lt_of_le HGB.out hb.size)
    clear BZ HGB
    have BZ:=QZ
    have HGB:=QB
    clear QZ QB
    have CH8:=Aside0.mk hb.size
    have HW_w0:=Aside0.mk HB.out.size
    have n0_:=Aside0.mk (below_step HB.out hb)
    have n1_:=Aside0.mk (blk_below BK_b2.out hb)
    have n2_:=Aside0.mk (blk_below BK_b3.out hb)
    have n3_:=Aside0.mk (Kd.S_below RW_e0.out hb)
    have n4_:=Aside0.mk (Kd.S_below RW_f0.out hb)
    clear HB BK_b2 BK_b3 RW_e0 RW_f0
    have HB:=n0_
    have BK_b2:=n1_
    have BK_b3:=n2_
    have RW_e0:=n3_
    have RW_f0:=n4_
    clear n0_ n1_ n2_ n3_ n4_
    obtain ⟨A_w0,c_w0,rfl⟩:=Kd.S_slice ho_w0
    have RW_w0:=Aside0.mk (Kd.S_mono (ok':=fun k_ => w8.heap.size ≤ k_ ∧ k_ < w9.heap.size) (Kd.S_bound ho_w0) (fun k_ hk_ => ⟨hk_.2.1,hk_.2.2.1⟩))
    clear hb ho_w0
    clear RW_e0
    clear RW_f0
    refine hK.out _ _ ⟨(blk_cell BK_b2.out 0).trans rfl,(blk_cell BK_b3.out 0).trans rfl,(blk_cell BK_b3.out 1).trans rfl,(blk_cell BK_b3.out 2).trans rfl,(blk_cell BK_b3.out 3).trans rfl⟩ (fun hHeld => ?_)
    clear hK K
    refine norm_ (a':=?_) ?_ ?_
    rotate_left
    ·show Act.put _ (some 32) _ = _
     simp only [Act.put,List.setIfInBounds_toArray,List.set_cons_zero,List.set_cons_succ,i64_w,i32_w]
     rfl
    refine pure_ (i:=5) (N:=some 27) (v:=?_) (a':=?_) #[true,true,true,true,true,true,false,false,true,false,false] rfl rfl (any_of HT_.out (by kernel_rfl)) (fun _ _ _ h => h) (Or.inl ⟨by rfl,?_⟩) ?_ ?_
    rotate_left
    ·intro w'
     go_simp
     with_reducible rfl
    rotate_left
    ·simp only [Act.put,List.setIfInBounds_toArray,List.set_cons_zero,List.set_cons_succ,i64_w,i32_w]
     rfl
    refine pure_ (i:=6) (N:=some 33) (v:=?_) (a':=?_) #[true,true,true,true,true,true,true,false,true,false,false] rfl rfl (any_of HT_.out (by kernel_rfl)) (fun _ _ _ h => h) (Or.inl ⟨by rfl,?_⟩) ?_ ?_
    rotate_left
    ·intro w'
     go_simp
     with_reducible rfl
    rotate_left
    ·simp only [Act.put,List.setIfInBounds_toArray,List.set_cons_zero,List.set_cons_succ,i64_w,i32_w]
     rfl
    refine pure_ (i:=7) (N:=some 34) (v:=?_) (a':=?_) #[true,true,true,true,true,true,true,true,true,false,false] rfl rfl (any_of HT_.out (by kernel_rfl)) (fun _ _ _ h => h) (Or.inl ⟨by rfl,?_⟩) ?_ ?_
    rotate_left
    ·intro w'
     go_simp
     with_reducible rfl
    rotate_left
    ·simp only [Act.put,List.setIfInBounds_toArray,List.set_cons_zero,List.set_cons_succ,i64_w,i32_w]
     rfl
    exact norm_ (by simp only [putAll,Act.put,List.setIfInBounds_toArray,List.set_cons_zero,List.set_cons_succ]) (hCont (A_e0,c_e0,A_f0,c_f0,A_w0,c_w0,g_b6) _ ⟨HB.out,BK_b2.out,BK_b3.out,(by have h_:=RW_w0.out;exact Kd.S_mono (Kd.S_lower h_ (by have:=CH0.out;have:=CH1.out;have:=CH2.out;have:=CH3.out;have:=CH4.out;have:=CH5.out;have:=CH6.out;have:=CH7.out;have:=CH8.out;omega)) (fun k_ hk_ => ⟨⟨by have:=CH0.out;have:=CH1.out;have:=CH2.out;have:=CH3.out;have:=CH4.out;have:=CH5.out;have:=CH6.out;have:=CH7.out;have:=CH8.out;omega,by have:=CH0.out;have:=CH1.out;have:=CH2.out;have:=CH3.out;have:=CH4.out;have:=CH5.out;have:=CH6.out;have:=CH7.out;have:=CH8.out;omega⟩,by have:=HGC.out;have:=HGA.out;have:=HGD.out;have:=CH0.out;have:=CH1.out;have:=CH2.out;have:=CH3.out;have:=CH4.out;have:=CH5.out;have:=CH6.out;have:=CH7.out;have:=CH8.out;omega⟩)),BZ.out,HGA.out,HGB.out,(by have:=CH0.out;have:=CH1.out;have:=CH2.out;have:=CH3.out;have:=CH4.out;have:=CH5.out;have:=CH6.out;have:=CH7.out;have:=CH8.out;omega)⟩)
  ·skip
   refine box_step (by rfl) (N:=6) rfl (cs:=#[.int .i64 0,.string (⟨#[]⟩ : ByteArray),.int .i64 0,.slice none 0 0]) (t:=29) ?hra ?_
   (case hra => first|(go_simp;done)|(go_simp;rfl))
   intro g_b6 hg w6 hbox hb
   have BZ:=Aside0.mk hbox
   have HGA:=Aside0.mk (show w5.heap.size ≤ g_b6 by have:=CH0.out;have:=CH1.out;have:=CH2.out;have:=CH3.out;have:=CH4.out;omega)
   have HGC:=Aside0.mk hg
   have HGD:=Aside0.mk (blk_lt hbox)
   have HGB:=Aside0.mk (blk_lt hbox)
   have CH5:=Aside0.mk hb.size
   have n0_:=Aside0.mk (below_step HB.out hb)
   have n1_:=Aside0.mk (blk_below BK_b2.out hb)
   have n2_:=Aside0.mk (blk_below BK_b3.out hb)
   clear HB BK_b2 BK_b3
   have HB:=n0_
   have BK_b2:=n1_
   have BK_b3:=n2_
   clear n0_ n1_ n2_
   clear hg hbox hb
   refine hK.out _ _ ⟨(blk_cell BK_b2.out 0).trans rfl,(blk_cell BK_b3.out 0).trans rfl,(blk_cell BK_b3.out 1).trans rfl,(blk_cell BK_b3.out 2).trans rfl,(blk_cell BK_b3.out 3).trans rfl⟩ (fun hHeld => ?_)
   clear hK K
   refine norm_ (a':=?_) ?_ ?_
   rotate_left
   ·show Act.put _ (some 6) _ = _
    simp only [Act.put,List.setIfInBounds_toArray,List.set_cons_zero,List.set_cons_succ,i64_w,i32_w]
    rfl
   refine one_ (i:=1) (N:=some 29) #[true,true,true,false,false,false,false,false,true,false,false] rfl rfl (one_of HT_.out (by kernel_rfl)) (by decide) (fun K hK => ?_)
   refine goes_ Try.func40 (by kernel_rfl) rfl #[.agg #[.slice A_B bl.length c_B]] (by rfl) rfl rfl (by (try simp only [List.map_toArray,List.map_cons,List.map_nil]);first|done|rfl) ?_
   refine (c40 _ _ _ HL_B.out (Kd.C_below HC_B.out HB.out)).mono ?_
   rintro e w7 ⟨v_e0,rfl,ho_e0,hb⟩
   refine ⟨_,rfl,?_⟩
   have QZ:=Aside0.mk (blk_below BZ.out hb)
   have QB:=Aside0.mk (Nat.lt_of_lt_of_le HGB.out hb.size)
   clear BZ HGB
   have BZ:=QZ
   have HGB:=QB
   clear QZ QB
   have CH6:=Aside0.mk hb.size
   have HW_e0:=Aside0.mk HB.out.size
   have n0_:=Aside0.mk (below_step HB.out hb)
   have n1_:=Aside0.mk (blk_below BK_b2.out hb)
   have n2_:=Aside0.mk (blk_below BK_b3.out hb)
   clear HB BK_b2 BK_b3
   have HB:=n0_
   have BK_b2:=n1_
   have BK_b3:=n2_
   clear n0_ n1_ n2_
   obtain ⟨A_e0,c_e0,rfl⟩:=Kd.S_slice ho_e0
   have RW_e0:=Aside0.mk (Kd.S_mono (ok':=fun k_ => w6.heap.size ≤ k_ ∧ k_ < w7.heap.size) (Kd.S_bound ho_e0) (fun k_ hk_ => ⟨hk_.2.1,hk_.2.2.1⟩))
   clear hb ho_e0
   refine hK.out _ _ ⟨(blk_cell BK_b2.out 0).trans rfl,(blk_cell BK_b3.out 0).trans rfl,(blk_cell BK_b3.out 1).trans rfl,(blk_cell BK_b3.out 2).trans rfl,(blk_cell BK_b3.out 3).trans rfl⟩ (fun hHeld => ?_)
   clear hK K
   refine norm_ (a':=?_) ?_ ?_
   rotate_left
   ·show Act.put _ (some 29) _ = _
    simp only [Act.put,List.setIfInBounds_toArray,List.set_cons_zero,List.set_cons_succ,i64_w,i32_w]
    rfl
   refine one_ (i:=3) (N:=some 31) #[true,true,true,true,false,false,false,false,true,false,false] rfl rfl (one_of HT_.out (by kernel_rfl)) (by decide) (fun K hK => ?_)
   refine goes_ Try.func17 (by kernel_rfl) rfl #[.agg #[.int .i64 t.f0,.string t.f1,.int .i64 t.f2,.slice A_T t.f3.length c_T]] (by rfl) rfl rfl (by (try simp only [List.map_toArray,List.map_cons,List.map_nil]);first|done|rfl) ?_
   refine (c17 _ _ _ HL_T.out (Kd.C_below HC_T.out HB.out)).mono ?_
   rintro e w8 ⟨v_f0,rfl,ho_f0,hb⟩
   refine ⟨_,rfl,?_⟩
   have QZ:=Aside0.mk (blk_below BZ.out hb)
   have QB:=Aside0.mk (Nat.lt_of_lt_of_le HGB.out hb.size)
   clear BZ HGB
   have BZ:=QZ
   have HGB:=QB
   clear QZ QB
   have CH7:=Aside0.mk hb.size
   have HW_f0:=Aside0.mk HB.out.size
   have n0_:=Aside0.mk (below_step HB.out hb)
   have n1_:=Aside0.mk (blk_below BK_b2.out hb)
   have n2_:=Aside0.mk (blk_below BK_b3.out hb)
   have n3_:=Aside0.mk (Kd.S_below RW_e0.out hb)
   clear HB BK_b2 BK_b3 RW_e0
   have HB:=n0_
   have BK_b2:=n1_
   have BK_b3:=n2_
   have RW_e0:=n3_
   clear n0_ n1_ n2_ n3_
   obtain ⟨A_f0,c_f0,rfl⟩:=Kd.S_slice ho_f0
   have RW_f0:=Aside0.mk (Kd.S_mono (ok':=fun k_ => w7.heap.size ≤ k_ ∧ k_ < w8.heap.size) (Kd.S_bound ho_f0) (fun k_ hk_ => ⟨hk_.2.1,hk_.2.2.1⟩))
   clear hb ho_f0
   refine hK.out _ _ ⟨(blk_cell BK_b2.out 0).trans rfl,(blk_cell BK_b3.out 0).trans rfl,(blk_cell BK_b3.out 1).trans rfl,(blk_cell BK_b3.out 2).trans rfl,(blk_cell BK_b3.out 3).trans rfl⟩ (fun hHeld => ?_)
   clear hK K
   refine norm_ (a':=?_) ?_ ?_
   rotate_left
   ·show Act.put _ (some 31) _ = _
    simp only [Act.put,List.setIfInBounds_toArray,List.set_cons_zero,List.set_cons_succ,i64_w,i32_w]
    rfl
   refine one_ (i:=4) (N:=some 32) #[true,true,true,true,true,false,false,false,true,false,false] rfl rfl (one_of HT_.out (by kernel_rfl)) (by decide) (fun K hK => ?_)
   refine goes_ Try.func50 (by kernel_rfl) rfl #[.agg #[.slice A_e0 xb.length c_e0],.agg #[.int .i64 t.f0,.string t.f1,.int .i64 t.f2,.slice A_f0 xt.length c_f0]] (by rfl) rfl rfl (by (try simp only [List.map_toArray,List.map_cons,List.map_nil]);first|done|rfl) ?_
   refine (c50 _ (fun k_ => w5.heap.size ≤ k_ ∧ k_ ≠ g_b6) _ _ _ _ (fun k_ hk_ => by have:=HGA.out;have:=HGC.out;have:=HGD.out;have:=CH0.out;have:=CH1.out;have:=CH2.out;have:=CH3.out;have:=CH4.out;have:=CH5.out;have:=CH6.out;have:=CH7.out;omega) (Kd.V_mono (Kd.R_V (base':=0) (S_k29 RW_e0.out)) (fun k_ hk_ => by have:=HGA.out;have:=HGC.out;have:=HGD.out;have:=CH0.out;have:=CH1.out;have:=CH2.out;have:=CH3.out;have:=CH4.out;have:=CH5.out;have:=CH6.out;have:=CH7.out;omega)) (Kd.V_mono (Kd.R_V (base':=0) (S_k29 RW_f0.out)) (fun k_ hk_ => by have:=HGA.out;have:=HGC.out;have:=HGD.out;have:=CH0.out;have:=CH1.out;have:=CH2.out;have:=CH3.out;have:=CH4.out;have:=CH5.out;have:=CH6.out;have:=CH7.out;omega))).mono ?_
   rintro e w9 ⟨v_w0,rfl,ho_w0,hb⟩
   refine ⟨_,rfl,?_⟩
   have QZ:=Aside0.mk (blk_below BZ.out hb)
   have QB:=Aside0.mk (Nat.lt_of_lt_of_le HGB.out hb.size)
   clear BZ HGB
   have BZ:=QZ
   have HGB:=QB
   clear QZ QB
   have CH8:=Aside0.mk hb.size
   have HW_w0:=Aside0.mk HB.out.size
   have n0_:=Aside0.mk (below_step HB.out hb)
   have n1_:=Aside0.mk (blk_below BK_b2.out hb)
   have n2_:=Aside0.mk (blk_below BK_b3.out hb)
   have n3_:=Aside0.mk (Kd.S_below RW_e0.out hb)
   have n4_:=Aside0.mk (Kd.S_below RW_f0.out hb)
   clear HB BK_b2 BK_b3 RW_e0 RW_f0
   have HB:=n0_
   have BK_b2:=n1_
   have BK_b3:=n2_
   have RW_e0:=n3_
   have RW_f0:=n4_
   clear n0_ n1_ n2_ n3_ n4_
   obtain ⟨A_w0,c_w0,rfl⟩:=Kd.S_slice ho_w0
   have RW_w0:=Aside0.mk (Kd.S_mono (ok':=fun k_ => w8.heap.size ≤ k_ ∧ k_ < w9.heap.size) (Kd.S_bound ho_w0) (fun k_ hk_ => ⟨hk_.2.1,hk_.2.2.1⟩))
   clear hb ho_w0
   clear RW_e0
   clear RW_f0
   refine hK.out _ _ ⟨(blk_cell BK_b2.out 0).trans rfl,(blk_cell BK_b3.out 0).trans rfl,(blk_cell BK_b3.out 1).trans rfl,(blk_cell BK_b3.out 2).trans rfl,(blk_cell BK_b3.out 3).trans rfl⟩ (fun hHeld => ?_)
   clear hK K
   refine norm_ (a':=?_) ?_ ?_
   rotate_left
   ·show Act.put _ (some 32) _ = _
    simp only [Act.put,List.setIfInBounds_toArray,List.set_cons_zero,List.set_cons_succ,i64_w,i32_w]
    rfl
   refine pure_ (i:=5) (N:=some 27) (v:=?_) (a':=?_) #[true,true,true,true,true,true,false,false,true,false,false] rfl rfl (any_of HT_.out (by kernel_rfl)) (fun _ _ _ h => h) (Or.inl ⟨by rfl,?_⟩) ?_ ?_
   rotate_left
   ·intro w'
    go_simp
    with_reducible rfl
   rotate_left
   ·simp only [Act.put,List.setIfInBounds_toArray,List.set_cons_zero,List.set_cons_succ,i64_w,i32_w]
    rfl
   refine pure_ (i:=6) (N:=some 33) (v:=?_) (a':=?_) #[true,true,true,true,true,true,true,false,true,false,false] rfl rfl (any_of HT_.out (by kernel_rfl)) (fun _ _ _ h => h) (Or.inl ⟨by rfl,?_⟩) ?_ ?_
   rotate_left
   ·intro w'
    go_simp
    with_reducible rfl
   rotate_left
   ·simp only [Act.put,List.setIfInBounds_toArray,List.set_cons_zero,List.set_cons_succ,i64_w,i32_w]
    rfl
   refine pure_ (i:=7) (N:=some 34) (v:=?_) (a':=?_) #[true,true,true,true,true,true,true,true,true,false,false] rfl rfl (any_of HT_.out (by kernel_rfl)) (fun _ _ _ h => h) (Or.inl ⟨by rfl,?_⟩) ?_ ?_
   rotate_left
   ·intro w'
    go_simp
    with_reducible rfl
   rotate_left
   ·simp only [Act.put,List.setIfInBounds_toArray,List.set_cons_zero,List.set_cons_succ,i64_w,i32_w]
    rfl
   exact norm_ (by simp only [putAll,Act.put,List.setIfInBounds_toArray,List.set_cons_zero,List.set_cons_succ]) (hCont (A_e0,c_e0,A_f0,c_f0,A_w0,c_w0,g_b6) _ ⟨HB.out,BK_b2.out,BK_b3.out,(by have h_:=RW_w0.out;exact Kd.S_mono (Kd.S_lower h_ (by have:=CH0.out;have:=CH1.out;have:=CH2.out;have:=CH3.out;have:=CH4.out;have:=CH5.out;have:=CH6.out;have:=CH7.out;have:=CH8.out;omega)) (fun k_ hk_ => ⟨⟨by have:=CH0.out;have:=CH1.out;have:=CH2.out;have:=CH3.out;have:=CH4.out;have:=CH5.out;have:=CH6.out;have:=CH7.out;have:=CH8.out;omega,by have:=CH0.out;have:=CH1.out;have:=CH2.out;have:=CH3.out;have:=CH4.out;have:=CH5.out;have:=CH6.out;have:=CH7.out;have:=CH8.out;omega⟩,by have:=HGC.out;have:=HGA.out;have:=HGD.out;have:=CH0.out;have:=CH1.out;have:=CH2.out;have:=CH3.out;have:=CH4.out;have:=CH5.out;have:=CH6.out;have:=CH7.out;have:=CH8.out;omega⟩)),BZ.out,HGA.out,HGB.out,(by have:=CH0.out;have:=CH1.out;have:=CH2.out;have:=CH3.out;have:=CH4.out;have:=CH5.out;have:=CH6.out;have:=CH7.out;have:=CH8.out;omega)⟩)
 rintro ⟨A_e0,c_e0,A_f0,c_f0,A_w0,c_w0,g_b6⟩ w28 ⟨hB_,hK_b2,hK_b3,hL_,hZ_,hGA_,hGB_,hCH_⟩
 have HW_w0:=Aside0.mk HB.out.size
 clear HB
 clear BK_b2
 clear BK_b3
 have HB:=Aside0.mk hB_
 have BK_b2:=Aside0.mk hK_b2
 have BK_b3:=Aside0.mk hK_b3
 have RW_w0:=Aside0.mk hL_
 have BZ:=Aside0.mk hZ_
 have HG_b6:=Aside0.mk hGA_
 have HGB:=Aside0.mk hGB_
 have CH28:=Aside0.mk hCH_
 clear hB_ hK_b2 hK_b3  hL_ hZ_ hGA_ hGB_ hCH_
 refine norm_ (a':=?_) ?_ ?_
 rotate_left
 ·simp only [putAll,Act.put,List.setIfInBounds_toArray,List.set_cons_zero,List.set_cons_succ]
  rfl
 refine last_ (i:=9) (N:=none) #[true,true,true,true,true,true,true,true,true,true,false] rfl rfl (one_of HT_.out (by kernel_rfl)) (by decide) (fun K hK => ?_)
 have hz0_ : w28.cell? ⟨g_b6,0,none⟩ = some (.int .i64 0):=(blk_cell BZ.out 0).trans rfl
 have hz1_ : w28.cell? ⟨g_b6,1,none⟩ = some (.string (⟨#[]⟩ : ByteArray)):=(blk_cell BZ.out 1).trans rfl
 have hz2_ : w28.cell? ⟨g_b6,2,none⟩ = some (.int .i64 0):=(blk_cell BZ.out 2).trans rfl
 have hz3_ : w28.cell? ⟨g_b6,3,none⟩ = some (.slice none 0 0):=(blk_cell BZ.out 3).trans rfl
 have fz0_:=blk_frozen BZ.out 0
 have fz1_:=blk_frozen BZ.out 1
 have fz2_:=blk_frozen BZ.out 2
 have fz3_:=blk_frozen BZ.out 3
 refine skip_ (w1:=?_) (by rfl) rfl ?_ ?_
 rotate_left
 ·go_simp
  rfl
 refine hK.out _ _ ?_
 clear hK K
 refine pure_ (i:=10) (N:=some 7) (v:=?_) (a':=?_) #[true,true,true,true,true,true,true,true,true,true,true] rfl rfl (any_of HT_.out (by kernel_rfl)) (fun _ _ _ h => h) (Or.inl ⟨by rfl,?_⟩) ?_ ?_
 rotate_left
 ·intro w'
  go_simp
  with_reducible rfl
 rotate_left
 ·simp only [Act.put,List.setIfInBounds_toArray,List.set_cons_zero,List.set_cons_succ,i64_w,i32_w]
  rfl
 refine done_ (done_of HT_.out (by kernel_rfl)) ?_
 have HGW:=Aside0.mk (show w.heap.size ≤ g_b6 by have:=HW_w0.out;have:=HG_b6.out;omega)
 have n_HB:=Aside0.mk (show Below w.heap.size w ((((w28.setCell ⟨g_b6,0,none⟩ (.int .i64 r0)).setCell ⟨g_b6,1,none⟩ (.string r1)).setCell ⟨g_b6,2,none⟩ (.int .i64 r2)).setCell ⟨g_b6,3,none⟩ (.slice A_w0 xs.length c_w0)) from (below_set (below_set (below_set (below_set HB.out HGW.out) HGW.out) HGW.out) HGW.out))
 have n_BK_b2:=Aside0.mk (show ((((w28.setCell ⟨g_b6,0,none⟩ (.int .i64 r0)).setCell ⟨g_b6,1,none⟩ (.string r1)).setCell ⟨g_b6,2,none⟩ (.int .i64 r2)).setCell ⟨g_b6,3,none⟩ (.slice A_w0 xs.length c_w0)).heap[g_b2]? = some (.cells #[.slice A_B bl.length c_B] 49 (0,0)) from (blk_far (blk_far (blk_far (blk_far BK_b2.out (show g_b2 ≠ g_b6 by have:=HL_b2.out;have:=HG_b6.out;have:=CH0.out;have:=CH1.out;have:=CH2.out;have:=CH3.out;have:=CH4.out;have:=CH28.out;omega) _) (show g_b2 ≠ g_b6 by have:=HL_b2.out;have:=HG_b6.out;have:=CH0.out;have:=CH1.out;have:=CH2.out;have:=CH3.out;have:=CH4.out;have:=CH28.out;omega) _) (show g_b2 ≠ g_b6 by have:=HL_b2.out;have:=HG_b6.out;have:=CH0.out;have:=CH1.out;have:=CH2.out;have:=CH3.out;have:=CH4.out;have:=CH28.out;omega) _) (show g_b2 ≠ g_b6 by have:=HL_b2.out;have:=HG_b6.out;have:=CH0.out;have:=CH1.out;have:=CH2.out;have:=CH3.out;have:=CH4.out;have:=CH28.out;omega) _))
 have n_BK_b3:=Aside0.mk (show ((((w28.setCell ⟨g_b6,0,none⟩ (.int .i64 r0)).setCell ⟨g_b6,1,none⟩ (.string r1)).setCell ⟨g_b6,2,none⟩ (.int .i64 r2)).setCell ⟨g_b6,3,none⟩ (.slice A_w0 xs.length c_w0)).heap[g_b3]? = some (.cells #[.int .i64 t.f0,.string t.f1,.int .i64 t.f2,.slice A_T t.f3.length c_T] 24 (0,0)) from (blk_far (blk_far (blk_far (blk_far BK_b3.out (show g_b3 ≠ g_b6 by have:=HL_b3.out;have:=HG_b6.out;have:=CH0.out;have:=CH1.out;have:=CH2.out;have:=CH3.out;have:=CH4.out;have:=CH28.out;omega) _) (show g_b3 ≠ g_b6 by have:=HL_b3.out;have:=HG_b6.out;have:=CH0.out;have:=CH1.out;have:=CH2.out;have:=CH3.out;have:=CH4.out;have:=CH28.out;omega) _) (show g_b3 ≠ g_b6 by have:=HL_b3.out;have:=HG_b6.out;have:=CH0.out;have:=CH1.out;have:=CH2.out;have:=CH3.out;have:=CH4.out;have:=CH28.out;omega) _) (show g_b3 ≠ g_b6 by have:=HL_b3.out;have:=HG_b6.out;have:=CH0.out;have:=CH1.out;have:=CH2.out;have:=CH3.out;have:=CH4.out;have:=CH28.out;omega) _))
 have n_RW_w0:=Aside0.mk (show Kd.S kD29 29 ((((w28.setCell ⟨g_b6,0,none⟩ (.int .i64 r0)).setCell ⟨g_b6,1,none⟩ (.string r1)).setCell ⟨g_b6,2,none⟩ (.int .i64 r2)).setCell ⟨g_b6,3,none⟩ (.slice A_w0 xs.length c_w0)) w5.heap.size (fun k_ => (w5.heap.size ≤ k_ ∧ k_ < w28.heap.size) ∧ k_ ≠ g_b6) (.slice A_w0 xs.length c_w0) xs from (Kd.S_far (p:=⟨g_b6,3,none⟩) (Kd.S_far (p:=⟨g_b6,2,none⟩) (Kd.S_far (p:=⟨g_b6,1,none⟩) (Kd.S_far (p:=⟨g_b6,0,none⟩) RW_w0.out (fun k_ hk_ => show k_ ≠ g_b6 by have:=HG_b6.out;have:=CH0.out;have:=CH1.out;have:=CH2.out;have:=CH3.out;have:=CH4.out;have:=CH28.out;omega) _) (fun k_ hk_ => show k_ ≠ g_b6 by have:=HG_b6.out;have:=CH0.out;have:=CH1.out;have:=CH2.out;have:=CH3.out;have:=CH4.out;have:=CH28.out;omega) _) (fun k_ hk_ => show k_ ≠ g_b6 by have:=HG_b6.out;have:=CH0.out;have:=CH1.out;have:=CH2.out;have:=CH3.out;have:=CH4.out;have:=CH28.out;omega) _) (fun k_ hk_ => show k_ ≠ g_b6 by have:=HG_b6.out;have:=CH0.out;have:=CH1.out;have:=CH2.out;have:=CH3.out;have:=CH4.out;have:=CH28.out;omega) _))
 have BK_b6 : Aside0 (((((w28.setCell ⟨g_b6,0,none⟩ (.int .i64 r0)).setCell ⟨g_b6,1,none⟩ (.string r1)).setCell ⟨g_b6,2,none⟩ (.int .i64 r2)).setCell ⟨g_b6,3,none⟩ (.slice A_w0 xs.length c_w0)).heap[g_b6]? = some (.cells #[.int .i64 r0,.string r1,.int .i64 r2,.slice A_w0 xs.length c_w0] 29 (0,0))):=⟨by refine blk_put (cs:=#[.int .i64 r0,.string r1,.int .i64 r2,.slice none 0 0]) ?_ 3 _ rfl;refine blk_put (cs:=#[.int .i64 r0,.string r1,.int .i64 0,.slice none 0 0]) ?_ 2 _ rfl;refine blk_put (cs:=#[.int .i64 r0,.string (⟨#[]⟩ : ByteArray),.int .i64 0,.slice none 0 0]) ?_ 1 _ rfl;refine blk_put (cs:=#[.int .i64 0,.string (⟨#[]⟩ : ByteArray),.int .i64 0,.slice none 0 0]) ?_ 0 _ rfl;exact BZ.out⟩
 have CH29:=Aside0.mk (show w28.heap.size ≤ ((((w28.setCell ⟨g_b6,0,none⟩ (.int .i64 r0)).setCell ⟨g_b6,1,none⟩ (.string r1)).setCell ⟨g_b6,2,none⟩ (.int .i64 r2)).setCell ⟨g_b6,3,none⟩ (.slice A_w0 xs.length c_w0)).heap.size by simp [World.setCell])
 have HL_b6:=Aside0.mk (show g_b6 < ((((w28.setCell ⟨g_b6,0,none⟩ (.int .i64 r0)).setCell ⟨g_b6,1,none⟩ (.string r1)).setCell ⟨g_b6,2,none⟩ (.int .i64 r2)).setCell ⟨g_b6,3,none⟩ (.slice A_w0 xs.length c_w0)).heap.size from blk_lt BK_b6.out)
 clear BZ HGB HB BK_b2 BK_b3 RW_w0
 have HB:=n_HB
 have BK_b2:=n_BK_b2
 have BK_b3:=n_BK_b3
 have RW_w0:=n_RW_w0
 clear n_HB n_BK_b2 n_BK_b3 n_RW_w0
 generalize ((((w28.setCell ⟨g_b6,0,none⟩ (.int .i64 r0)).setCell ⟨g_b6,1,none⟩ (.string r1)).setCell ⟨g_b6,2,none⟩ (.int .i64 r2)).setCell ⟨g_b6,3,none⟩ (.slice A_w0 xs.length c_w0)) = w30 at HB BK_b2 BK_b3 RW_w0 BK_b6 CH29 HL_b6 ⊢
 have hc_b2_0 : w30.cell? ⟨g_b2,0,none⟩ = some (.slice A_B bl.length c_B):=(blk_cell BK_b2.out 0).trans rfl
 go_wp2_with (first
  | ((with_reducible refine gate_callee (f := 40) rfl ?_); refine goesL_ (some 36) rfl rfl Try.func40 (by kernel_rfl) rfl #[.agg #[.slice A_B bl.length c_B]] rfl (by (try simp only [List.map_toArray, List.map_cons, List.map_nil]); first | done | rfl) ?_; refine (c40 _ _ _ HL_B.out (Kd.C_below HC_B.out HB.out)).mono ?_; rintro e w31 ⟨v_x0, rfl, ho_x0, hb⟩; refine ⟨_, rfl, ?_⟩; have CH30 := Aside0.mk hb.size; have HW_x0 := Aside0.mk HB.out.size; have n0_ := Aside0.mk (below_step HB.out hb); have n1_ := Aside0.mk (blk_below BK_b2.out hb); have n2_ := Aside0.mk (blk_below BK_b3.out hb); have n3_ := Aside0.mk (blk_below BK_b6.out hb); have n4_ := Aside0.mk (Kd.S_below RW_w0.out hb); clear HB BK_b2 BK_b3 BK_b6 RW_w0; have HB := n0_; have BK_b2 := n1_; have BK_b3 := n2_; have BK_b6 := n3_; have RW_w0 := n4_; clear n0_ n1_ n2_ n3_ n4_; obtain ⟨A_x0, c_x0, rfl⟩ := Kd.S_slice ho_x0; have RW_x0 := Aside0.mk (Kd.S_mono (ok' := fun k_ => w30.heap.size ≤ k_ ∧ k_ < w31.heap.size) (Kd.S_bound ho_x0) (fun k_ hk_ => ⟨hk_.2.1, hk_.2.2.1⟩)); clear hb ho_x0; clear hc_b2_0)
  | ((with_reducible refine gate_dst (N := 8) rfl ?_); refine box_event ?hg8 (N := 8) ?hd8 (cs := #[.slice none 0 0]) (t := 35) ?hr8 ?_; (case hd8 => rfl); (case hg8 => rfl); (case hr8 => first | (go_simp; done) | (go_simp; rfl)); intro g_b8 hg z_b8 hbox hb; have HG_b8 := Aside0.mk hg; have BB_b8 := Aside0.mk hbox; have HBB_b8 := Aside0.mk hb; have hz_b8_0 : z_b8.cell? ⟨g_b8, 0, none⟩ = some (.slice none 0 0) := (blk_cell BB_b8.out 0).trans rfl; have hf_b8_0 := blk_frozen BB_b8.out 0; clear hg hbox hb)
  | ((with_reducible refine gate_store (t := 35) (p := 8) rfl ?_); refine store_event (t := 35) (p := 8) (v := ?vo8) (w1 := (z_b8.setCell ⟨g_b8, 0, none⟩ (.slice A_x0 xb.length c_x0))) ?hgs8 ?hos8 ?hns8 ?hrs8 ?_; (case hos8 => rfl); (case hgs8 => rfl); (case hns8 => rfl); (case hrs8 => first | (go_simp; done) | (go_simp; rfl)); intro w32 hw; have hb : Below w31.heap.size w31 w32 := (by rw [hw]; exact (below_set HBB_b8.out (by have := HG_b8.out; omega))); have CH31 := Aside0.mk hb.size; have n0_ := Aside0.mk (below_step HB.out hb); have n1_ := Aside0.mk (blk_below BK_b2.out hb); have n2_ := Aside0.mk (blk_below BK_b3.out hb); have n3_ := Aside0.mk (blk_below BK_b6.out hb); have n4_ := Aside0.mk (Kd.S_below RW_w0.out hb); have n5_ := Aside0.mk (Kd.S_below RW_x0.out hb); clear HB BK_b2 BK_b3 BK_b6 RW_w0 RW_x0; have HB := n0_; have BK_b2 := n1_; have BK_b3 := n2_; have BK_b6 := n3_; have RW_w0 := n4_; have RW_x0 := n5_; clear n0_ n1_ n2_ n3_ n4_ n5_; have BK_b8 : Aside0 (w32.heap[g_b8]? = some (.cells #[.slice A_x0 xb.length c_x0] 35 (0, 0))) := ⟨by rw [hw]; refine blk_put (cs := #[.slice none 0 0]) ?_ 0 _ rfl; exact BB_b8.out⟩; have HL_b8 := Aside0.mk (show g_b8 < w32.heap.size from blk_lt BK_b8.out); clear hb hw hz_b8_0 hf_b8_0; have hc_b3_0 : w32.cell? ⟨g_b3, 0, none⟩ = some (.int .i64 t.f0) := (blk_cell BK_b3.out 0).trans rfl; have hc_b3_1 : w32.cell? ⟨g_b3, 1, none⟩ = some (.string t.f1) := (blk_cell BK_b3.out 1).trans rfl; have hc_b3_2 : w32.cell? ⟨g_b3, 2, none⟩ = some (.int .i64 t.f2) := (blk_cell BK_b3.out 2).trans rfl; have hc_b3_3 : w32.cell? ⟨g_b3, 3, none⟩ = some (.slice A_T t.f3.length c_T) := (blk_cell BK_b3.out 3).trans rfl)
  | ((with_reducible refine gate_callee (f := 17) rfl ?_); refine goesL_ (some 38) rfl rfl Try.func17 (by kernel_rfl) rfl #[.agg #[.int .i64 t.f0, .string t.f1, .int .i64 t.f2, .slice A_T t.f3.length c_T]] rfl (by (try simp only [List.map_toArray, List.map_cons, List.map_nil]); first | done | rfl) ?_; refine (c17 _ _ _ HL_T.out (Kd.C_below HC_T.out HB.out)).mono ?_; rintro e w33 ⟨v_x1, rfl, ho_x1, hb⟩; refine ⟨_, rfl, ?_⟩; have CH32 := Aside0.mk hb.size; have HW_x1 := Aside0.mk HB.out.size; have n0_ := Aside0.mk (below_step HB.out hb); have n1_ := Aside0.mk (blk_below BK_b2.out hb); have n2_ := Aside0.mk (blk_below BK_b3.out hb); have n3_ := Aside0.mk (blk_below BK_b6.out hb); have n4_ := Aside0.mk (blk_below BK_b8.out hb); have n5_ := Aside0.mk (Kd.S_below RW_w0.out hb); have n6_ := Aside0.mk (Kd.S_below RW_x0.out hb); clear HB BK_b2 BK_b3 BK_b6 BK_b8 RW_w0 RW_x0; have HB := n0_; have BK_b2 := n1_; have BK_b3 := n2_; have BK_b6 := n3_; have BK_b8 := n4_; have RW_w0 := n5_; have RW_x0 := n6_; clear n0_ n1_ n2_ n3_ n4_ n5_ n6_; obtain ⟨A_x1, c_x1, rfl⟩ := Kd.S_slice ho_x1; have RW_x1 := Aside0.mk (Kd.S_mono (ok' := fun k_ => w32.heap.size ≤ k_ ∧ k_ < w33.heap.size) (Kd.S_bound ho_x1) (fun k_ hk_ => ⟨hk_.2.1, hk_.2.2.1⟩)); clear hb ho_x1; clear hc_b3_0 hc_b3_1 hc_b3_2 hc_b3_3)
  | ((with_reducible refine gate_dst (N := 9) rfl ?_); refine box_event ?hg9 (N := 9) ?hd9 (cs := #[.int .i64 0, .string (⟨#[]⟩ : ByteArray), .int .i64 0, .slice none 0 0]) (t := 29) ?hr9 ?_; (case hd9 => rfl); (case hg9 => rfl); (case hr9 => first | (go_simp; done) | (go_simp; rfl)); intro g_b9 hg z_b9 hbox hb; have HG_b9 := Aside0.mk hg; have BB_b9 := Aside0.mk hbox; have HBB_b9 := Aside0.mk hb; have hz_b9_0 : z_b9.cell? ⟨g_b9, 0, none⟩ = some (.int .i64 0) := (blk_cell BB_b9.out 0).trans rfl; have hf_b9_0 := blk_frozen BB_b9.out 0; have hz_b9_1 : z_b9.cell? ⟨g_b9, 1, none⟩ = some (.string (⟨#[]⟩ : ByteArray)) := (blk_cell BB_b9.out 1).trans rfl; have hf_b9_1 := blk_frozen BB_b9.out 1; have hz_b9_2 : z_b9.cell? ⟨g_b9, 2, none⟩ = some (.int .i64 0) := (blk_cell BB_b9.out 2).trans rfl; have hf_b9_2 := blk_frozen BB_b9.out 2; have hz_b9_3 : z_b9.cell? ⟨g_b9, 3, none⟩ = some (.slice none 0 0) := (blk_cell BB_b9.out 3).trans rfl; have hf_b9_3 := blk_frozen BB_b9.out 3; clear hg hbox hb)
  | ((with_reducible refine gate_store (t := 29) (p := 9) rfl ?_); refine store_event (t := 29) (p := 9) (v := ?vo9) (w1 := ((((z_b9.setCell ⟨g_b9, 0, none⟩ (.int .i64 t.f0)).setCell ⟨g_b9, 1, none⟩ (.string t.f1)).setCell ⟨g_b9, 2, none⟩ (.int .i64 t.f2)).setCell ⟨g_b9, 3, none⟩ (.slice A_x1 xt.length c_x1))) ?hgs9 ?hos9 ?hns9 ?hrs9 ?_; (case hos9 => rfl); (case hgs9 => rfl); (case hns9 => rfl); (case hrs9 => first | (go_simp; done) | (go_simp; rfl)); intro w34 hw; have hb : Below w33.heap.size w33 w34 := (by rw [hw]; exact (below_set (below_set (below_set (below_set HBB_b9.out (by have := HG_b9.out; omega)) (by have := HG_b9.out; omega)) (by have := HG_b9.out; omega)) (by have := HG_b9.out; omega))); have CH33 := Aside0.mk hb.size; have n0_ := Aside0.mk (below_step HB.out hb); have n1_ := Aside0.mk (blk_below BK_b2.out hb); have n2_ := Aside0.mk (blk_below BK_b3.out hb); have n3_ := Aside0.mk (blk_below BK_b6.out hb); have n4_ := Aside0.mk (blk_below BK_b8.out hb); have n5_ := Aside0.mk (Kd.S_below RW_w0.out hb); have n6_ := Aside0.mk (Kd.S_below RW_x0.out hb); have n7_ := Aside0.mk (Kd.S_below RW_x1.out hb); clear HB BK_b2 BK_b3 BK_b6 BK_b8 RW_w0 RW_x0 RW_x1; have HB := n0_; have BK_b2 := n1_; have BK_b3 := n2_; have BK_b6 := n3_; have BK_b8 := n4_; have RW_w0 := n5_; have RW_x0 := n6_; have RW_x1 := n7_; clear n0_ n1_ n2_ n3_ n4_ n5_ n6_ n7_; have BK_b9 : Aside0 (w34.heap[g_b9]? = some (.cells #[.int .i64 t.f0, .string t.f1, .int .i64 t.f2, .slice A_x1 xt.length c_x1] 29 (0, 0))) := ⟨by rw [hw]; refine blk_put (cs := #[.int .i64 t.f0, .string t.f1, .int .i64 t.f2, .slice none 0 0]) ?_ 3 _ rfl; refine blk_put (cs := #[.int .i64 t.f0, .string t.f1, .int .i64 0, .slice none 0 0]) ?_ 2 _ rfl; refine blk_put (cs := #[.int .i64 t.f0, .string (⟨#[]⟩ : ByteArray), .int .i64 0, .slice none 0 0]) ?_ 1 _ rfl; refine blk_put (cs := #[.int .i64 0, .string (⟨#[]⟩ : ByteArray), .int .i64 0, .slice none 0 0]) ?_ 0 _ rfl; exact BB_b9.out⟩; have HL_b9 := Aside0.mk (show g_b9 < w34.heap.size from blk_lt BK_b9.out); clear hb hw hz_b9_0 hf_b9_0 hz_b9_1 hf_b9_1 hz_b9_2 hf_b9_2 hz_b9_3 hf_b9_3; have hc_b8_0 : w34.cell? ⟨g_b8, 0, none⟩ = some (.slice A_x0 xb.length c_x0) := (blk_cell BK_b8.out 0).trans rfl; have hc_b9_0 : w34.cell? ⟨g_b9, 0, none⟩ = some (.int .i64 t.f0) := (blk_cell BK_b9.out 0).trans rfl; have hc_b9_1 : w34.cell? ⟨g_b9, 1, none⟩ = some (.string t.f1) := (blk_cell BK_b9.out 1).trans rfl; have hc_b9_2 : w34.cell? ⟨g_b9, 2, none⟩ = some (.int .i64 t.f2) := (blk_cell BK_b9.out 2).trans rfl; have hc_b9_3 : w34.cell? ⟨g_b9, 3, none⟩ = some (.slice A_x1 xt.length c_x1) := (blk_cell BK_b9.out 3).trans rfl)
  | ((with_reducible refine gate_callee (f := 51) rfl ?_); refine goesL_ (some 42) rfl rfl Try.func51 (by kernel_rfl) rfl #[.agg #[.slice A_x0 xb.length c_x0], .agg #[.int .i64 t.f0, .string t.f1, .int .i64 t.f2, .slice A_x1 xt.length c_x1]] rfl (by (try simp only [List.map_toArray, List.map_cons, List.map_nil]); first | done | rfl) ?_; refine (c51 _ (fun k_ => w5.heap.size ≤ k_) _ _ _ _ (fun k_ hk_ => by have := CH0.out; have := CH1.out; have := CH2.out; have := CH3.out; have := CH4.out; have := CH28.out; have := CH29.out; have := CH30.out; have := CH31.out; have := CH32.out; have := CH33.out; omega) (Kd.V_mono (Kd.R_V (base' := 0) (S_k29 RW_x0.out)) (fun k_ hk_ => by have := CH0.out; have := CH1.out; have := CH2.out; have := CH3.out; have := CH4.out; have := CH28.out; have := CH29.out; have := CH30.out; have := CH31.out; have := CH32.out; have := CH33.out; omega)) (Kd.V_mono (Kd.R_V (base' := 0) (S_k29 RW_x1.out)) (fun k_ hk_ => by have := CH0.out; have := CH1.out; have := CH2.out; have := CH3.out; have := CH4.out; have := CH28.out; have := CH29.out; have := CH30.out; have := CH31.out; have := CH32.out; have := CH33.out; omega))).mono ?_; rintro e w35 ⟨v_g0, rfl, ho_g0, hb⟩; refine ⟨_, rfl, ?_⟩; have CH34 := Aside0.mk hb.size; have HW_g0 := Aside0.mk HB.out.size; have n0_ := Aside0.mk (below_step HB.out hb); have n1_ := Aside0.mk (blk_below BK_b2.out hb); have n2_ := Aside0.mk (blk_below BK_b3.out hb); have n3_ := Aside0.mk (blk_below BK_b6.out hb); have n4_ := Aside0.mk (blk_below BK_b8.out hb); have n5_ := Aside0.mk (blk_below BK_b9.out hb); have n6_ := Aside0.mk (Kd.S_below RW_w0.out hb); have n7_ := Aside0.mk (Kd.S_below RW_x0.out hb); have n8_ := Aside0.mk (Kd.S_below RW_x1.out hb); clear HB BK_b2 BK_b3 BK_b6 BK_b8 BK_b9 RW_w0 RW_x0 RW_x1; have HB := n0_; have BK_b2 := n1_; have BK_b3 := n2_; have BK_b6 := n3_; have BK_b8 := n4_; have BK_b9 := n5_; have RW_w0 := n6_; have RW_x0 := n7_; have RW_x1 := n8_; clear n0_ n1_ n2_ n3_ n4_ n5_ n6_ n7_ n8_; obtain ⟨A_g0, c_g0, rfl⟩ := Kd.S_slice ho_g0; have RW_g0 := Aside0.mk (Kd.S_mono (ok' := fun k_ => w34.heap.size ≤ k_ ∧ k_ < w35.heap.size) (Kd.S_bound ho_g0) (fun k_ hk_ => ⟨hk_.2.1, hk_.2.2.1⟩)); clear hb ho_g0; clear hc_b8_0 hc_b9_0 hc_b9_1 hc_b9_2 hc_b9_3)
  | ((with_reducible refine gate_dst (N := 10) rfl ?_); refine box_event ?hg10 (N := 10) ?hd10 (cs := #[.int .i64 0, .string (⟨#[]⟩ : ByteArray), .int .i64 0, .slice none 0 0]) (t := 29) ?hr10 ?_; (case hd10 => rfl); (case hg10 => rfl); (case hr10 => first | (go_simp; done) | (go_simp; rfl)); intro g_b10 hg z_b10 hbox hb; have HG_b10 := Aside0.mk hg; have BB_b10 := Aside0.mk hbox; have HBB_b10 := Aside0.mk hb; have hz_b10_0 : z_b10.cell? ⟨g_b10, 0, none⟩ = some (.int .i64 0) := (blk_cell BB_b10.out 0).trans rfl; have hf_b10_0 := blk_frozen BB_b10.out 0; have hz_b10_1 : z_b10.cell? ⟨g_b10, 1, none⟩ = some (.string (⟨#[]⟩ : ByteArray)) := (blk_cell BB_b10.out 1).trans rfl; have hf_b10_1 := blk_frozen BB_b10.out 1; have hz_b10_2 : z_b10.cell? ⟨g_b10, 2, none⟩ = some (.int .i64 0) := (blk_cell BB_b10.out 2).trans rfl; have hf_b10_2 := blk_frozen BB_b10.out 2; have hz_b10_3 : z_b10.cell? ⟨g_b10, 3, none⟩ = some (.slice none 0 0) := (blk_cell BB_b10.out 3).trans rfl; have hf_b10_3 := blk_frozen BB_b10.out 3; clear hg hbox hb)
  | ((with_reducible refine gate_store (t := 29) (p := 10) rfl ?_); refine store_event (t := 29) (p := 10) (v := ?vo10) (w1 := ((((z_b10.setCell ⟨g_b10, 0, none⟩ (.int .i64 r0)).setCell ⟨g_b10, 1, none⟩ (.string r1)).setCell ⟨g_b10, 2, none⟩ (.int .i64 r2)).setCell ⟨g_b10, 3, none⟩ (.slice A_g0 xs.length c_g0))) ?hgs10 ?hos10 ?hns10 ?hrs10 ?_; (case hos10 => rfl); (case hgs10 => rfl); (case hns10 => rfl); (case hrs10 => first | (go_simp; done) | (go_simp; rfl)); intro w36 hw; have hb : Below w35.heap.size w35 w36 := (by rw [hw]; exact (below_set (below_set (below_set (below_set HBB_b10.out (by have := HG_b10.out; omega)) (by have := HG_b10.out; omega)) (by have := HG_b10.out; omega)) (by have := HG_b10.out; omega))); have CH35 := Aside0.mk hb.size; have n0_ := Aside0.mk (below_step HB.out hb); have n1_ := Aside0.mk (blk_below BK_b2.out hb); have n2_ := Aside0.mk (blk_below BK_b3.out hb); have n3_ := Aside0.mk (blk_below BK_b6.out hb); have n4_ := Aside0.mk (blk_below BK_b8.out hb); have n5_ := Aside0.mk (blk_below BK_b9.out hb); have n6_ := Aside0.mk (Kd.S_below RW_w0.out hb); have n7_ := Aside0.mk (Kd.S_below RW_x0.out hb); have n8_ := Aside0.mk (Kd.S_below RW_x1.out hb); have n9_ := Aside0.mk (Kd.S_below RW_g0.out hb); clear HB BK_b2 BK_b3 BK_b6 BK_b8 BK_b9 RW_w0 RW_x0 RW_x1 RW_g0; have HB := n0_; have BK_b2 := n1_; have BK_b3 := n2_; have BK_b6 := n3_; have BK_b8 := n4_; have BK_b9 := n5_; have RW_w0 := n6_; have RW_x0 := n7_; have RW_x1 := n8_; have RW_g0 := n9_; clear n0_ n1_ n2_ n3_ n4_ n5_ n6_ n7_ n8_ n9_; have BK_b10 : Aside0 (w36.heap[g_b10]? = some (.cells #[.int .i64 r0, .string r1, .int .i64 r2, .slice A_g0 xs.length c_g0] 29 (0, 0))) := ⟨by rw [hw]; refine blk_put (cs := #[.int .i64 r0, .string r1, .int .i64 r2, .slice none 0 0]) ?_ 3 _ rfl; refine blk_put (cs := #[.int .i64 r0, .string r1, .int .i64 0, .slice none 0 0]) ?_ 2 _ rfl; refine blk_put (cs := #[.int .i64 r0, .string (⟨#[]⟩ : ByteArray), .int .i64 0, .slice none 0 0]) ?_ 1 _ rfl; refine blk_put (cs := #[.int .i64 0, .string (⟨#[]⟩ : ByteArray), .int .i64 0, .slice none 0 0]) ?_ 0 _ rfl; exact BB_b10.out⟩; have HL_b10 := Aside0.mk (show g_b10 < w36.heap.size from blk_lt BK_b10.out); clear hb hw hz_b10_0 hf_b10_0 hz_b10_1 hf_b10_1 hz_b10_2 hf_b10_2 hz_b10_3 hf_b10_3; have hc_b6_0 : w36.cell? ⟨g_b6, 0, none⟩ = some (.int .i64 r0) := (blk_cell BK_b6.out 0).trans rfl; have hc_b6_1 : w36.cell? ⟨g_b6, 1, none⟩ = some (.string r1) := (blk_cell BK_b6.out 1).trans rfl; have hc_b6_2 : w36.cell? ⟨g_b6, 2, none⟩ = some (.int .i64 r2) := (blk_cell BK_b6.out 2).trans rfl; have hc_b6_3 : w36.cell? ⟨g_b6, 3, none⟩ = some (.slice A_w0 xs.length c_w0) := (blk_cell BK_b6.out 3).trans rfl; have hc_b10_0 : w36.cell? ⟨g_b10, 0, none⟩ = some (.int .i64 r0) := (blk_cell BK_b10.out 0).trans rfl; have hc_b10_1 : w36.cell? ⟨g_b10, 1, none⟩ = some (.string r1) := (blk_cell BK_b10.out 1).trans rfl; have hc_b10_2 : w36.cell? ⟨g_b10, 2, none⟩ = some (.int .i64 r2) := (blk_cell BK_b10.out 2).trans rfl; have hc_b10_3 : w36.cell? ⟨g_b10, 3, none⟩ = some (.slice A_g0 xs.length c_g0) := (blk_cell BK_b10.out 3).trans rfl)
  | ((with_reducible refine gate_callee (f := 19) rfl ?_); refine goesL_ (some 47) rfl rfl Try.func19 (by kernel_rfl) rfl #[.agg #[.int .i64 r0, .string r1, .int .i64 r2, .slice A_g0 xs.length c_g0], .agg #[.int .i64 r0, .string r1, .int .i64 r2, .slice A_w0 xs.length c_w0]] rfl (by (try simp only [List.map_toArray, List.map_cons, List.map_nil]); first | done | rfl) ?_; refine (c19 _ _ _ _ _ (readS RW_g0.out).1 (readS RW_g0.out).2 (readS RW_w0.out).1 (readS RW_w0.out).2).mono ?_; rintro e w37 ⟨rfl, hb⟩; refine ⟨_, rfl, ?_⟩; have CH36 := Aside0.mk hb.size; have n0_ := Aside0.mk (below_step HB.out hb); have n1_ := Aside0.mk (blk_below BK_b2.out hb); have n2_ := Aside0.mk (blk_below BK_b3.out hb); have n3_ := Aside0.mk (blk_below BK_b6.out hb); have n4_ := Aside0.mk (blk_below BK_b8.out hb); have n5_ := Aside0.mk (blk_below BK_b9.out hb); have n6_ := Aside0.mk (blk_below BK_b10.out hb); have n7_ := Aside0.mk (Kd.S_below RW_w0.out hb); have n8_ := Aside0.mk (Kd.S_below RW_x0.out hb); have n9_ := Aside0.mk (Kd.S_below RW_x1.out hb); have n10_ := Aside0.mk (Kd.S_below RW_g0.out hb); clear HB BK_b2 BK_b3 BK_b6 BK_b8 BK_b9 BK_b10 RW_w0 RW_x0 RW_x1 RW_g0; have HB := n0_; have BK_b2 := n1_; have BK_b3 := n2_; have BK_b6 := n3_; have BK_b8 := n4_; have BK_b9 := n5_; have BK_b10 := n6_; have RW_w0 := n7_; have RW_x0 := n8_; have RW_x1 := n9_; have RW_g0 := n10_; clear n0_ n1_ n2_ n3_ n4_ n5_ n6_ n7_ n8_ n9_ n10_; clear hb; clear hc_b6_0 hc_b6_1 hc_b6_2 hc_b6_3 hc_b10_0 hc_b10_1 hc_b10_2 hc_b10_3))
 have hb:=below_drew (Below.refl w37.heap.size w37)
 have CH37:=Aside0.mk (show w37.heap.size ≤ w37.drew.heap.size from hb.size)
 have n0_:=Aside0.mk (below_step HB.out hb)
 have n1_:=Aside0.mk (blk_below BK_b2.out hb)
 have n2_:=Aside0.mk (blk_below BK_b3.out hb)
 have n3_:=Aside0.mk (blk_below BK_b6.out hb)
 have n4_:=Aside0.mk (blk_below BK_b8.out hb)
 have n5_:=Aside0.mk (blk_below BK_b9.out hb)
 have n6_:=Aside0.mk (blk_below BK_b10.out hb)
 have n7_:=Aside0.mk (Kd.S_below RW_w0.out hb)
 have n8_:=Aside0.mk (Kd.S_below RW_x0.out hb)
 have n9_:=Aside0.mk (Kd.S_below RW_x1.out hb)
 have n10_:=Aside0.mk (Kd.S_below RW_g0.out hb)
 clear HB BK_b2 BK_b3 BK_b6 BK_b8 BK_b9 BK_b10 RW_w0 RW_x0 RW_x1 RW_g0
 have HB:=n0_
 have BK_b2:=n1_
 have BK_b3:=n2_
 have BK_b6:=n3_
 have BK_b8:=n4_
 have BK_b9:=n5_
 have BK_b10:=n6_
 have RW_w0:=n7_
 have RW_x0:=n8_
 have RW_x1:=n9_
 have RW_g0:=n10_
 clear n0_ n1_ n2_ n3_ n4_ n5_ n6_ n7_ n8_ n9_ n10_
 clear hb
 refine start_ (n:=5) (S:=fun w' => w'.cell? ⟨g_b8,0,none⟩ = some (.slice A_x0 xb.length c_x0) ∧ w'.cell? ⟨g_b2,0,none⟩ = some (.slice A_B bl.length c_B)) (ds:=[]) #[false,false,false,false,false] (by kernel_rfl) rfl rfl ⟨(blk_cell BK_b8.out 0).trans rfl,(blk_cell BK_b2.out 0).trans rfl⟩ (fun hHeld => ?_);refine with_tabW lw12_14_tab lw12_14_bits (fun HT_ HW_ => ?_)
 generalize w37.drew = w38 at HB BK_b2 BK_b3 BK_b6 BK_b8 BK_b9 BK_b10 RW_w0 RW_x0 RW_x1 RW_g0 CH37 hHeld ⊢
 refine take_ (i:=0) (N:=some 54) (v:=?_) (a':=?_) #[true,false,false,false,false] rfl rfl (take_ofW HT_.out HW_.out (by kernel_rfl)) (fun _ _ _ h => h) (Or.inl ⟨by rfl,?_⟩) hHeld ?_ ?_
 rotate_left
 ·rintro w' ⟨s0,s1⟩
  go_simp
  with_reducible rfl
 rotate_left
 ·simp only [Act.put,List.setIfInBounds_toArray,List.set_cons_zero,List.set_cons_succ,i64_w,i32_w]
  rfl
 refine take_ (i:=1) (N:=some 55) (v:=?_) (a':=?_) #[true,true,false,false,false] rfl rfl (take_ofW HT_.out HW_.out (by kernel_rfl)) (fun _ _ _ h => h) (Or.inl ⟨by rfl,?_⟩) hHeld ?_ ?_
 rotate_left
 ·rintro w' ⟨s0,s1⟩
  go_simp
  with_reducible rfl
 rotate_left
 ·simp only [Act.put,List.setIfInBounds_toArray,List.set_cons_zero,List.set_cons_succ,i64_w,i32_w]
  rfl
 refine one_ (i:=2) (N:=some 56) #[true,true,true,false,false] rfl rfl (one_of HT_.out (by kernel_rfl)) (by decide) (fun K hK => ?_)
 refine goes_ Try.func40 (by kernel_rfl) rfl #[.agg #[.slice A_B bl.length c_B]] (by rfl) rfl rfl (by (try simp only [List.map_toArray,List.map_cons,List.map_nil]);first|done|rfl) ?_
 refine (c40 _ _ _ HL_B.out (Kd.C_below HC_B.out HB.out)).mono ?_
 rintro e w39 ⟨v_e2,rfl,ho_e2,hb⟩
 refine ⟨_,rfl,?_⟩
 have CH38:=Aside0.mk hb.size
 have HW_e2:=Aside0.mk HB.out.size
 have n0_:=Aside0.mk (below_step HB.out hb)
 have n1_:=Aside0.mk (blk_below BK_b2.out hb)
 have n2_:=Aside0.mk (blk_below BK_b3.out hb)
 have n3_:=Aside0.mk (blk_below BK_b6.out hb)
 have n4_:=Aside0.mk (blk_below BK_b8.out hb)
 have n5_:=Aside0.mk (blk_below BK_b9.out hb)
 have n6_:=Aside0.mk (blk_below BK_b10.out hb)
 have n7_:=Aside0.mk (Kd.S_below RW_w0.out hb)
 have n8_:=Aside0.mk (Kd.S_below RW_x0.out hb)
 have n9_:=Aside0.mk (Kd.S_below RW_x1.out hb)
 have n10_:=Aside0.mk (Kd.S_below RW_g0.out hb)
 clear HB BK_b2 BK_b3 BK_b6 BK_b8 BK_b9 BK_b10 RW_w0 RW_x0 RW_x1 RW_g0
 have HB:=n0_
 have BK_b2:=n1_
 have BK_b3:=n2_
 have BK_b6:=n3_
 have BK_b8:=n4_
 have BK_b9:=n5_
 have BK_b10:=n6_
 have RW_w0:=n7_
 have RW_x0:=n8_
 have RW_x1:=n9_
 have RW_g0:=n10_
 clear n0_ n1_ n2_ n3_ n4_ n5_ n6_ n7_ n8_ n9_ n10_
 obtain ⟨A_e2,c_e2,rfl⟩:=Kd.S_slice ho_e2
 have RW_e2:=Aside0.mk (Kd.S_mono (ok':=fun k_ => w38.heap.size ≤ k_ ∧ k_ < w39.heap.size) (Kd.S_bound ho_e2) (fun k_ hk_ => ⟨hk_.2.1,hk_.2.2.1⟩))
 clear hb ho_e2
 refine hK.out _ _ ⟨(blk_cell BK_b8.out 0).trans rfl,(blk_cell BK_b2.out 0).trans rfl⟩ (fun hHeld => ?_)
 clear hK K
 refine norm_ (a':=?_) ?_ ?_
 rotate_left
 ·show Act.put _ (some 56) _ = _
  simp only [Act.put,List.setIfInBounds_toArray,List.set_cons_zero,List.set_cons_succ,i64_w,i32_w]
  rfl
 refine one_ (i:=3) (N:=some 57) #[true,true,true,true,false] rfl rfl (one_of HT_.out (by kernel_rfl)) (by decide) (fun K hK => ?_)
 refine goes_ Try.func24 (by kernel_rfl) rfl #[.agg #[.slice A_x0 xb.length c_x0],.agg #[.slice A_e2 xb.length c_e2]] (by rfl) rfl rfl (by (try simp only [List.map_toArray,List.map_cons,List.map_nil]);first|done|rfl) ?_
 refine (c24 _ _ _ _ _ (readS RW_x0.out).1 (readS RW_x0.out).2 (readS RW_e2.out).1 (readS RW_e2.out).2).mono ?_
 rintro e w40 ⟨rfl,hb⟩
 refine ⟨_,rfl,?_⟩
 have CH39:=Aside0.mk hb.size
 have n0_:=Aside0.mk (below_step HB.out hb)
 have n1_:=Aside0.mk (blk_below BK_b2.out hb)
 have n2_:=Aside0.mk (blk_below BK_b3.out hb)
 have n3_:=Aside0.mk (blk_below BK_b6.out hb)
 have n4_:=Aside0.mk (blk_below BK_b8.out hb)
 have n5_:=Aside0.mk (blk_below BK_b9.out hb)
 have n6_:=Aside0.mk (blk_below BK_b10.out hb)
 have n7_:=Aside0.mk (Kd.S_below RW_w0.out hb)
 have n8_:=Aside0.mk (Kd.S_below RW_x0.out hb)
 have n9_:=Aside0.mk (Kd.S_below RW_x1.out hb)
 have n10_:=Aside0.mk (Kd.S_below RW_g0.out hb)
 have n11_:=Aside0.mk (Kd.S_below RW_e2.out hb)
 clear HB BK_b2 BK_b3 BK_b6 BK_b8 BK_b9 BK_b10 RW_w0 RW_x0 RW_x1 RW_g0 RW_e2
 have HB:=n0_
 have BK_b2:=n1_
 have BK_b3:=n2_
 have BK_b6:=n3_
 have BK_b8:=n4_
 have BK_b9:=n5_
 have BK_b10:=n6_
 have RW_w0:=n7_
 have RW_x0:=n8_
 have RW_x1:=n9_
 have RW_g0:=n10_
 have RW_e2:=n11_
 clear n0_ n1_ n2_ n3_ n4_ n5_ n6_ n7_ n8_ n9_ n10_ n11_
 clear hb
 clear RW_e2
 refine hK.out _ _ ⟨(blk_cell BK_b8.out 0).trans rfl,(blk_cell BK_b2.out 0).trans rfl⟩ (fun hHeld => ?_)
 clear hK K
 refine norm_ (a':=?_) ?_ ?_
 rotate_left
 ·show Act.put _ (some 57) _ = _
  simp only [Act.put,List.setIfInBounds_toArray,List.set_cons_zero,List.set_cons_succ,i64_w,i32_w]
  rfl
 refine pure_ (i:=4) (N:=some 58) (v:=?_) (a':=?_) #[true,true,true,true,true] rfl rfl (any_of HT_.out (by kernel_rfl)) (fun _ _ _ h => h) (Or.inl ⟨by rfl,?_⟩) ?_ ?_
 rotate_left
 ·intro w'
  go_simp
  with_reducible rfl
 rotate_left
 ·simp only [Act.put,List.setIfInBounds_toArray,List.set_cons_zero,List.set_cons_succ,i64_w,i32_w]
  rfl
 refine done_ (done_of HT_.out (by kernel_rfl)) ?_
 try go_wp2
 have hb:=below_drew (Below.refl w40.heap.size w40)
 have CH40:=Aside0.mk (show w40.heap.size ≤ w40.drew.heap.size from hb.size)
 have n0_:=Aside0.mk (below_step HB.out hb)
 have n1_:=Aside0.mk (blk_below BK_b2.out hb)
 have n2_:=Aside0.mk (blk_below BK_b3.out hb)
 have n3_:=Aside0.mk (blk_below BK_b6.out hb)
 have n4_:=Aside0.mk (blk_below BK_b8.out hb)
 have n5_:=Aside0.mk (blk_below BK_b9.out hb)
 have n6_:=Aside0.mk (blk_below BK_b10.out hb)
 have n7_:=Aside0.mk (Kd.S_below RW_w0.out hb)
 have n8_:=Aside0.mk (Kd.S_below RW_x0.out hb)
 have n9_:=Aside0.mk (Kd.S_below RW_x1.out hb)
 have n10_:=Aside0.mk (Kd.S_below RW_g0.out hb)
 clear HB BK_b2 BK_b3 BK_b6 BK_b8 BK_b9 BK_b10 RW_w0 RW_x0 RW_x1 RW_g0
 have HB:=n0_
 have BK_b2:=n1_
 have BK_b3:=n2_
 have BK_b6:=n3_
 have BK_b8:=n4_
 have BK_b9:=n5_
 have BK_b10:=n6_
 have RW_w0:=n7_
 have RW_x0:=n8_
 have RW_x1:=n9_
 have RW_g0:=n10_
 clear n0_ n1_ n2_ n3_ n4_ n5_ n6_ n7_ n8_ n9_ n10_
 clear hb
 refine start_ (n:=5) (S:=fun w' => w'.cell? ⟨g_b9,0,none⟩ = some (.int .i64 t.f0) ∧ w'.cell? ⟨g_b9,1,none⟩ = some (.string t.f1) ∧ w'.cell? ⟨g_b9,2,none⟩ = some (.int .i64 t.f2) ∧ w'.cell? ⟨g_b9,3,none⟩ = some (.slice A_x1 xt.length c_x1) ∧ w'.cell? ⟨g_b3,0,none⟩ = some (.int .i64 t.f0) ∧ w'.cell? ⟨g_b3,1,none⟩ = some (.string t.f1) ∧ w'.cell? ⟨g_b3,2,none⟩ = some (.int .i64 t.f2) ∧ w'.cell? ⟨g_b3,3,none⟩ = some (.slice A_T t.f3.length c_T)) (ds:=[]) #[false,false,false,false,false] (by kernel_rfl) rfl rfl ⟨(blk_cell BK_b9.out 0).trans rfl,(blk_cell BK_b9.out 1).trans rfl,(blk_cell BK_b9.out 2).trans rfl,(blk_cell BK_b9.out 3).trans rfl,(blk_cell BK_b3.out 0).trans rfl,(blk_cell BK_b3.out 1).trans rfl,(blk_cell BK_b3.out 2).trans rfl,(blk_cell BK_b3.out 3).trans rfl⟩ (fun hHeld => ?_);refine with_tabW lw12_16_tab lw12_16_bits (fun HT_ HW_ => ?_)
 generalize w40.drew = w41 at HB BK_b2 BK_b3 BK_b6 BK_b8 BK_b9 BK_b10 RW_w0 RW_x0 RW_x1 RW_g0 CH40 hHeld ⊢
 refine take_ (i:=0) (N:=some 59) (v:=?_) (a':=?_) #[true,false,false,false,false] rfl rfl (take_ofW HT_.out HW_.out (by kernel_rfl)) (fun _ _ _ h => h) (Or.inl ⟨by rfl,?_⟩) hHeld ?_ ?_
 rotate_left
 ·rintro w' ⟨s0,s1,s2,s3,s4,s5,s6,s7⟩
  go_simp
  with_reducible rfl
 rotate_left
 ·simp only [Act.put,List.setIfInBounds_toArray,List.set_cons_zero,List.set_cons_succ,i64_w,i32_w]
  rfl
 refine take_ (i:=1) (N:=some 60) (v:=?_) (a':=?_) #[true,true,false,false,false] rfl rfl (take_ofW HT_.out HW_.out (by kernel_rfl)) (fun _ _ _ h => h) (Or.inl ⟨by rfl,?_⟩) hHeld ?_ ?_
 rotate_left
 ·rintro w' ⟨s0,s1,s2,s3,s4,s5,s6,s7⟩
  go_simp
  with_reducible rfl
 rotate_left
 ·simp only [Act.put,List.setIfInBounds_toArray,List.set_cons_zero,List.set_cons_succ,i64_w,i32_w]
  rfl
 refine one_ (i:=2) (N:=some 61) #[true,true,true,false,false] rfl rfl (one_of HT_.out (by kernel_rfl)) (by decide) (fun K hK => ?_)
 refine goes_ Try.func17 (by kernel_rfl) rfl #[.agg #[.int .i64 t.f0,.string t.f1,.int .i64 t.f2,.slice A_T t.f3.length c_T]] (by rfl) rfl rfl (by (try simp only [List.map_toArray,List.map_cons,List.map_nil]);first|done|rfl) ?_
 refine (c17 _ _ _ HL_T.out (Kd.C_below HC_T.out HB.out)).mono ?_
 rintro e w42 ⟨v_f2,rfl,ho_f2,hb⟩
 refine ⟨_,rfl,?_⟩
 have CH41:=Aside0.mk hb.size
 have HW_f2:=Aside0.mk HB.out.size
 have n0_:=Aside0.mk (below_step HB.out hb)
 have n1_:=Aside0.mk (blk_below BK_b2.out hb)
 have n2_:=Aside0.mk (blk_below BK_b3.out hb)
 have n3_:=Aside0.mk (blk_below BK_b6.out hb)
 have n4_:=Aside0.mk (blk_below BK_b8.out hb)
 have n5_:=Aside0.mk (blk_below BK_b9.out hb)
 have n6_:=Aside0.mk (blk_below BK_b10.out hb)
 have n7_:=Aside0.mk (Kd.S_below RW_w0.out hb)
 have n8_:=Aside0.mk (Kd.S_below RW_x0.out hb)
 have n9_:=Aside0.mk (Kd.S_below RW_x1.out hb)
 have n10_:=Aside0.mk (Kd.S_below RW_g0.out hb)
 clear HB BK_b2 BK_b3 BK_b6 BK_b8 BK_b9 BK_b10 RW_w0 RW_x0 RW_x1 RW_g0
 have HB:=n0_
 have BK_b2:=n1_
 have BK_b3:=n2_
 have BK_b6:=n3_
 have BK_b8:=n4_
 have BK_b9:=n5_
 have BK_b10:=n6_
 have RW_w0:=n7_
 have RW_x0:=n8_
 have RW_x1:=n9_
 have RW_g0:=n10_
 clear n0_ n1_ n2_ n3_ n4_ n5_ n6_ n7_ n8_ n9_ n10_
 obtain ⟨A_f2,c_f2,rfl⟩:=Kd.S_slice ho_f2
 have RW_f2:=Aside0.mk (Kd.S_mono (ok':=fun k_ => w41.heap.size ≤ k_ ∧ k_ < w42.heap.size) (Kd.S_bound ho_f2) (fun k_ hk_ => ⟨hk_.2.1,hk_.2.2.1⟩))
 clear hb ho_f2
 refine hK.out _ _ ⟨(blk_cell BK_b9.out 0).trans rfl,(blk_cell BK_b9.out 1).trans rfl,(blk_cell BK_b9.out 2).trans rfl,(blk_cell BK_b9.out 3).trans rfl,(blk_cell BK_b3.out 0).trans rfl,(blk_cell BK_b3.out 1).trans rfl,(blk_cell BK_b3.out 2).trans rfl,(blk_cell BK_b3.out 3).trans rfl⟩ (fun hHeld => ?_)
 clear hK K
 refine norm_ (a':=?_) ?_ ?_
 rotate_left
 ·show Act.put _ (some 61) _ = _
  simp only [Act.put,List.setIfInBounds_toArray,List.set_cons_zero,List.set_cons_succ,i64_w,i32_w]
  rfl
 refine one_ (i:=3) (N:=some 62) #[true,true,true,true,false] rfl rfl (one_of HT_.out (by kernel_rfl)) (by decide) (fun K hK => ?_)
 refine goes_ Try.func19 (by kernel_rfl) rfl #[.agg #[.int .i64 t.f0,.string t.f1,.int .i64 t.f2,.slice A_x1 xt.length c_x1],.agg #[.int .i64 t.f0,.string t.f1,.int .i64 t.f2,.slice A_f2 xt.length c_f2]] (by rfl) rfl rfl (by (try simp only [List.map_toArray,List.map_cons,List.map_nil]);first|done|rfl) ?_
 refine (d19 _ _ _ _ _ (readS RW_x1.out).1 (readS RW_x1.out).2 (readS RW_f2.out).1 (readS RW_f2.out).2).mono ?_
 rintro e w43 ⟨rfl,hb⟩
 refine ⟨_,rfl,?_⟩
 have CH42:=Aside0.mk hb.size
 have n0_:=Aside0.mk (below_step HB.out hb)
 have n1_:=Aside0.mk (blk_below BK_b2.out hb)
 have n2_:=Aside0.mk (blk_below BK_b3.out hb)
 have n3_:=Aside0.mk (blk_below BK_b6.out hb)
 have n4_:=Aside0.mk (blk_below BK_b8.out hb)
 have n5_:=Aside0.mk (blk_below BK_b9.out hb)
 have n6_:=Aside0.mk (blk_below BK_b10.out hb)
 have n7_:=Aside0.mk (Kd.S_below RW_w0.out hb)
 have n8_:=Aside0.mk (Kd.S_below RW_x0.out hb)
 have n9_:=Aside0.mk (Kd.S_below RW_x1.out hb)
 have n10_:=Aside0.mk (Kd.S_below RW_g0.out hb)
 have n11_:=Aside0.mk (Kd.S_below RW_f2.out hb)
 clear HB BK_b2 BK_b3 BK_b6 BK_b8 BK_b9 BK_b10 RW_w0 RW_x0 RW_x1 RW_g0 RW_f2
 have HB:=n0_
 have BK_b2:=n1_
 have BK_b3:=n2_
 have BK_b6:=n3_
 have BK_b8:=n4_
 have BK_b9:=n5_
 have BK_b10:=n6_
 have RW_w0:=n7_
 have RW_x0:=n8_
 have RW_x1:=n9_
 have RW_g0:=n10_
 have RW_f2:=n11_
 clear n0_ n1_ n2_ n3_ n4_ n5_ n6_ n7_ n8_ n9_ n10_ n11_
 clear hb
 clear RW_f2
 refine hK.out _ _ ⟨(blk_cell BK_b9.out 0).trans rfl,(blk_cell BK_b9.out 1).trans rfl,(blk_cell BK_b9.out 2).trans rfl,(blk_cell BK_b9.out 3).trans rfl,(blk_cell BK_b3.out 0).trans rfl,(blk_cell BK_b3.out 1).trans rfl,(blk_cell BK_b3.out 2).trans rfl,(blk_cell BK_b3.out 3).trans rfl⟩ (fun hHeld => ?_)
 clear hK K
 refine norm_ (a':=?_) ?_ ?_
 rotate_left
 ·show Act.put _ (some 62) _ = _
  simp only [Act.put,List.setIfInBounds_toArray,List.set_cons_zero,List.set_cons_succ,i64_w,i32_w]
  rfl
 refine pure_ (i:=4) (N:=some 63) (v:=?_) (a':=?_) #[true,true,true,true,true] rfl rfl (any_of HT_.out (by kernel_rfl)) (fun _ _ _ h => h) (Or.inl ⟨by rfl,?_⟩) ?_ ?_
 rotate_left
 ·intro w'
  go_simp
  with_reducible rfl
 rotate_left
 ·simp only [Act.put,List.setIfInBounds_toArray,List.set_cons_zero,List.set_cons_succ,i64_w,i32_w]
  rfl
 refine done_ (done_of HT_.out (by kernel_rfl)) ?_
 have hc_b8_0 : w43.cell? ⟨g_b8,0,none⟩ = some (.slice A_x0 xb.length c_x0):=(blk_cell BK_b8.out 0).trans rfl
 go_wp2_with (first
  | ((with_reducible refine gate_callee (f := 25) rfl ?_); refine goesL_ (some 66) rfl rfl Try.func25 (by kernel_rfl) rfl #[.agg #[.slice A_x0 xb.length c_x0], .int .i64 1] rfl (by (try simp only [List.map_toArray, List.map_cons, List.map_nil]); first | done | rfl) ?_; refine (c25 _ w30.heap.size _ _ _ (by have := CH0.out; have := CH1.out; have := CH2.out; have := CH3.out; have := CH4.out; have := CH28.out; have := CH29.out; have := CH30.out; have := CH31.out; have := CH32.out; have := CH33.out; have := CH34.out; have := CH35.out; have := CH36.out; have := CH37.out; have := CH38.out; have := CH39.out; have := CH40.out; have := CH41.out; have := CH42.out; omega) RW_x0.out).mono ?_; rintro e w44 ⟨rfl, ho, hb, hk⟩; refine ⟨_, rfl, ?_⟩; have CH43 := Aside0.mk hk.1; have n0_ := Aside0.mk (below_weaken HB.out HW_x0.out hb); have n1_ := Aside0.mk (blk_kept BK_b2.out hk (by have := HG_b2.out; have := HL_b2.out; have := CH0.out; have := CH1.out; have := CH2.out; have := CH3.out; have := CH4.out; have := CH28.out; have := CH29.out; have := CH30.out; have := CH31.out; have := CH32.out; have := CH33.out; have := CH34.out; have := CH35.out; have := CH36.out; have := CH37.out; have := CH38.out; have := CH39.out; have := CH40.out; have := CH41.out; have := CH42.out; omega)); have n2_ := Aside0.mk (blk_kept BK_b3.out hk (by have := HG_b3.out; have := HL_b3.out; have := CH0.out; have := CH1.out; have := CH2.out; have := CH3.out; have := CH4.out; have := CH28.out; have := CH29.out; have := CH30.out; have := CH31.out; have := CH32.out; have := CH33.out; have := CH34.out; have := CH35.out; have := CH36.out; have := CH37.out; have := CH38.out; have := CH39.out; have := CH40.out; have := CH41.out; have := CH42.out; omega)); have n3_ := Aside0.mk (blk_kept BK_b6.out hk (by have := HG_b6.out; have := HL_b6.out; have := CH0.out; have := CH1.out; have := CH2.out; have := CH3.out; have := CH4.out; have := CH28.out; have := CH29.out; have := CH30.out; have := CH31.out; have := CH32.out; have := CH33.out; have := CH34.out; have := CH35.out; have := CH36.out; have := CH37.out; have := CH38.out; have := CH39.out; have := CH40.out; have := CH41.out; have := CH42.out; omega)); have n4_ := Aside0.mk (blk_kept BK_b8.out hk (by have := HG_b8.out; have := HL_b8.out; have := CH0.out; have := CH1.out; have := CH2.out; have := CH3.out; have := CH4.out; have := CH28.out; have := CH29.out; have := CH30.out; have := CH31.out; have := CH32.out; have := CH33.out; have := CH34.out; have := CH35.out; have := CH36.out; have := CH37.out; have := CH38.out; have := CH39.out; have := CH40.out; have := CH41.out; have := CH42.out; omega)); have n5_ := Aside0.mk (blk_kept BK_b9.out hk (by have := HG_b9.out; have := HL_b9.out; have := CH0.out; have := CH1.out; have := CH2.out; have := CH3.out; have := CH4.out; have := CH28.out; have := CH29.out; have := CH30.out; have := CH31.out; have := CH32.out; have := CH33.out; have := CH34.out; have := CH35.out; have := CH36.out; have := CH37.out; have := CH38.out; have := CH39.out; have := CH40.out; have := CH41.out; have := CH42.out; omega)); have n6_ := Aside0.mk (blk_kept BK_b10.out hk (by have := HG_b10.out; have := HL_b10.out; have := CH0.out; have := CH1.out; have := CH2.out; have := CH3.out; have := CH4.out; have := CH28.out; have := CH29.out; have := CH30.out; have := CH31.out; have := CH32.out; have := CH33.out; have := CH34.out; have := CH35.out; have := CH36.out; have := CH37.out; have := CH38.out; have := CH39.out; have := CH40.out; have := CH41.out; have := CH42.out; omega)); have n7_ := Aside0.mk (Kd.S_kept RW_w0.out hk (fun k_ hk1_ hk2_ => by have := CH0.out; have := CH1.out; have := CH2.out; have := CH3.out; have := CH4.out; have := CH28.out; have := CH29.out; have := CH30.out; have := CH31.out; have := CH32.out; have := CH33.out; have := CH34.out; have := CH35.out; have := CH36.out; have := CH37.out; have := CH38.out; have := CH39.out; have := CH40.out; have := CH41.out; have := CH42.out; omega)); have n8_ := Aside0.mk (Kd.S_kept RW_x1.out hk (fun k_ hk1_ hk2_ => by have := CH0.out; have := CH1.out; have := CH2.out; have := CH3.out; have := CH4.out; have := CH28.out; have := CH29.out; have := CH30.out; have := CH31.out; have := CH32.out; have := CH33.out; have := CH34.out; have := CH35.out; have := CH36.out; have := CH37.out; have := CH38.out; have := CH39.out; have := CH40.out; have := CH41.out; have := CH42.out; omega)); have n9_ := Aside0.mk (Kd.S_kept RW_g0.out hk (fun k_ hk1_ hk2_ => by have := CH0.out; have := CH1.out; have := CH2.out; have := CH3.out; have := CH4.out; have := CH28.out; have := CH29.out; have := CH30.out; have := CH31.out; have := CH32.out; have := CH33.out; have := CH34.out; have := CH35.out; have := CH36.out; have := CH37.out; have := CH38.out; have := CH39.out; have := CH40.out; have := CH41.out; have := CH42.out; omega)); clear HB BK_b2 BK_b3 BK_b6 BK_b8 BK_b9 BK_b10 RW_w0 RW_x1 RW_g0; have HB := n0_; have BK_b2 := n1_; have BK_b3 := n2_; have BK_b6 := n3_; have BK_b8 := n4_; have BK_b9 := n5_; have BK_b10 := n6_; have RW_w0 := n7_; have RW_x1 := n8_; have RW_g0 := n9_; clear n0_ n1_ n2_ n3_ n4_ n5_ n6_ n7_ n8_ n9_; clear RW_x0; have RW_x0 := Aside0.mk ho; clear ho; clear hb hk; clear hc_b8_0; have hc_b9_0 : w44.cell? ⟨g_b9, 0, none⟩ = some (.int .i64 t.f0) := (blk_cell BK_b9.out 0).trans rfl; have hc_b9_1 : w44.cell? ⟨g_b9, 1, none⟩ = some (.string t.f1) := (blk_cell BK_b9.out 1).trans rfl; have hc_b9_2 : w44.cell? ⟨g_b9, 2, none⟩ = some (.int .i64 t.f2) := (blk_cell BK_b9.out 2).trans rfl; have hc_b9_3 : w44.cell? ⟨g_b9, 3, none⟩ = some (.slice A_x1 xt.length c_x1) := (blk_cell BK_b9.out 3).trans rfl)
  | ((with_reducible refine gate_callee (f := 29) rfl ?_); refine goesL_ (some 69) rfl rfl Try.func29 (by kernel_rfl) rfl #[.agg #[.int .i64 t.f0, .string t.f1, .int .i64 t.f2, .slice A_x1 xt.length c_x1], .int .i64 m1] rfl (by (try simp only [List.map_toArray, List.map_cons, List.map_nil]); first | done | rfl) ?_; refine (d29 _ w32.heap.size _ _ _ (by have := CH0.out; have := CH1.out; have := CH2.out; have := CH3.out; have := CH4.out; have := CH28.out; have := CH29.out; have := CH30.out; have := CH31.out; have := CH32.out; have := CH33.out; have := CH34.out; have := CH35.out; have := CH36.out; have := CH37.out; have := CH38.out; have := CH39.out; have := CH40.out; have := CH41.out; have := CH42.out; have := CH43.out; omega) RW_x1.out).mono ?_; rintro e w45 ⟨rfl, ho, hb, hk⟩; refine ⟨_, rfl, ?_⟩; have CH44 := Aside0.mk hk.1; have n0_ := Aside0.mk (below_weaken HB.out HW_x1.out hb); have n1_ := Aside0.mk (blk_kept BK_b2.out hk (by have := HG_b2.out; have := HL_b2.out; have := CH0.out; have := CH1.out; have := CH2.out; have := CH3.out; have := CH4.out; have := CH28.out; have := CH29.out; have := CH30.out; have := CH31.out; have := CH32.out; have := CH33.out; have := CH34.out; have := CH35.out; have := CH36.out; have := CH37.out; have := CH38.out; have := CH39.out; have := CH40.out; have := CH41.out; have := CH42.out; have := CH43.out; omega)); have n2_ := Aside0.mk (blk_kept BK_b3.out hk (by have := HG_b3.out; have := HL_b3.out; have := CH0.out; have := CH1.out; have := CH2.out; have := CH3.out; have := CH4.out; have := CH28.out; have := CH29.out; have := CH30.out; have := CH31.out; have := CH32.out; have := CH33.out; have := CH34.out; have := CH35.out; have := CH36.out; have := CH37.out; have := CH38.out; have := CH39.out; have := CH40.out; have := CH41.out; have := CH42.out; have := CH43.out; omega)); have n3_ := Aside0.mk (blk_kept BK_b6.out hk (by have := HG_b6.out; have := HL_b6.out; have := CH0.out; have := CH1.out; have := CH2.out; have := CH3.out; have := CH4.out; have := CH28.out; have := CH29.out; have := CH30.out; have := CH31.out; have := CH32.out; have := CH33.out; have := CH34.out; have := CH35.out; have := CH36.out; have := CH37.out; have := CH38.out; have := CH39.out; have := CH40.out; have := CH41.out; have := CH42.out; have := CH43.out; omega)); have n4_ := Aside0.mk (blk_kept BK_b8.out hk (by have := HG_b8.out; have := HL_b8.out; have := CH0.out; have := CH1.out; have := CH2.out; have := CH3.out; have := CH4.out; have := CH28.out; have := CH29.out; have := CH30.out; have := CH31.out; have := CH32.out; have := CH33.out; have := CH34.out; have := CH35.out; have := CH36.out; have := CH37.out; have := CH38.out; have := CH39.out; have := CH40.out; have := CH41.out; have := CH42.out; have := CH43.out; omega)); have n5_ := Aside0.mk (blk_kept BK_b9.out hk (by have := HG_b9.out; have := HL_b9.out; have := CH0.out; have := CH1.out; have := CH2.out; have := CH3.out; have := CH4.out; have := CH28.out; have := CH29.out; have := CH30.out; have := CH31.out; have := CH32.out; have := CH33.out; have := CH34.out; have := CH35.out; have := CH36.out; have := CH37.out; have := CH38.out; have := CH39.out; have := CH40.out; have := CH41.out; have := CH42.out; have := CH43.out; omega)); have n6_ := Aside0.mk (blk_kept BK_b10.out hk (by have := HG_b10.out; have := HL_b10.out; have := CH0.out; have := CH1.out; have := CH2.out; have := CH3.out; have := CH4.out; have := CH28.out; have := CH29.out; have := CH30.out; have := CH31.out; have := CH32.out; have := CH33.out; have := CH34.out; have := CH35.out; have := CH36.out; have := CH37.out; have := CH38.out; have := CH39.out; have := CH40.out; have := CH41.out; have := CH42.out; have := CH43.out; omega)); have n7_ := Aside0.mk (Kd.S_kept RW_w0.out hk (fun k_ hk1_ hk2_ => by have := CH0.out; have := CH1.out; have := CH2.out; have := CH3.out; have := CH4.out; have := CH28.out; have := CH29.out; have := CH30.out; have := CH31.out; have := CH32.out; have := CH33.out; have := CH34.out; have := CH35.out; have := CH36.out; have := CH37.out; have := CH38.out; have := CH39.out; have := CH40.out; have := CH41.out; have := CH42.out; have := CH43.out; omega)); have n8_ := Aside0.mk (Kd.S_kept RW_x0.out hk (fun k_ hk1_ hk2_ => by have := CH0.out; have := CH1.out; have := CH2.out; have := CH3.out; have := CH4.out; have := CH28.out; have := CH29.out; have := CH30.out; have := CH31.out; have := CH32.out; have := CH33.out; have := CH34.out; have := CH35.out; have := CH36.out; have := CH37.out; have := CH38.out; have := CH39.out; have := CH40.out; have := CH41.out; have := CH42.out; have := CH43.out; omega)); have n9_ := Aside0.mk (Kd.S_kept RW_g0.out hk (fun k_ hk1_ hk2_ => by have := CH0.out; have := CH1.out; have := CH2.out; have := CH3.out; have := CH4.out; have := CH28.out; have := CH29.out; have := CH30.out; have := CH31.out; have := CH32.out; have := CH33.out; have := CH34.out; have := CH35.out; have := CH36.out; have := CH37.out; have := CH38.out; have := CH39.out; have := CH40.out; have := CH41.out; have := CH42.out; have := CH43.out; omega)); clear HB BK_b2 BK_b3 BK_b6 BK_b8 BK_b9 BK_b10 RW_w0 RW_x0 RW_g0; have HB := n0_; have BK_b2 := n1_; have BK_b3 := n2_; have BK_b6 := n3_; have BK_b8 := n4_; have BK_b9 := n5_; have BK_b10 := n6_; have RW_w0 := n7_; have RW_x0 := n8_; have RW_g0 := n9_; clear n0_ n1_ n2_ n3_ n4_ n5_ n6_ n7_ n8_ n9_; clear RW_x1; have RW_x1 := Aside0.mk ho; clear ho; clear hb hk; clear hc_b9_0 hc_b9_1 hc_b9_2 hc_b9_3; have hc_b6_0 : w45.cell? ⟨g_b6, 0, none⟩ = some (.int .i64 r0) := (blk_cell BK_b6.out 0).trans rfl; have hc_b6_1 : w45.cell? ⟨g_b6, 1, none⟩ = some (.string r1) := (blk_cell BK_b6.out 1).trans rfl; have hc_b6_2 : w45.cell? ⟨g_b6, 2, none⟩ = some (.int .i64 r2) := (blk_cell BK_b6.out 2).trans rfl; have hc_b6_3 : w45.cell? ⟨g_b6, 3, none⟩ = some (.slice A_w0 xs.length c_w0) := (blk_cell BK_b6.out 3).trans rfl; have hc_b10_0 : w45.cell? ⟨g_b10, 0, none⟩ = some (.int .i64 r0) := (blk_cell BK_b10.out 0).trans rfl; have hc_b10_1 : w45.cell? ⟨g_b10, 1, none⟩ = some (.string r1) := (blk_cell BK_b10.out 1).trans rfl; have hc_b10_2 : w45.cell? ⟨g_b10, 2, none⟩ = some (.int .i64 r2) := (blk_cell BK_b10.out 2).trans rfl; have hc_b10_3 : w45.cell? ⟨g_b10, 3, none⟩ = some (.slice A_g0 xs.length c_g0) := (blk_cell BK_b10.out 3).trans rfl)
  | (go_at_call 19; refine (c19 _ _ _ _ _ (readS RW_g0.out).1 (readS RW_g0.out).2 (readS RW_w0.out).1 (readS RW_w0.out).2).mono ?_; rintro e w46 ⟨rfl, hb⟩; have CH45 := Aside0.mk hb.size; have n0_ := Aside0.mk (below_step HB.out hb); have n1_ := Aside0.mk (blk_below BK_b2.out hb); have n2_ := Aside0.mk (blk_below BK_b3.out hb); have n3_ := Aside0.mk (blk_below BK_b6.out hb); have n4_ := Aside0.mk (blk_below BK_b8.out hb); have n5_ := Aside0.mk (blk_below BK_b9.out hb); have n6_ := Aside0.mk (blk_below BK_b10.out hb); have n7_ := Aside0.mk (Kd.S_below RW_w0.out hb); have n8_ := Aside0.mk (Kd.S_below RW_x0.out hb); have n9_ := Aside0.mk (Kd.S_below RW_x1.out hb); have n10_ := Aside0.mk (Kd.S_below RW_g0.out hb); clear HB BK_b2 BK_b3 BK_b6 BK_b8 BK_b9 BK_b10 RW_w0 RW_x0 RW_x1 RW_g0; have HB := n0_; have BK_b2 := n1_; have BK_b3 := n2_; have BK_b6 := n3_; have BK_b8 := n4_; have BK_b9 := n5_; have BK_b10 := n6_; have RW_w0 := n7_; have RW_x0 := n8_; have RW_x1 := n9_; have RW_g0 := n10_; clear n0_ n1_ n2_ n3_ n4_ n5_ n6_ n7_ n8_ n9_ n10_; clear hb; clear hc_b6_0 hc_b6_1 hc_b6_2 hc_b6_3 hc_b10_0 hc_b10_1 hc_b10_2 hc_b10_3; have hc_b10_0 : w46.cell? ⟨g_b10, 0, none⟩ = some (.int .i64 r0) := (blk_cell BK_b10.out 0).trans rfl; have hc_b10_1 : w46.cell? ⟨g_b10, 1, none⟩ = some (.string r1) := (blk_cell BK_b10.out 1).trans rfl; have hc_b10_2 : w46.cell? ⟨g_b10, 2, none⟩ = some (.int .i64 r2) := (blk_cell BK_b10.out 2).trans rfl; have hc_b10_3 : w46.cell? ⟨g_b10, 3, none⟩ = some (.slice A_g0 xs.length c_g0) := (blk_cell BK_b10.out 3).trans rfl)
  | ((with_reducible refine gate_callee (f := 29) rfl ?_); refine goesL_ (some 85) rfl rfl Try.func29 (by kernel_rfl) rfl #[.agg #[.int .i64 r0, .string r1, .int .i64 r2, .slice A_g0 xs.length c_g0], .int .i64 1] rfl (by (try simp only [List.map_toArray, List.map_cons, List.map_nil]); first | done | rfl) ?_; refine (c29 _ w34.heap.size _ _ _ (by have := CH0.out; have := CH1.out; have := CH2.out; have := CH3.out; have := CH4.out; have := CH28.out; have := CH29.out; have := CH30.out; have := CH31.out; have := CH32.out; have := CH33.out; have := CH34.out; have := CH35.out; have := CH36.out; have := CH37.out; have := CH38.out; have := CH39.out; have := CH40.out; have := CH41.out; have := CH42.out; have := CH43.out; have := CH44.out; have := CH45.out; omega) RW_g0.out).mono ?_; rintro e w47 ⟨rfl, ho, hb, hk⟩; refine ⟨_, rfl, ?_⟩; have CH46 := Aside0.mk hk.1; have n0_ := Aside0.mk (below_weaken HB.out HW_g0.out hb); have n1_ := Aside0.mk (blk_kept BK_b2.out hk (by have := HG_b2.out; have := HL_b2.out; have := CH0.out; have := CH1.out; have := CH2.out; have := CH3.out; have := CH4.out; have := CH28.out; have := CH29.out; have := CH30.out; have := CH31.out; have := CH32.out; have := CH33.out; have := CH34.out; have := CH35.out; have := CH36.out; have := CH37.out; have := CH38.out; have := CH39.out; have := CH40.out; have := CH41.out; have := CH42.out; have := CH43.out; have := CH44.out; have := CH45.out; omega)); have n2_ := Aside0.mk (blk_kept BK_b3.out hk (by have := HG_b3.out; have := HL_b3.out; have := CH0.out; have := CH1.out; have := CH2.out; have := CH3.out; have := CH4.out; have := CH28.out; have := CH29.out; have := CH30.out; have := CH31.out; have := CH32.out; have := CH33.out; have := CH34.out; have := CH35.out; have := CH36.out; have := CH37.out; have := CH38.out; have := CH39.out; have := CH40.out; have := CH41.out; have := CH42.out; have := CH43.out; have := CH44.out; have := CH45.out; omega)); have n3_ := Aside0.mk (blk_kept BK_b6.out hk (by have := HG_b6.out; have := HL_b6.out; have := CH0.out; have := CH1.out; have := CH2.out; have := CH3.out; have := CH4.out; have := CH28.out; have := CH29.out; have := CH30.out; have := CH31.out; have := CH32.out; have := CH33.out; have := CH34.out; have := CH35.out; have := CH36.out; have := CH37.out; have := CH38.out; have := CH39.out; have := CH40.out; have := CH41.out; have := CH42.out; have := CH43.out; have := CH44.out; have := CH45.out; omega)); have n4_ := Aside0.mk (blk_kept BK_b8.out hk (by have := HG_b8.out; have := HL_b8.out; have := CH0.out; have := CH1.out; have := CH2.out; have := CH3.out; have := CH4.out; have := CH28.out; have := CH29.out; have := CH30.out; have := CH31.out; have := CH32.out; have := CH33.out; have := CH34.out; have := CH35.out; have := CH36.out; have := CH37.out; have := CH38.out; have := CH39.out; have := CH40.out; have := CH41.out; have := CH42.out; have := CH43.out; have := CH44.out; have := CH45.out; omega)); have n5_ := Aside0.mk (blk_kept BK_b9.out hk (by have := HG_b9.out; have := HL_b9.out; have := CH0.out; have := CH1.out; have := CH2.out; have := CH3.out; have := CH4.out; have := CH28.out; have := CH29.out; have := CH30.out; have := CH31.out; have := CH32.out; have := CH33.out; have := CH34.out; have := CH35.out; have := CH36.out; have := CH37.out; have := CH38.out; have := CH39.out; have := CH40.out; have := CH41.out; have := CH42.out; have := CH43.out; have := CH44.out; have := CH45.out; omega)); have n6_ := Aside0.mk (blk_kept BK_b10.out hk (by have := HG_b10.out; have := HL_b10.out; have := CH0.out; have := CH1.out; have := CH2.out; have := CH3.out; have := CH4.out; have := CH28.out; have := CH29.out; have := CH30.out; have := CH31.out; have := CH32.out; have := CH33.out; have := CH34.out; have := CH35.out; have := CH36.out; have := CH37.out; have := CH38.out; have := CH39.out; have := CH40.out; have := CH41.out; have := CH42.out; have := CH43.out; have := CH44.out; have := CH45.out; omega)); have n7_ := Aside0.mk (Kd.S_kept RW_w0.out hk (fun k_ hk1_ hk2_ => by have := CH0.out; have := CH1.out; have := CH2.out; have := CH3.out; have := CH4.out; have := CH28.out; have := CH29.out; have := CH30.out; have := CH31.out; have := CH32.out; have := CH33.out; have := CH34.out; have := CH35.out; have := CH36.out; have := CH37.out; have := CH38.out; have := CH39.out; have := CH40.out; have := CH41.out; have := CH42.out; have := CH43.out; have := CH44.out; have := CH45.out; omega)); have n8_ := Aside0.mk (Kd.S_kept RW_x0.out hk (fun k_ hk1_ hk2_ => by have := CH0.out; have := CH1.out; have := CH2.out; have := CH3.out; have := CH4.out; have := CH28.out; have := CH29.out; have := CH30.out; have := CH31.out; have := CH32.out; have := CH33.out; have := CH34.out; have := CH35.out; have := CH36.out; have := CH37.out; have := CH38.out; have := CH39.out; have := CH40.out; have := CH41.out; have := CH42.out; have := CH43.out; have := CH44.out; have := CH45.out; omega)); have n9_ := Aside0.mk (Kd.S_kept RW_x1.out hk (fun k_ hk1_ hk2_ => by have := CH0.out; have := CH1.out; have := CH2.out; have := CH3.out; have := CH4.out; have := CH28.out; have := CH29.out; have := CH30.out; have := CH31.out; have := CH32.out; have := CH33.out; have := CH34.out; have := CH35.out; have := CH36.out; have := CH37.out; have := CH38.out; have := CH39.out; have := CH40.out; have := CH41.out; have := CH42.out; have := CH43.out; have := CH44.out; have := CH45.out; omega)); clear HB BK_b2 BK_b3 BK_b6 BK_b8 BK_b9 BK_b10 RW_w0 RW_x0 RW_x1; have HB := n0_; have BK_b2 := n1_; have BK_b3 := n2_; have BK_b6 := n3_; have BK_b8 := n4_; have BK_b9 := n5_; have BK_b10 := n6_; have RW_w0 := n7_; have RW_x0 := n8_; have RW_x1 := n9_; clear n0_ n1_ n2_ n3_ n4_ n5_ n6_ n7_ n8_ n9_; clear RW_g0; have RW_g0 := Aside0.mk ho; clear ho; clear hb hk; clear hc_b10_0 hc_b10_1 hc_b10_2 hc_b10_3; have hc_b10_0 : w47.cell? ⟨g_b10, 0, none⟩ = some (.int .i64 r0) := (blk_cell BK_b10.out 0).trans rfl; have hc_b10_1 : w47.cell? ⟨g_b10, 1, none⟩ = some (.string r1) := (blk_cell BK_b10.out 1).trans rfl; have hc_b10_2 : w47.cell? ⟨g_b10, 2, none⟩ = some (.int .i64 r2) := (blk_cell BK_b10.out 2).trans rfl; have hc_b10_3 : w47.cell? ⟨g_b10, 3, none⟩ = some (.slice A_g0 xs.length c_g0) := (blk_cell BK_b10.out 3).trans rfl)
  | ((with_reducible refine gate_callee (f := 30) rfl ?_); refine goesL_ (some 88) rfl rfl Try.func30 (by kernel_rfl) rfl #[.agg #[.int .i64 r0, .string r1, .int .i64 r2, .slice A_g0 xs.length c_g0], .int .i64 1] rfl (by (try simp only [List.map_toArray, List.map_cons, List.map_nil]); first | done | rfl) ?_; refine (c30 _ _ _ (readS RW_g0.out).1 (readS RW_g0.out).2).mono ?_; rintro e w48 ⟨rfl, hb⟩; refine ⟨_, rfl, ?_⟩; have CH47 := Aside0.mk hb.size; have n0_ := Aside0.mk (below_step HB.out hb); have n1_ := Aside0.mk (blk_below BK_b2.out hb); have n2_ := Aside0.mk (blk_below BK_b3.out hb); have n3_ := Aside0.mk (blk_below BK_b6.out hb); have n4_ := Aside0.mk (blk_below BK_b8.out hb); have n5_ := Aside0.mk (blk_below BK_b9.out hb); have n6_ := Aside0.mk (blk_below BK_b10.out hb); have n7_ := Aside0.mk (Kd.S_below RW_w0.out hb); have n8_ := Aside0.mk (Kd.S_below RW_x0.out hb); have n9_ := Aside0.mk (Kd.S_below RW_x1.out hb); have n10_ := Aside0.mk (Kd.S_below RW_g0.out hb); clear HB BK_b2 BK_b3 BK_b6 BK_b8 BK_b9 BK_b10 RW_w0 RW_x0 RW_x1 RW_g0; have HB := n0_; have BK_b2 := n1_; have BK_b3 := n2_; have BK_b6 := n3_; have BK_b8 := n4_; have BK_b9 := n5_; have BK_b10 := n6_; have RW_w0 := n7_; have RW_x0 := n8_; have RW_x1 := n9_; have RW_g0 := n10_; clear n0_ n1_ n2_ n3_ n4_ n5_ n6_ n7_ n8_ n9_ n10_; clear hb; clear hc_b10_0 hc_b10_1 hc_b10_2 hc_b10_3))
 have hb:=below_drew (Below.refl w48.heap.size w48)
 have CH48:=Aside0.mk (show w48.heap.size ≤ w48.drew.heap.size from hb.size)
 have n0_:=Aside0.mk (below_step HB.out hb)
 have n1_:=Aside0.mk (blk_below BK_b2.out hb)
 have n2_:=Aside0.mk (blk_below BK_b3.out hb)
 have n3_:=Aside0.mk (blk_below BK_b6.out hb)
 have n4_:=Aside0.mk (blk_below BK_b8.out hb)
 have n5_:=Aside0.mk (blk_below BK_b9.out hb)
 have n6_:=Aside0.mk (blk_below BK_b10.out hb)
 have n7_:=Aside0.mk (Kd.S_below RW_w0.out hb)
 have n8_:=Aside0.mk (Kd.S_below RW_x0.out hb)
 have n9_:=Aside0.mk (Kd.S_below RW_x1.out hb)
 have n10_:=Aside0.mk (Kd.S_below RW_g0.out hb)
 clear HB BK_b2 BK_b3 BK_b6 BK_b8 BK_b9 BK_b10 RW_w0 RW_x0 RW_x1 RW_g0
 have HB:=n0_
 have BK_b2:=n1_
 have BK_b3:=n2_
 have BK_b6:=n3_
 have BK_b8:=n4_
 have BK_b9:=n5_
 have BK_b10:=n6_
 have RW_w0:=n7_
 have RW_x0:=n8_
 have RW_x1:=n9_
 have RW_g0:=n10_
 clear n0_ n1_ n2_ n3_ n4_ n5_ n6_ n7_ n8_ n9_ n10_
 clear hb
 refine start_ (n:=11) (S:=fun w' => w'.cell? ⟨g_b2,0,none⟩ = some (.slice A_B bl.length c_B) ∧ w'.cell? ⟨g_b3,0,none⟩ = some (.int .i64 t.f0) ∧ w'.cell? ⟨g_b3,1,none⟩ = some (.string t.f1) ∧ w'.cell? ⟨g_b3,2,none⟩ = some (.int .i64 t.f2) ∧ w'.cell? ⟨g_b3,3,none⟩ = some (.slice A_T t.f3.length c_T)) (ds:=[9]) #[false,false,false,false,false,false,false,false,false,false,false] (by kernel_rfl) rfl rfl ⟨(blk_cell BK_b2.out 0).trans rfl,(blk_cell BK_b3.out 0).trans rfl,(blk_cell BK_b3.out 1).trans rfl,(blk_cell BK_b3.out 2).trans rfl,(blk_cell BK_b3.out 3).trans rfl⟩ (fun hHeld => ?_);refine with_tabW lw12_31_tab lw12_31_bits (fun HT_ HW_ => ?_)
 generalize w48.drew = w49 at HB BK_b2 BK_b3 BK_b6 BK_b8 BK_b9 BK_b10 RW_w0 RW_x0 RW_x1 RW_g0 CH48 hHeld ⊢
 refine take_ (i:=0) (N:=some 95) (v:=?_) (a':=?_) #[true,false,false,false,false,false,false,false,false,false,false] rfl rfl (take_ofW HT_.out HW_.out (by kernel_rfl)) (fun _ _ _ h => h) (Or.inl ⟨by rfl,?_⟩) hHeld ?_ ?_
 rotate_left
 ·rintro w' ⟨s0,s1,s2,s3,s4⟩
  go_simp
  with_reducible rfl
 rotate_left
 ·simp only [Act.put,List.setIfInBounds_toArray,List.set_cons_zero,List.set_cons_succ,i64_w,i32_w]
  rfl
 refine take_ (i:=2) (N:=some 97) (v:=?_) (a':=?_) #[true,false,true,false,false,false,false,false,false,false,false] rfl rfl (take_ofW HT_.out HW_.out (by kernel_rfl)) (fun _ _ _ h => h) (Or.inl ⟨by rfl,?_⟩) hHeld ?_ ?_
 rotate_left
 ·rintro w' ⟨s0,s1,s2,s3,s4⟩
  go_simp
  with_reducible rfl
 rotate_left
 ·simp only [Act.put,List.setIfInBounds_toArray,List.set_cons_zero,List.set_cons_succ,i64_w,i32_w]
  rfl
 refine join_ (σ:=Option Addr × Nat × Option Addr × Nat × Option Addr × Nat × Nat) 2 #[true,true,true,true,true,true,true,true,true,false,false] (fun s => let ⟨A_e3,c_e3,A_f3,c_f3,A_k0,c_k0,g_b15⟩:=s;[(96,.agg #[.slice A_e3 xb.length c_e3]),(98,.agg #[.int .i64 t.f0,.string t.f1,.int .i64 t.f2,.slice A_f3 xt.length c_f3]),(99,.tuple #[.agg #[.int .i64 r0,.string r1,.int .i64 r2,.slice A_k0 xs.length c_k0],.bool b]),(94,.tuple #[.agg #[.int .i64 r0,.string r1,.int .i64 r2,.slice A_k0 xs.length c_k0],.bool b]),(100,.agg #[.int .i64 r0,.string r1,.int .i64 r2,.slice A_k0 xs.length c_k0]),(101,.bool b),(15,.pointer (some ⟨g_b15,0,none⟩))]) (fun s w' => let ⟨A_e3,c_e3,A_f3,c_f3,A_k0,c_k0,g_b15⟩:=s;Below w.heap.size w w' ∧ w'.heap[g_b2]? = some (.cells #[.slice A_B bl.length c_B] 49 (0,0)) ∧ w'.heap[g_b3]? = some (.cells #[.int .i64 t.f0,.string t.f1,.int .i64 t.f2,.slice A_T t.f3.length c_T] 24 (0,0)) ∧ w'.heap[g_b6]? = some (.cells #[.int .i64 r0,.string r1,.int .i64 r2,.slice A_w0 xs.length c_w0] 29 (0,0)) ∧ w'.heap[g_b8]? = some (.cells #[.slice A_x0 xb.length c_x0] 35 (0,0)) ∧ w'.heap[g_b9]? = some (.cells #[.int .i64 t.f0,.string t.f1,.int .i64 t.f2,.slice A_x1 xt.length c_x1] 29 (0,0)) ∧ w'.heap[g_b10]? = some (.cells #[.int .i64 r0,.string r1,.int .i64 r2,.slice A_g0 xs.length c_g0] 29 (0,0)) ∧ Kd.S kD29 29 w' w5.heap.size (fun k_ => (w5.heap.size ≤ k_ ∧ k_ < w28.heap.size) ∧ k_ ≠ g_b6) (.slice A_w0 xs.length c_w0) xs ∧ Kd.S kD29 29 w' w30.heap.size (fun k_ => w30.heap.size ≤ k_ ∧ k_ < w31.heap.size) (.slice A_x0 xb.length c_x0) yb ∧ Kd.S kD29 29 w' w32.heap.size (fun k_ => w32.heap.size ≤ k_ ∧ k_ < w33.heap.size) (.slice A_x1 xt.length c_x1) yt ∧ Kd.S kD29 29 w' w34.heap.size (fun k_ => w34.heap.size ≤ k_ ∧ k_ < w35.heap.size) (.slice A_g0 xs.length c_g0) ys ∧ Kd.S kD29 29 w' w49.heap.size (fun k_ => (w49.heap.size ≤ k_ ∧ k_ < w'.heap.size) ∧ k_ ≠ g_b15) (.slice A_k0 xs.length c_k0) xs ∧ w'.heap[g_b15]? = some (.cells #[.int .i64 0,.string (⟨#[]⟩ : ByteArray),.int .i64 0,.slice none 0 0] 29 (0,0)) ∧ w49.heap.size ≤ g_b15 ∧ g_b15 < w'.heap.size ∧ w49.heap.size ≤ w'.heap.size) ?_ ?_
 rotate_left
 ·intro hCont
  refine two_ (i:=1) (j:=8) (Ni:=some 96) (Nj:=some 15) #[true,true,true,false,false,false,false,false,false,false,false] #[true,false,true,false,false,false,false,false,true,false,false] rfl rfl rfl rfl (two_of HT_.out (by kernel_rfl)) (by decide) (by decide) (fun K hK => ?_) (fun K hK => ?_)
  ·skip
   refine goes_ Try.func40 (by kernel_rfl) rfl #[.agg #[.slice A_B bl.length c_B]] (by rfl) rfl rfl (by (try simp only [List.map_toArray,List.map_cons,List.map_nil]);first|done|rfl) ?_
   refine (c40 _ _ _ HL_B.out (Kd.C_below HC_B.out HB.out)).mono ?_
   rintro e w50 ⟨v_e3,rfl,ho_e3,hb⟩
   refine ⟨_,rfl,?_⟩
   have CH49:=Aside0.mk hb.size
   have HW_e3:=Aside0.mk HB.out.size
   have n0_:=Aside0.mk (below_step HB.out hb)
   have n1_:=Aside0.mk (blk_below BK_b2.out hb)
   have n2_:=Aside0.mk (blk_below BK_b3.out hb)
   have n3_:=Aside0.mk (blk_below BK_b6.out hb)
   have n4_:=Aside0.mk (blk_below BK_b8.out hb)
   have n5_:=Aside0.mk (blk_below BK_b9.out hb)
   have n6_:=Aside0.mk (blk_below BK_b10.out hb)
   have n7_:=Aside0.mk (Kd.S_below RW_w0.out hb)
   have n8_:=Aside0.mk (Kd.S_below RW_x0.out hb)
   have n9_:=Aside0.mk (Kd.S_below RW_x1.out hb)
   have n10_:=Aside0.mk (Kd.S_below RW_g0.out hb)
   clear HB BK_b2 BK_b3 BK_b6 BK_b8 BK_b9 BK_b10 RW_w0 RW_x0 RW_x1 RW_g0
   have HB:=n0_
   have BK_b2:=n1_
   have BK_b3:=n2_
   have BK_b6:=n3_
   have BK_b8:=n4_
   have BK_b9:=n5_
   have BK_b10:=n6_
   have RW_w0:=n7_
   have RW_x0:=n8_
   have RW_x1:=n9_
   have RW_g0:=n10_
   clear n0_ n1_ n2_ n3_ n4_ n5_ n6_ n7_ n8_ n9_ n10_
   obtain ⟨A_e3,c_e3,rfl⟩:=Kd.S_slice ho_e3
   have RW_e3:=Aside0.mk (Kd.S_mono (ok':=fun k_ => w49.heap.size ≤ k_ ∧ k_ < w50.heap.size) (Kd.S_bound ho_e3) (fun k_ hk_ => ⟨hk_.2.1,hk_.2.2.1⟩))
   clear hb ho_e3
   refine hK.out _ _ ⟨(blk_cell BK_b2.out 0).trans rfl,(blk_cell BK_b3.out 0).trans rfl,(blk_cell BK_b3.out 1).trans rfl,(blk_cell BK_b3.out 2).trans rfl,(blk_cell BK_b3.out 3).trans rfl⟩ (fun hHeld => ?_)
   clear hK K
   refine norm_ (a':=?_) ?_ ?_
   rotate_left
   ·show Act.put _ (some 96) _ = _
    simp only [Act.put,List.setIfInBounds_toArray,List.set_cons_zero,List.set_cons_succ,i64_w,i32_w]
    rfl
   refine two_ (i:=3) (j:=8) (Ni:=some 98) (Nj:=some 15) #[true,true,true,true,false,false,false,false,false,false,false] #[true,true,true,false,false,false,false,false,true,false,false] rfl rfl rfl rfl (two_of HT_.out (by kernel_rfl)) (by decide) (by decide) (fun K hK => ?_) (fun K hK => ?_)
   ·skip
    refine goes_ Try.func17 (by kernel_rfl) rfl #[.agg #[.int .i64 t.f0,.string t.f1,.int .i64 t.f2,.slice A_T t.f3.length c_T]] (by rfl) rfl rfl (by (try simp only [List.map_toArray,List.map_cons,List.map_nil]);first|done|rfl) ?_
    refine (c17 _ _ _ HL_T.out (Kd.C_below HC_T.out HB.out)).mono ?_
    rintro e w51 ⟨v_f3,rfl,ho_f3,hb⟩
    refine ⟨_,rfl,?_⟩
    have CH50:=Aside0.mk hb.size
    have HW_f3:=Aside0.mk HB.out.size
    have n0_:=Aside0.mk (below_step HB.out hb)
    have n1_:=Aside0.mk (blk_below BK_b2.out hb)
    have n2_:=Aside0.mk (blk_below BK_b3.out hb)
    have n3_:=Aside0.mk (blk_below BK_b6.out hb)
    have n4_:=Aside0.mk (blk_below BK_b8.out hb)
    have n5_:=Aside0.mk (blk_below BK_b9.out hb)
    have n6_:=Aside0.mk (blk_below BK_b10.out hb)
    have n7_:=Aside0.mk (Kd.S_below RW_w0.out hb)
    have n8_:=Aside0.mk (Kd.S_below RW_x0.out hb)
    have n9_:=Aside0.mk (Kd.S_below RW_x1.out hb)
    have n10_:=Aside0.mk (Kd.S_below RW_g0.out hb)
    have n11_:=Aside0.mk (Kd.S_below RW_e3.out hb)
    clear HB BK_b2 BK_b3 BK_b6 BK_b8 BK_b9 BK_b10 RW_w0 RW_x0 RW_x1 RW_g0 RW_e3
    have HB:=n0_
    have BK_b2:=n1_
    have BK_b3:=n2_
    have BK_b6:=n3_
    have BK_b8:=n4_
    have BK_b9:=n5_
    have BK_b10:=n6_
    have RW_w0:=n7_
    have RW_x0:=n8_
    have RW_x1:=n9_
    have RW_g0:=n10_
    have RW_e3:=n11_
    clear n0_ n1_ n2_ n3_ n4_ n5_ n6_ n7_ n8_ n9_ n10_ n11_
    obtain ⟨A_f3,c_f3,rfl⟩:=Kd.S_slice ho_f3
    have RW_f3:=Aside0.mk (Kd.S_mono (ok':=fun k_ => w50.heap.size ≤ k_ ∧ k_ < w51.heap.size) (Kd.S_bound ho_f3) (fun k_ hk_ => ⟨hk_.2.1,hk_.2.2.1⟩))
    clear hb ho_f3
    refine hK.out _ _ ⟨(blk_cell BK_b2.out 0).trans rfl,(blk_cell BK_b3.out 0).trans rfl,(blk_cell BK_b3.out 1).trans rfl,(blk_cell BK_b3.out 2).trans rfl,(blk_cell BK_b3.out 3).trans rfl⟩ (fun hHeld => ?_)
    clear hK K
    refine norm_ (a':=?_) ?_ ?_
    rotate_left
    ·show Act.put _ (some 98) _ = _
     simp only [Act.put,List.setIfInBounds_toArray,List.set_cons_zero,List.set_cons_succ,i64_w,i32_w]
     rfl
    refine two_ (i:=4) (j:=8) (Ni:=some 99) (Nj:=some 15) #[true,true,true,true,true,false,false,false,false,false,false] #[true,true,true,true,false,false,false,false,true,false,false] rfl rfl rfl rfl (two_of HT_.out (by kernel_rfl)) (by decide) (by decide) (fun K hK => ?_) (fun K hK => ?_)
    ·skip
     refine goes_ Try.func51 (by kernel_rfl) rfl #[.agg #[.slice A_e3 xb.length c_e3],.agg #[.int .i64 t.f0,.string t.f1,.int .i64 t.f2,.slice A_f3 xt.length c_f3]] (by rfl) rfl rfl (by (try simp only [List.map_toArray,List.map_cons,List.map_nil]);first|done|rfl) ?_
     refine (c51 _ (fun k_ => w49.heap.size ≤ k_) _ _ _ _ (fun k_ hk_ => by have:=CH0.out;have:=CH1.out;have:=CH2.out;have:=CH3.out;have:=CH4.out;have:=CH28.out;have:=CH29.out;have:=CH30.out;have:=CH31.out;have:=CH32.out;have:=CH33.out;have:=CH34.out;have:=CH35.out;have:=CH36.out;have:=CH37.out;have:=CH38.out;have:=CH39.out;have:=CH40.out;have:=CH41.out;have:=CH42.out;have:=CH43.out;have:=CH44.out;have:=CH45.out;have:=CH46.out;have:=CH47.out;have:=CH48.out;have:=CH49.out;have:=CH50.out;omega) (Kd.V_mono (Kd.R_V (base':=0) (S_k29 RW_e3.out)) (fun k_ hk_ => by have:=CH0.out;have:=CH1.out;have:=CH2.out;have:=CH3.out;have:=CH4.out;have:=CH28.out;have:=CH29.out;have:=CH30.out;have:=CH31.out;have:=CH32.out;have:=CH33.out;have:=CH34.out;have:=CH35.out;have:=CH36.out;have:=CH37.out;have:=CH38.out;have:=CH39.out;have:=CH40.out;have:=CH41.out;have:=CH42.out;have:=CH43.out;have:=CH44.out;have:=CH45.out;have:=CH46.out;have:=CH47.out;have:=CH48.out;have:=CH49.out;have:=CH50.out;omega)) (Kd.V_mono (Kd.R_V (base':=0) (S_k29 RW_f3.out)) (fun k_ hk_ => by have:=CH0.out;have:=CH1.out;have:=CH2.out;have:=CH3.out;have:=CH4.out;have:=CH28.out;have:=CH29.out;have:=CH30.out;have:=CH31.out;have:=CH32.out;have:=CH33.out;have:=CH34.out;have:=CH35.out;have:=CH36.out;have:=CH37.out;have:=CH38.out;have:=CH39.out;have:=CH40.out;have:=CH41.out;have:=CH42.out;have:=CH43.out;have:=CH44.out;have:=CH45.out;have:=CH46.out;have:=CH47.out;have:=CH48.out;have:=CH49.out;have:=CH50.out;omega))).mono ?_
     rintro e w52 ⟨v_k0,rfl,ho_k0,hb⟩
     refine ⟨_,rfl,?_⟩
     have CH51:=Aside0.mk hb.size
     have HW_k0:=Aside0.mk HB.out.size
     have n0_:=Aside0.mk (below_step HB.out hb)
     have n1_:=Aside0.mk (blk_below BK_b2.out hb)
     have n2_:=Aside0.mk (blk_below BK_b3.out hb)
     have n3_:=Aside0.mk (blk_below BK_b6.out hb)
     have n4_:=Aside0.mk (blk_below BK_b8.out hb)
     have n5_:=Aside0.mk (blk_below BK_b9.out hb)
     have n6_:=Aside0.mk (blk_below BK_b10.out hb)
     have n7_:=Aside0.mk (Kd.S_below RW_w0.out hb)
     have n8_:=Aside0.mk (Kd.S_below RW_x0.out hb)
     have n9_:=Aside0.mk (Kd.S_below RW_x1.out hb)
     have n10_:=Aside0.mk (Kd.S_below RW_g0.out hb)
     have n11_:=Aside0.mk (Kd.S_below RW_e3.out hb)
     have n12_:=Aside0.mk (Kd.S_below RW_f3.out hb)
     clear HB BK_b2 BK_b3 BK_b6 BK_b8 BK_b9 BK_b10 RW_w0 RW_x0 RW_x1 RW_g0 RW_e3 RW_f3
     have HB:=n0_
     have BK_b2:=n1_
     have BK_b3:=n2_
     have BK_b6:=n3_
     have BK_b8:=n4_
     have BK_b9:=n5_
     have BK_b10:=n6_
     have RW_w0:=n7_
     have RW_x0:=n8_
     have RW_x1:=n9_
     have RW_g0:=n10_
     have RW_e3:=n11_
     have RW_f3:=n12_
     clear n0_ n1_ n2_ n3_ n4_ n5_ n6_ n7_ n8_ n9_ n10_ n11_ n12_
     obtain ⟨A_k0,c_k0,rfl⟩:=Kd.S_slice ho_k0
     have RW_k0:=Aside0.mk (Kd.S_mono (ok':=fun k_ => w51.heap.size ≤ k_ ∧ k_ < w52.heap.size) (Kd.S_bound ho_k0) (fun k_ hk_ => ⟨hk_.2.1,hk_.2.2.1⟩))
     clear hb ho_k0
     clear RW_e3
     clear RW_f3
     refine hK.out _ _ ⟨(blk_cell BK_b2.out 0).trans rfl,(blk_cell BK_b3.out 0).trans rfl,(blk_cell BK_b3.out 1).trans rfl,(blk_cell BK_b3.out 2).trans rfl,(blk_cell BK_b3.out 3).trans rfl⟩ (fun hHeld => ?_)
     clear hK K
     refine norm_ (a':=?_) ?_ ?_
     rotate_left
     ·show Act.put _ (some 99) _ = _
      simp only [Act.put,List.setIfInBounds_toArray,List.set_cons_zero,List.set_cons_succ,i64_w,i32_w]
      rfl
     refine pure_ (i:=5) (N:=some 94) (v:=?_) (a':=?_) #[true,true,true,true,true,true,false,false,false,false,false] rfl rfl (any_of HT_.out (by kernel_rfl)) (fun _ _ _ h => h) (Or.inl ⟨by rfl,?_⟩) ?_ ?_
     rotate_left
     ·intro w'
      go_simp
      with_reducible rfl
     rotate_left
     ·simp only [Act.put,List.setIfInBounds_toArray,List.set_cons_zero,List.set_cons_succ,i64_w,i32_w]
      rfl
     refine pure_ (i:=6) (N:=some 100) (v:=?_) (a':=?_) #[true,true,true,true,true,true,true,false,false,false,false] rfl rfl (any_of HT_.out (by kernel_rfl)) (fun _ _ _ h => h) (Or.inl ⟨by rfl,?_⟩) ?_ ?_
     rotate_left
     ·intro w'
      go_simp
      with_reducible rfl
     rotate_left
     ·simp only [Act.put,List.setIfInBounds_toArray,List.set_cons_zero,List.set_cons_succ,i64_w,i32_w]
      rfl
     refine pure_ (i:=7) (N:=some 101) (v:=?_) (a':=?_) #[true,true,true,true,true,true,true,true,false,false,false] rfl rfl (any_of HT_.out (by kernel_rfl)) (fun _ _ _ h => h) (Or.inl ⟨by rfl,?_⟩) ?_ ?_
     rotate_left
     ·intro w'
      go_simp
      with_reducible rfl
     rotate_left
     ·simp only [Act.put,List.setIfInBounds_toArray,List.set_cons_zero,List.set_cons_succ,i64_w,i32_w]
      rfl
     refine one_ (i:=8) (N:=some 15) #[true,true,true,true,true,true,true,true,true,false,false] rfl rfl (one_of HT_.out (by kernel_rfl)) (by decide) (fun K hK => ?_)
     refine box_step (by rfl) (N:=15) rfl (cs:=#[.int .i64 0,.string (⟨#[]⟩ : ByteArray),.int .i64 0,.slice none 0 0]) (t:=29) ?hra ?_
     (case hra => first|(go_simp;done)|(go_simp;rfl))
     intro g_b15 hg w53 hbox hb
     have BZ:=Aside0.mk hbox
     have HGA:=Aside0.mk (show w49.heap.size ≤ g_b15 by have:=CH0.out;have:=CH1.out;have:=CH2.out;have:=CH3.out;have:=CH4.out;have:=CH28.out;have:=CH29.out;have:=CH30.out;have:=CH31.out;have:=CH32.out;have:=CH33.out;have:=CH34.out;have:=CH35.out;have:=CH36.out;have:=CH37.out;have:=CH38.out;have:=CH39.out;have:=CH40.out;have:=CH41.out;have:=CH42.out;have:=CH43.out;have:=CH44.out;have:=CH45.out;have:=CH46.out;have:=CH47.out;have:=CH48.out;have:=CH49.out;have:=CH50.out;have:=CH51.out;omega)
     have HGC:=Aside0.mk hg
     have HGD:=Aside0.mk (blk_lt hbox)
     have HGB:=Aside0.mk (blk_lt hbox)
     have CH52:=Aside0.mk hb.size
     have n0_:=Aside0.mk (below_step HB.out hb)
     have n1_:=Aside0.mk (blk_below BK_b2.out hb)
     have n2_:=Aside0.mk (blk_below BK_b3.out hb)
     have n3_:=Aside0.mk (blk_below BK_b6.out hb)
     have n4_:=Aside0.mk (blk_below BK_b8.out hb)
     have n5_:=Aside0.mk (blk_below BK_b9.out hb)
     have n6_:=Aside0.mk (blk_below BK_b10.out hb)
     have n7_:=Aside0.mk (Kd.S_below RW_w0.out hb)
     have n8_:=Aside0.mk (Kd.S_below RW_x0.out hb)
     have n9_:=Aside0.mk (Kd.S_below RW_x1.out hb)
     have n10_:=Aside0.mk (Kd.S_below RW_g0.out hb)
     have n11_:=Aside0.mk (Kd.S_below RW_k0.out hb)
     clear HB BK_b2 BK_b3 BK_b6 BK_b8 BK_b9 BK_b10 RW_w0 RW_x0 RW_x1 RW_g0 RW_k0
     have HB:=n0_
     have BK_b2:=n1_
     have BK_b3:=n2_
     have BK_b6:=n3_
     have BK_b8:=n4_
     have BK_b9:=n5_
     have BK_b10:=n6_
     have RW_w0:=n7_
     have RW_x0:=n8_
     have RW_x1:=n9_
     have RW_g0:=n10_
     have RW_k0:=n11_
     clear n0_ n1_ n2_ n3_ n4_ n5_ n6_ n7_ n8_ n9_ n10_ n11_
     clear hg hbox hb
     refine hK.out _ _ ⟨(blk_cell BK_b2.out 0).trans rfl,(blk_cell BK_b3.out 0).trans rfl,(blk_cell BK_b3.out 1).trans rfl,(blk_cell BK_b3.out 2).trans rfl,(blk_cell BK_b3.out 3).trans rfl⟩ (fun hHeld => ?_)
     clear hK K
     refine norm_ (a':=?_) ?_ ?_
     rotate_left
     ·show Act.put _ (some 15) _ = _
      simp only [Act.put,List.setIfInBounds_toArray,List.set_cons_zero,List.set_cons_succ,i64_w,i32_w]
      rfl
     exact norm_ (by simp only [putAll,Act.put,List.setIfInBounds_toArray,List.set_cons_zero,List.set_cons_succ]) (hCont (A_e3,c_e3,A_f3,c_f3,A_k0,c_k0,g_b15) _ ⟨HB.out,BK_b2.out,BK_b3.out,BK_b6.out,BK_b8.out,BK_b9.out,BK_b10.out,RW_w0.out,RW_x0.out,RW_x1.out,RW_g0.out,(by have h_:=RW_k0.out;exact Kd.S_mono (Kd.S_lower h_ (by have:=CH0.out;have:=CH1.out;have:=CH2.out;have:=CH3.out;have:=CH4.out;have:=CH28.out;have:=CH29.out;have:=CH30.out;have:=CH31.out;have:=CH32.out;have:=CH33.out;have:=CH34.out;have:=CH35.out;have:=CH36.out;have:=CH37.out;have:=CH38.out;have:=CH39.out;have:=CH40.out;have:=CH41.out;have:=CH42.out;have:=CH43.out;have:=CH44.out;have:=CH45.out;have:=CH46.out;have:=CH47.out;have:=CH48.out;have:=CH49.out;have:=CH50.out;have:=CH51.out;have:=CH52.out;omega)) (fun k_ hk_ => ⟨⟨by have:=CH0.out;have:=CH1.out;have:=CH2.out;have:=CH3.out;have:=CH4.out;have:=CH28.out;have:=CH29.out;have:=CH30.out;have:=CH31.out;have:=CH32.out;have:=CH33.out;have:=CH34.out;have:=CH35.out;have:=CH36.out;have:=CH37.out;have:=CH38.out;have:=CH39.out;have:=CH40.out;have:=CH41.out;have:=CH42.out;have:=CH43.out;have:=CH44.out;have:=CH45.out;have:=CH46.out;have:=CH47.out;have:=CH48.out;have:=CH49.out;have:=CH50.out;have:=CH51.out;have:=CH52.out;omega,by have:=CH0.out;have:=CH1.out;have:=CH2.out;have:=CH3.out;have:=CH4.out;have:=CH28.out;have:=CH29.out;have:=CH30.out;have:=CH31.out;have:=CH32.out;have:=CH33.out;have:=CH34.out;have:=CH35.out;have:=CH36.out;have:=CH37.out;have:=CH38.out;have:=CH39.out;have:=CH40.out;have:=CH41.out;have:=CH42.out;have:=CH43.out;have:=CH44.out;have:=CH45.out;have:=CH46.out;have:=CH47.out;have:=CH48.out;have:=CH49.out;have:=CH50.out;have:=CH51.out;have:=CH52.out;omega⟩,by have:=HGC.out;have:=HGA.out;have:=HGD.out;have:=CH0.out;have:=CH1.out;have:=CH2.out;have:=CH3.out;have:=CH4.out;have:=CH28.out;have:=CH29.out;have:=CH30.out;have:=CH31.out;have:=CH32.out;have:=CH33.out;have:=CH34.out;have:=CH35.out;have:=CH36.out;have:=CH37.out;have:=CH38.out;have:=CH39.out;have:=CH40.out;have:=CH41.out;have:=CH42.out;have:=CH43.out;have:=CH44.out;have:=CH45.out;have:=CH46.out;have:=CH47.out;have:=CH48.out;have:=CH49.out;have:=CH50.out;have:=CH51.out;have:=CH52.out;omega⟩)),BZ.out,HGA.out,HGB.out,(by have:=CH0.out;have:=CH1.out;have:=CH2.out;have:=CH3.out;have:=CH4.out;have:=CH28.out;have:=CH29.out;have:=CH30.out;have:=CH31.out;have:=CH32.out;have:=CH33.out;have:=CH34.out;have:=CH35.out;have:=CH36.out;have:=CH37.out;have:=CH38.out;have:=CH39.out;have:=CH40.out;have:=CH41.out;have:=CH42.out;have:=CH43.out;have:=CH44.out;have:=CH45.out;have:=CH46.out;have:=CH47.out;have:=CH48.out;have:=CH49.out;have:=CH50.out;have:=CH51.out;have:=CH52.out;omega)⟩)
    ·skip
     refine box_step (by rfl) (N:=15) rfl (cs:=#[.int .i64 0,.string (⟨#[]⟩ : ByteArray),.int .i64 0,.slice none 0 0]) (t:=29) ?hra ?_
     (case hra => first|(go_simp;done)|(go_simp;rfl))
     intro g_b15 hg w52 hbox hb
     have BZ:=Aside0.mk hbox
     have HGA:=Aside0.mk (show w49.heap.size ≤ g_b15 by have:=CH0.out;have:=CH1.out;have:=CH2.out;have:=CH3.out;have:=CH4.out;have:=CH28.out;have:=CH29.out;have:=CH30.out;have:=CH31.out;have:=CH32.out;have:=CH33.out;have:=CH34.out;have:=CH35.out;have:=CH36.out;have:=CH37.out;have:=CH38.out;have:=CH39.out;have:=CH40.out;have:=CH41.out;have:=CH42.out;have:=CH43.out;have:=CH44.out;have:=CH45.out;have:=CH46.out;have:=CH47.out;have:=CH48.out;have:=CH49.out;have:=CH50.out;omega)
     have HGC:=Aside0.mk hg
     have HGD:=Aside0.mk (blk_lt hbox)
     have HGB:=Aside0.mk (blk_lt hbox)
     have CH51:=Aside0.mk hb.size
     have n0_:=Aside0.mk (below_step HB.out hb)
     have n1_:=Aside0.mk (blk_below BK_b2.out hb)
     have n2_:=Aside0.mk (blk_below BK_b3.out hb)
     have n3_:=Aside0.mk (blk_below BK_b6.out hb)
     have n4_:=Aside0.mk (blk_below BK_b8.out hb)
     have n5_:=Aside0.mk (blk_below BK_b9.out hb)
     have n6_:=Aside0.mk (blk_below BK_b10.out hb)
     have n7_:=Aside0.mk (Kd.S_below RW_w0.out hb)
     have n8_:=Aside0.mk (Kd.S_below RW_x0.out hb)
     have n9_:=Aside0.mk (Kd.S_below RW_x1.out hb)
     have n10_:=Aside0.mk (Kd.S_below RW_g0.out hb)
     have n11_:=Aside0.mk (Kd.S_below RW_e3.out hb)
     have n12_:=Aside0.mk (Kd.S_below RW_f3.out hb)
     clear HB BK_b2 BK_b3 BK_b6 BK_b8 BK_b9 BK_b10 RW_w0 RW_x0 RW_x1 RW_g0 RW_e3 RW_f3
     have HB:=n0_
     have BK_b2:=n1_
     have BK_b3:=n2_
     have BK_b6:=n3_
     have BK_b8:=n4_
     have BK_b9:=n5_
     have BK_b10:=n6_
     have RW_w0:=n7_
     have RW_x0:=n8_
     have RW_x1:=n9_
     have RW_g0:=n10_
     have RW_e3:=n11_
     have RW_f3:=n12_
     clear n0_ n1_ n2_ n3_ n4_ n5_ n6_ n7_ n8_ n9_ n10_ n11_ n12_
     clear hg hbox hb
     refine hK.out _ _ ⟨(blk_cell BK_b2.out 0).trans rfl,(blk_cell BK_b3.out 0).trans rfl,(blk_cell BK_b3.out 1).trans rfl,(blk_cell BK_b3.out 2).trans rfl,(blk_cell BK_b3.out 3).trans rfl⟩ (fun hHeld => ?_)
     clear hK K
     refine norm_ (a':=?_) ?_ ?_
     rotate_left
     ·show Act.put _ (some 15) _ = _
      simp only [Act.put,List.setIfInBounds_toArray,List.set_cons_zero,List.set_cons_succ,i64_w,i32_w]
      rfl
     refine one_ (i:=4) (N:=some 99) #[true,true,true,true,true,false,false,false,true,false,false] rfl rfl (one_of HT_.out (by kernel_rfl)) (by decide) (fun K hK => ?_)
     refine goes_ Try.func51 (by kernel_rfl) rfl #[.agg #[.slice A_e3 xb.length c_e3],.agg #[.int .i64 t.f0,.string t.f1,.int .i64 t.f2,.slice A_f3 xt.length c_f3]] (by rfl) rfl rfl (by (try simp only [List.map_toArray,List.map_cons,List.map_nil]);first|done|rfl) ?_
     refine (c51 _ (fun k_ => w49.heap.size ≤ k_ ∧ k_ ≠ g_b15) _ _ _ _ (fun k_ hk_ => by have:=HGA.out;have:=HGC.out;have:=HGD.out;have:=CH0.out;have:=CH1.out;have:=CH2.out;have:=CH3.out;have:=CH4.out;have:=CH28.out;have:=CH29.out;have:=CH30.out;have:=CH31.out;have:=CH32.out;have:=CH33.out;have:=CH34.out;have:=CH35.out;have:=CH36.out;have:=CH37.out;have:=CH38.out;have:=CH39.out;have:=CH40.out;have:=CH41.out;have:=CH42.out;have:=CH43.out;have:=CH44.out;have:=CH45.out;have:=CH46.out;have:=CH47.out;have:=CH48.out;have:=CH49.out;have:=CH50.out;have:=CH51.out;omega) (Kd.V_mono (Kd.R_V (base':=0) (S_k29 RW_e3.out)) (fun k_ hk_ => by have:=HGA.out;have:=HGC.out;have:=HGD.out;have:=CH0.out;have:=CH1.out;have:=CH2.out;have:=CH3.out;have:=CH4.out;have:=CH28.out;have:=CH29.out;have:=CH30.out;have:=CH31.out;have:=CH32.out;have:=CH33.out;have:=CH34.out;have:=CH35.out;have:=CH36.out;have:=CH37.out;have:=CH38.out;have:=CH39.out;have:=CH40.out;have:=CH41.out;have:=CH42.out;have:=CH43.out;have:=CH44.out;have:=CH45.out;have:=CH46.out;have:=CH47.out;have:=CH48.out;have:=CH49.out;have:=CH50.out;have:=CH51.out;omega)) (Kd.V_mono (Kd.R_V (base':=0) (S_k29 RW_f3.out)) (fun k_ hk_ => by have:=HGA.out;have:=HGC.out;have:=HGD.out;have:=CH0.out;have:=CH1.out;have:=CH2.out;have:=CH3.out;have:=CH4.out;have:=CH28.out;have:=CH29.out;have:=CH30.out;have:=CH31.out;have:=CH32.out;have:=CH33.out;have:=CH34.out;have:=CH35.out;have:=CH36.out;have:=CH37.out;have:=CH38.out;have:=CH39.out;have:=CH40.out;have:=CH41.out;have:=CH42.out;have:=CH43.out;have:=CH44.out;have:=CH45.out;have:=CH46.out;have:=CH47.out;have:=CH48.out;have:=CH49.out;have:=CH50.out;have:=CH51.out;omega))).mono ?_
     rintro e w53 ⟨v_k0,rfl,ho_k0,hb⟩
     refine ⟨_,rfl,?_⟩
     have QZ:=Aside0.mk (blk_below BZ.out hb)
     have QB:=Aside0.mk (Nat.lt_of_lt_of_le HGB.out hb.size)
     clear BZ HGB
     have BZ:=QZ
     have HGB:=QB
     clear QZ QB
     have CH52:=Aside0.mk hb.size
     have HW_k0:=Aside0.mk HB.out.size
     have n0_:=Aside0.mk (below_step HB.out hb)
     have n1_:=Aside0.mk (blk_below BK_b2.out hb)
     have n2_:=Aside0.mk (blk_below BK_b3.out hb)
     have n3_:=Aside0.mk (blk_below BK_b6.out hb)
     have n4_:=Aside0.mk (blk_below BK_b8.out hb)
     have n5_:=Aside0.mk (blk_below BK_b9.out hb)
     have n6_:=Aside0.mk (blk_below BK_b10.out hb)
     have n7_:=Aside0.mk (Kd.S_below RW_w0.out hb)
     have n8_:=Aside0.mk (Kd.S_below RW_x0.out hb)
     have n9_:=Aside0.mk (Kd.S_below RW_x1.out hb)
     have n10_:=Aside0.mk (Kd.S_below RW_g0.out hb)
     have n11_:=Aside0.mk (Kd.S_below RW_e3.out hb)
     have n12_:=Aside0.mk (Kd.S_below RW_f3.out hb)
     clear HB BK_b2 BK_b3 BK_b6 BK_b8 BK_b9 BK_b10 RW_w0 RW_x0 RW_x1 RW_g0 RW_e3 RW_f3
     have HB:=n0_
     have BK_b2:=n1_
     have BK_b3:=n2_
     have BK_b6:=n3_
     have BK_b8:=n4_
     have BK_b9:=n5_
     have BK_b10:=n6_
     have RW_w0:=n7_
     have RW_x0:=n8_
     have RW_x1:=n9_
     have RW_g0:=n10_
     have RW_e3:=n11_
     have RW_f3:=n12_
     clear n0_ n1_ n2_ n3_ n4_ n5_ n6_ n7_ n8_ n9_ n10_ n11_ n12_
     obtain ⟨A_k0,c_k0,rfl⟩:=Kd.S_slice ho_k0
     have RW_k0:=Aside0.mk (Kd.S_mono (ok':=fun k_ => w52.heap.size ≤ k_ ∧ k_ < w53.heap.size) (Kd.S_bound ho_k0) (fun k_ hk_ => ⟨hk_.2.1,hk_.2.2.1⟩))
     clear hb ho_k0
     clear RW_e3
     clear RW_f3
     refine hK.out _ _ ⟨(blk_cell BK_b2.out 0).trans rfl,(blk_cell BK_b3.out 0).trans rfl,(blk_cell BK_b3.out 1).trans rfl,(blk_cell BK_b3.out 2).trans rfl,(blk_cell BK_b3.out 3).trans rfl⟩ (fun hHeld => ?_)
     clear hK K
     refine norm_ (a':=?_) ?_ ?_
     rotate_left
     ·show Act.put _ (some 99) _ = _
      simp only [Act.put,List.setIfInBounds_toArray,List.set_cons_zero,List.set_cons_succ,i64_w,i32_w]
      rfl
     refine pure_ (i:=5) (N:=some 94) (v:=?_) (a':=?_) #[true,true,true,true,true,true,false,false,true,false,false] rfl rfl (any_of HT_.out (by kernel_rfl)) (fun _ _ _ h => h) (Or.inl ⟨by rfl,?_⟩) ?_ ?_
     rotate_left
     ·intro w'
      go_simp
      with_reducible rfl
     rotate_left
     ·simp only [Act.put,List.setIfInBounds_toArray,List.set_cons_zero,List.set_cons_succ,i64_w,i32_w]
      rfl
     refine pure_ (i:=6) (N:=some 100) (v:=?_) (a':=?_) #[true,true,true,true,true,true,true,false,true,false,false] rfl rfl (any_of HT_.out (by kernel_rfl)) (fun _ _ _ h => h) (Or.inl ⟨by rfl,?_⟩) ?_ ?_
     rotate_left
     ·intro w'
      go_simp
      with_reducible rfl
     rotate_left
     ·simp only [Act.put,List.setIfInBounds_toArray,List.set_cons_zero,List.set_cons_succ,i64_w,i32_w]
      rfl
     refine pure_ (i:=7) (N:=some 101) (v:=?_) (a':=?_) #[true,true,true,true,true,true,true,true,true,false,false] rfl rfl (any_of HT_.out (by kernel_rfl)) (fun _ _ _ h => h) (Or.inl ⟨by rfl,?_⟩) ?_ ?_
     rotate_left
     ·intro w'
      go_simp
      with_reducible rfl
     rotate_left
     ·simp only [Act.put,List.setIfInBounds_toArray,List.set_cons_zero,List.set_cons_succ,i64_w,i32_w]
      rfl
     exact norm_ (by simp only [putAll,Act.put,List.setIfInBounds_toArray,List.set_cons_zero,List.set_cons_succ]) (hCont (A_e3,c_e3,A_f3,c_f3,A_k0,c_k0,g_b15) _ ⟨HB.out,BK_b2.out,BK_b3.out,BK_b6.out,BK_b8.out,BK_b9.out,BK_b10.out,RW_w0.out,RW_x0.out,RW_x1.out,RW_g0.out,(by have h_:=RW_k0.out;exact Kd.S_mono (Kd.S_lower h_ (by have:=CH0.out;have:=CH1.out;have:=CH2.out;have:=CH3.out;have:=CH4.out;have:=CH28.out;have:=CH29.out;have:=CH30.out;have:=CH31.out;have:=CH32.out;have:=CH33.out;have:=CH34.out;have:=CH35.out;have:=CH36.out;have:=CH37.out;have:=CH38.out;have:=CH39.out;have:=CH40.out;have:=CH41.out;have:=CH42.out;have:=CH43.out;have:=CH44.out;have:=CH45.out;have:=CH46.out;have:=CH47.out;have:=CH48.out;have:=CH49.out;have:=CH50.out;have:=CH51.out;have:=CH52.out;omega)) (fun k_ hk_ => ⟨⟨by have:=CH0.out;have:=CH1.out;have:=CH2.out;have:=CH3.out;have:=CH4.out;have:=CH28.out;have:=CH29.out;have:=CH30.out;have:=CH31.out;have:=CH32.out;have:=CH33.out;have:=CH34.out;have:=CH35.out;have:=CH36.out;have:=CH37.out;have:=CH38.out;have:=CH39.out;have:=CH40.out;have:=CH41.out;have:=CH42.out;have:=CH43.out;have:=CH44.out;have:=CH45.out;have:=CH46.out;have:=CH47.out;have:=CH48.out;have:=CH49.out;have:=CH50.out;have:=CH51.out;have:=CH52.out;omega,by have:=CH0.out;have:=CH1.out;have:=CH2.out;have:=CH3.out;have:=CH4.out;have:=CH28.out;have:=CH29.out;have:=CH30.out;have:=CH31.out;have:=CH32.out;have:=CH33.out;have:=CH34.out;have:=CH35.out;have:=CH36.out;have:=CH37.out;have:=CH38.out;have:=CH39.out;have:=CH40.out;have:=CH41.out;have:=CH42.out;have:=CH43.out;have:=CH44.out;have:=CH45.out;have:=CH46.out;have:=CH47.out;have:=CH48.out;have:=CH49.out;have:=CH50.out;have:=CH51.out;have:=CH52.out;omega⟩,by have:=HGC.out;have:=HGA.out;have:=HGD.out;have:=CH0.out;have:=CH1.out;have:=CH2.out;have:=CH3.out;have:=CH4.out;have:=CH28.out;have:=CH29.out;have:=CH30.out;have:=CH31.out;have:=CH32.out;have:=CH33.out;have:=CH34.out;have:=CH35.out;have:=CH36.out;have:=CH37.out;have:=CH38.out;have:=CH39.out;have:=CH40.out;have:=CH41.out;have:=CH42.out;have:=CH43.out;have:=CH44.out;have:=CH45.out;have:=CH46.out;have:=CH47.out;have:=CH48.out;have:=CH49.out;have:=CH50.out;have:=CH51.out;have:=CH52.out;omega⟩)),BZ.out,HGA.out,HGB.out,(by have:=CH0.out;have:=CH1.out;have:=CH2.out;have:=CH3.out;have:=CH4.out;have:=CH28.out;have:=CH29.out;have:=CH30.out;have:=CH31.out;have:=CH32.out;have:=CH33.out;have:=CH34.out;have:=CH35.out;have:=CH36.out;have:=CH37.out;have:=CH38.out;have:=CH39.out;have:=CH40.out;have:=CH41.out;have:=CH42.out;have:=CH43.out;have:=CH44.out;have:=CH45.out;have:=CH46.out;have:=CH47.out;have:=CH48.out;have:=CH49.out;have:=CH50.out;have:=CH51.out;have:=CH52.out;omega)⟩)
   ·skip
    refine box_step (by rfl) (N:=15) rfl (cs:=#[.int .i64 0,.string (⟨#[]⟩ : ByteArray),.int .i64 0,.slice none 0 0]) (t:=29) ?hra ?_
    (case hra => first|(go_simp;done)|(go_simp;rfl))
    intro g_b15 hg w51 hbox hb
    have BZ:=Aside0.mk hbox
    have HGA:=Aside0.mk (show w49.heap.size ≤ g_b15 by have:=CH0.out;have:=CH1.out;have:=CH2.out;have:=CH3.out;have:=CH4.out;have:=CH28.out;have:=CH29.out;have:=CH30.out;have:=CH31.out;have:=CH32.out;have:=CH33.out;have:=CH34.out;have:=CH35.out;have:=CH36.out;have:=CH37.out;have:=CH38.out;have:=CH39.out;have:=CH40.out;have:=CH41.out;have:=CH42.out;have:=CH43.out;have:=CH44.out;have:=CH45.out;have:=CH46.out;have:=CH47.out;have:=CH48.out;have:=CH49.out;omega)
    have HGC:=Aside0.mk hg
    have HGD:=Aside0.mk (blk_lt hbox)
    have HGB:=Aside0.mk (blk_lt hbox)
    have CH50:=Aside0.mk hb.size
    have n0_:=Aside0.mk (below_step HB.out hb)
    have n1_:=Aside0.mk (blk_below BK_b2.out hb)
    have n2_:=Aside0.mk (blk_below BK_b3.out hb)
    have n3_:=Aside0.mk (blk_below BK_b6.out hb)
    have n4_:=Aside0.mk (blk_below BK_b8.out hb)
    have n5_:=Aside0.mk (blk_below BK_b9.out hb)
    have n6_:=Aside0.mk (blk_below BK_b10.out hb)
    have n7_:=Aside0.mk (Kd.S_below RW_w0.out hb)
    have n8_:=Aside0.mk (Kd.S_below RW_x0.out hb)
    have n9_:=Aside0.mk (Kd.S_below RW_x1.out hb)
    have n10_:=Aside0.mk (Kd.S_below RW_g0.out hb)
    have n11_:=Aside0.mk (Kd.S_below RW_e3.out hb)
    clear HB BK_b2 BK_b3 BK_b6 BK_b8 BK_b9 BK_b10 RW_w0 RW_x0 RW_x1 RW_g0 RW_e3
    have HB:=n0_
    have BK_b2:=n1_
    have BK_b3:=n2_
    have BK_b6:=n3_
    have BK_b8:=n4_
    have BK_b9:=n5_
    have BK_b10:=n6_
    have RW_w0:=n7_
    have RW_x0:=n8_
    have RW_x1:=n9_
    have RW_g0:=n10_
    have RW_e3:=n11_
    clear n0_ n1_ n2_ n3_ n4_ n5_ n6_ n7_ n8_ n9_ n10_ n11_
    clear hg hbox hb
    refine hK.out _ _ ⟨(blk_cell BK_b2.out 0).trans rfl,(blk_cell BK_b3.out 0).trans rfl,(blk_cell BK_b3.out 1).trans rfl,(blk_cell BK_b3.out 2).trans rfl,(blk_cell BK_b3.out 3).trans rfl⟩ (fun hHeld => ?_)
    clear hK K
    refine norm_ (a':=?_) ?_ ?_
    rotate_left
    ·show Act.put _ (some 15) _ = _
     simp only [Act.put,List.setIfInBounds_toArray,List.set_cons_zero,List.set_cons_succ,i64_w,i32_w]
     rfl
    refine one_ (i:=3) (N:=some 98) #[true,true,true,true,false,false,false,false,true,false,false] rfl rfl (one_of HT_.out (by kernel_rfl)) (by decide) (fun K hK => ?_)
    refine goes_ Try.func17 (by kernel_rfl) rfl #[.agg #[.int .i64 t.f0,.string t.f1,.int .i64 t.f2,.slice A_T t.f3.length c_T]] (by rfl) rfl rfl (by (try simp only [List.map_toArray,List.map_cons,List.map_nil]);first|done|rfl) ?_
    refine (c17 _ _ _ HL_T.out (Kd.C_below HC_T.out HB.out)).mono ?_
    rintro e w52 ⟨v_f3,rfl,ho_f3,hb⟩
    refine ⟨_,rfl,?_⟩
    have QZ:=Aside0.mk (blk_below BZ.out hb)
    have QB:=Aside0.mk (Nat.lt_of_lt_of_le HGB.out hb.size)
    clear BZ HGB
    have BZ:=QZ
    have HGB:=QB
    clear QZ QB
    have CH51:=Aside0.mk hb.size
    have HW_f3:=Aside0.mk HB.out.size
    have n0_:=Aside0.mk (below_step HB.out hb)
    have n1_:=Aside0.mk (blk_below BK_b2.out hb)
    have n2_:=Aside0.mk (blk_below BK_b3.out hb)
    have n3_:=Aside0.mk (blk_below BK_b6.out hb)
    have n4_:=Aside0.mk (blk_below BK_b8.out hb)
    have n5_:=Aside0.mk (blk_below BK_b9.out hb)
    have n6_:=Aside0.mk (blk_below BK_b10.out hb)
    have n7_:=Aside0.mk (Kd.S_below RW_w0.out hb)
    have n8_:=Aside0.mk (Kd.S_below RW_x0.out hb)
    have n9_:=Aside0.mk (Kd.S_below RW_x1.out hb)
    have n10_:=Aside0.mk (Kd.S_below RW_g0.out hb)
    have n11_:=Aside0.mk (Kd.S_below RW_e3.out hb)
    clear HB BK_b2 BK_b3 BK_b6 BK_b8 BK_b9 BK_b10 RW_w0 RW_x0 RW_x1 RW_g0 RW_e3
    have HB:=n0_
    have BK_b2:=n1_
    have BK_b3:=n2_
    have BK_b6:=n3_
    have BK_b8:=n4_
    have BK_b9:=n5_
    have BK_b10:=n6_
    have RW_w0:=n7_
    have RW_x0:=n8_
    have RW_x1:=n9_
    have RW_g0:=n10_
    have RW_e3:=n11_
    clear n0_ n1_ n2_ n3_ n4_ n5_ n6_ n7_ n8_ n9_ n10_ n11_
    obtain ⟨A_f3,c_f3,rfl⟩:=Kd.S_slice ho_f3
    have RW_f3:=Aside0.mk (Kd.S_mono (ok':=fun k_ => w51.heap.size ≤ k_ ∧ k_ < w52.heap.size) (Kd.S_bound ho_f3) (fun k_ hk_ => ⟨hk_.2.1,hk_.2.2.1⟩))
    clear hb ho_f3
    refine hK.out _ _ ⟨(blk_cell BK_b2.out 0).trans rfl,(blk_cell BK_b3.out 0).trans rfl,(blk_cell BK_b3.out 1).trans rfl,(blk_cell BK_b3.out 2).trans rfl,(blk_cell BK_b3.out 3).trans rfl⟩ (fun hHeld => ?_)
    clear hK K
    refine norm_ (a':=?_) ?_ ?_
    rotate_left
    ·show Act.put _ (some 98) _ = _
     simp only [Act.put,List.setIfInBounds_toArray,List.set_cons_zero,List.set_cons_succ,i64_w,i32_w]
     rfl
    refine one_ (i:=4) (N:=some 99) #[true,true,true,true,true,false,false,false,true,false,false] rfl rfl (one_of HT_.out (by kernel_rfl)) (by decide) (fun K hK => ?_)
    refine goes_ Try.func51 (by kernel_rfl) rfl #[.agg #[.slice A_e3 xb.length c_e3],.agg #[.int .i64 t.f0,.string t.f1,.int .i64 t.f2,.slice A_f3 xt.length c_f3]] (by rfl) rfl rfl (by (try simp only [List.map_toArray,List.map_cons,List.map_nil]);first|done|rfl) ?_
    refine (c51 _ (fun k_ => w49.heap.size ≤ k_ ∧ k_ ≠ g_b15) _ _ _ _ (fun k_ hk_ => by have:=HGA.out;have:=HGC.out;have:=HGD.out;have:=CH0.out;have:=CH1.out;have:=CH2.out;have:=CH3.out;have:=CH4.out;have:=CH28.out;have:=CH29.out;have:=CH30.out;have:=CH31.out;have:=CH32.out;have:=CH33.out;have:=CH34.out;have:=CH35.out;have:=CH36.out;have:=CH37.out;have:=CH38.out;have:=CH39.out;have:=CH40.out;have:=CH41.out;have:=CH42.out;have:=CH43.out;have:=CH44.out;have:=CH45.out;have:=CH46.out;have:=CH47.out;have:=CH48.out;have:=CH49.out;have:=CH50.out;have:=CH51.out;omega) (Kd.V_mono (Kd.R_V (base':=0) (S_k29 RW_e3.out)) (fun k_ hk_ => by have:=HGA.out;have:=HGC.out;have:=HGD.out;have:=CH0.out;have:=CH1.out;have:=CH2.out;have:=CH3.out;have:=CH4.out;have:=CH28.out;have:=CH29.out;have:=CH30.out;have:=CH31.out;have:=CH32.out;have:=CH33.out;have:=CH34.out;have:=CH35.out;have:=CH36.out;have:=CH37.out;have:=CH38.out;have:=CH39.out;have:=CH40.out;have:=CH41.out;have:=CH42.out;have:=CH43.out;have:=CH44.out;have:=CH45.out;have:=CH46.out;have:=CH47.out;have:=CH48.out;have:=CH49.out;have:=CH50.out;have:=CH51.out;omega)) (Kd.V_mono (Kd.R_V (base':=0) (S_k29 RW_f3.out)) (fun k_ hk_ => by have:=HGA.out;have:=HGC.out;have:=HGD.out;have:=CH0.out;have:=CH1.out;have:=CH2.out;have:=CH3.out;have:=CH4.out;have:=CH28.out;have:=CH29.out;have:=CH30.out;have:=CH31.out;have:=CH32.out;have:=CH33.out;have:=CH34.out;have:=CH35.out;have:=CH36.out;have:=CH37.out;have:=CH38.out;have:=CH39.out;have:=CH40.out;have:=CH41.out;have:=CH42.out;have:=CH43.out;have:=CH44.out;have:=CH45.out;have:=CH46.out;have:=CH47.out;have:=CH48.out;have:=CH49.out;have:=CH50.out;have:=CH51.out;omega))).mono ?_
    rintro e w53 ⟨v_k0,rfl,ho_k0,hb⟩
    refine ⟨_,rfl,?_⟩
    have QZ:=Aside0.mk (blk_below BZ.out hb)
    have QB:=Aside0.mk (Nat.lt_of_lt_of_le HGB.out hb.size)
    clear BZ HGB
    have BZ:=QZ
    have HGB:=QB
    clear QZ QB
    have CH52:=Aside0.mk hb.size
    have HW_k0:=Aside0.mk HB.out.size
    have n0_:=Aside0.mk (below_step HB.out hb)
    have n1_:=Aside0.mk (blk_below BK_b2.out hb)
    have n2_:=Aside0.mk (blk_below BK_b3.out hb)
    have n3_:=Aside0.mk (blk_below BK_b6.out hb)
    have n4_:=Aside0.mk (blk_below BK_b8.out hb)
    have n5_:=Aside0.mk (blk_below BK_b9.out hb)
    have n6_:=Aside0.mk (blk_below BK_b10.out hb)
    have n7_:=Aside0.mk (Kd.S_below RW_w0.out hb)
    have n8_:=Aside0.mk (Kd.S_below RW_x0.out hb)
    have n9_:=Aside0.mk (Kd.S_below RW_x1.out hb)
    have n10_:=Aside0.mk (Kd.S_below RW_g0.out hb)
    have n11_:=Aside0.mk (Kd.S_below RW_e3.out hb)
    have n12_:=Aside0.mk (Kd.S_below RW_f3.out hb)
    clear HB BK_b2 BK_b3 BK_b6 BK_b8 BK_b9 BK_b10 RW_w0 RW_x0 RW_x1 RW_g0 RW_e3 RW_f3
    have HB:=n0_
    have BK_b2:=n1_
    have BK_b3:=n2_
    have BK_b6:=n3_
    have BK_b8:=n4_
    have BK_b9:=n5_
    have BK_b10:=n6_
    have RW_w0:=n7_
    have RW_x0:=n8_
    have RW_x1:=n9_
    have RW_g0:=n10_
    have RW_e3:=n11_
    have RW_f3:=n12_
    clear n0_ n1_ n2_ n3_ n4_ n5_ n6_ n7_ n8_ n9_ n10_ n11_ n12_
    obtain ⟨A_k0,c_k0,rfl⟩:=Kd.S_slice ho_k0
    have RW_k0:=Aside0.mk (Kd.S_mono (ok':=fun k_ => w52.heap.size ≤ k_ ∧ k_ < w53.heap.size) (Kd.S_bound ho_k0) (fun k_ hk_ => ⟨hk_.2.1,hk_.2.2.1⟩))
    clear hb ho_k0
    clear RW_e3
    clear RW_f3
    refine hK.out _ _ ⟨(blk_cell BK_b2.out 0).trans rfl,(blk_cell BK_b3.out 0).trans rfl,(blk_cell BK_b3.out 1).trans rfl,(blk_cell BK_b3.out 2).trans rfl,(blk_cell BK_b3.out 3).trans rfl⟩ (fun hHeld => ?_)
    clear hK K
    refine norm_ (a':=?_) ?_ ?_
    rotate_left
    ·show Act.put _ (some 99) _ = _
     simp only [Act.put,List.setIfInBounds_toArray,List.set_cons_zero,List.set_cons_succ,i64_w,i32_w]
     rfl
    refine pure_ (i:=5) (N:=some 94) (v:=?_) (a':=?_) #[true,true,true,true,true,true,false,false,true,false,false] rfl rfl (any_of HT_.out (by kernel_rfl)) (fun _ _ _ h => h) (Or.inl ⟨by rfl,?_⟩) ?_ ?_
    rotate_left
    ·intro w'
     go_simp
     with_reducible rfl
    rotate_left
    ·simp only [Act.put,List.setIfInBounds_toArray,List.set_cons_zero,List.set_cons_succ,i64_w,i32_w]
     rfl
    refine pure_ (i:=6) (N:=some 100) (v:=?_) (a':=?_) #[true,true,true,true,true,true,true,false,true,false,false] rfl rfl (any_of HT_.out (by kernel_rfl)) (fun _ _ _ h => h) (Or.inl ⟨by rfl,?_⟩) ?_ ?_
    rotate_left
    ·intro w'
     go_simp
     with_reducible rfl
    rotate_left
    ·simp only [Act.put,List.setIfInBounds_toArray,List.set_cons_zero,List.set_cons_succ,i64_w,i32_w]
     rfl
    refine pure_ (i:=7) (N:=some 101) (v:=?_) (a':=?_) #[true,true,true,true,true,true,true,true,true,false,false] rfl rfl (any_of HT_.out (by kernel_rfl)) (fun _ _ _ h => h) (Or.inl ⟨by rfl,?_⟩) ?_ ?_
    rotate_left
    ·intro w'
     go_simp
     with_reducible rfl
    rotate_left
    ·simp only [Act.put,List.setIfInBounds_toArray,List.set_cons_zero,List.set_cons_succ,i64_w,i32_w]
     rfl
    exact norm_ (by simp only [putAll,Act.put,List.setIfInBounds_toArray,List.set_cons_zero,List.set_cons_succ]) (hCont (A_e3,c_e3,A_f3,c_f3,A_k0,c_k0,g_b15) _ ⟨HB.out,BK_b2.out,BK_b3.out,BK_b6.out,BK_b8.out,BK_b9.out,BK_b10.out,RW_w0.out,RW_x0.out,RW_x1.out,RW_g0.out,(by have h_:=RW_k0.out;exact Kd.S_mono (Kd.S_lower h_ (by have:=CH0.out;have:=CH1.out;have:=CH2.out;have:=CH3.out;have:=CH4.out;have:=CH28.out;have:=CH29.out;have:=CH30.out;have:=CH31.out;have:=CH32.out;have:=CH33.out;have:=CH34.out;have:=CH35.out;have:=CH36.out;have:=CH37.out;have:=CH38.out;have:=CH39.out;have:=CH40.out;have:=CH41.out;have:=CH42.out;have:=CH43.out;have:=CH44.out;have:=CH45.out;have:=CH46.out;have:=CH47.out;have:=CH48.out;have:=CH49.out;have:=CH50.out;have:=CH51.out;have:=CH52.out;omega)) (fun k_ hk_ => ⟨⟨by have:=CH0.out;have:=CH1.out;have:=CH2.out;have:=CH3.out;have:=CH4.out;have:=CH28.out;have:=CH29.out;have:=CH30.out;have:=CH31.out;have:=CH32.out;have:=CH33.out;have:=CH34.out;have:=CH35.out;have:=CH36.out;have:=CH37.out;have:=CH38.out;have:=CH39.out;have:=CH40.out;have:=CH41.out;have:=CH42.out;have:=CH43.out;have:=CH44.out;have:=CH45.out;have:=CH46.out;have:=CH47.out;have:=CH48.out;have:=CH49.out;have:=CH50.out;have:=CH51.out;have:=CH52.out;omega,by have:=CH0.out;have:=CH1.out;have:=CH2.out;have:=CH3.out;have:=CH4.out;have:=CH28.out;have:=CH29.out;have:=CH30.out;have:=CH31.out;have:=CH32.out;have:=CH33.out;have:=CH34.out;have:=CH35.out;have:=CH36.out;have:=CH37.out;have:=CH38.out;have:=CH39.out;have:=CH40.out;have:=CH41.out;have:=CH42.out;have:=CH43.out;have:=CH44.out;have:=CH45.out;have:=CH46.out;have:=CH47.out;have:=CH48.out;have:=CH49.out;have:=CH50.out;have:=CH51.out;have:=CH52.out;omega⟩,by have:=HGC.out;have:=HGA.out;have:=HGD.out;have:=CH0.out;have:=CH1.out;have:=CH2.out;have:=CH3.out;have:=CH4.out;have:=CH28.out;have:=CH29.out;have:=CH30.out;have:=CH31.out;have:=CH32.out;have:=CH33.out;have:=CH34.out;have:=CH35.out;have:=CH36.out;have:=CH37.out;have:=CH38.out;have:=CH39.out;have:=CH40.out;have:=CH41.out;have:=CH42.out;have:=CH43.out;have:=CH44.out;have:=CH45.out;have:=CH46.out;have:=CH47.out;have:=CH48.out;have:=CH49.out;have:=CH50.out;have:=CH51.out;have:=CH52.out;omega⟩)),BZ.out,HGA.out,HGB.out,(by have:=CH0.out;have:=CH1.out;have:=CH2.out;have:=CH3.out;have:=CH4.out;have:=CH28.out;have:=CH29.out;have:=CH30.out;have:=CH31.out;have:=CH32.out;have:=CH33.out;have:=CH34.out;have:=CH35.out;have:=CH36.out;have:=CH37.out;have:=CH38.out;have:=CH39.out;have:=CH40.out;have:=CH41.out;have:=CH42.out;have:=CH43.out;have:=CH44.out;have:=CH45.out;have:=CH46.out;have:=CH47.out;have:=CH48.out;have:=CH49.out;have:=CH50.out;have:=CH51.out;have:=CH52.out;omega)⟩)
  ·skip
   refine box_step (by rfl) (N:=15) rfl (cs:=#[.int .i64 0,.string (⟨#[]⟩ : ByteArray),.int .i64 0,.slice none 0 0]) (t:=29) ?hra ?_
   (case hra => first|(go_simp;done)|(go_simp;rfl))
   intro g_b15 hg w50 hbox hb
   have BZ:=Aside0.mk hbox
   have HGA:=Aside0.mk (show w49.heap.size ≤ g_b15 by have:=CH0.out;have:=CH1.out;have:=CH2.out;have:=CH3.out;have:=CH4.out;have:=CH28.out;have:=CH29.out;have:=CH30.out;have:=CH31.out;have:=CH32.out;have:=CH33.out;have:=CH34.out;have:=CH35.out;have:=CH36.out;have:=CH37.out;have:=CH38.out;have:=CH39.out;have:=CH40.out;have:=CH41.out;have:=CH42.out;have:=CH43.out;have:=CH44.out;have:=CH45.out;have:=CH46.out;have:=CH47.out;have:=CH48.out;omega)
   have HGC:=Aside0.mk hg
   have HGD:=Aside0.mk (blk_lt hbox)
   have HGB:=Aside0.mk (blk_lt hbox)
   have CH49:=Aside0.mk hb.size
   have n0_:=Aside0.mk (below_step HB.out hb)
   have n1_:=Aside0.mk (blk_below BK_b2.out hb)
   have n2_:=Aside0.mk (blk_below BK_b3.out hb)
   have n3_:=Aside0.mk (blk_below BK_b6.out hb)
   have n4_:=Aside0.mk (blk_below BK_b8.out hb)
   have n5_:=Aside0.mk (blk_below BK_b9.out hb)
   have n6_:=Aside0.mk (blk_below BK_b10.out hb)
   have n7_:=Aside0.mk (Kd.S_below RW_w0.out hb)
   have n8_:=Aside0.mk (Kd.S_below RW_x0.out hb)
   have n9_:=Aside0.mk (Kd.S_below RW_x1.out hb)
   have n10_:=Aside0.mk (Kd.S_below RW_g0.out hb)
   clear HB BK_b2 BK_b3 BK_b6 BK_b8 BK_b9 BK_b10 RW_w0 RW_x0 RW_x1 RW_g0
   have HB:=n0_
   have BK_b2:=n1_
   have BK_b3:=n2_
   have BK_b6:=n3_
   have BK_b8:=n4_
   have BK_b9:=n5_
   have BK_b10:=n6_
   have RW_w0:=n7_
   have RW_x0:=n8_
   have RW_x1:=n9_
   have RW_g0:=n10_
   clear n0_ n1_ n2_ n3_ n4_ n5_ n6_ n7_ n8_ n9_ n10_
   clear hg hbox hb
   refine hK.out _ _ ⟨(blk_cell BK_b2.out 0).trans rfl,(blk_cell BK_b3.out 0).trans rfl,(blk_cell BK_b3.out 1).trans rfl,(blk_cell BK_b3.out 2).trans rfl,(blk_cell BK_b3.out 3).trans rfl⟩ (fun hHeld => ?_)
   clear hK K
   refine norm_ (a':=?_) ?_ ?_
   rotate_left
   ·show Act.put _ (some 15) _ = _
    simp only [Act.put,List.setIfInBounds_toArray,List.set_cons_zero,List.set_cons_succ,i64_w,i32_w]
    rfl
   refine one_ (i:=1) (N:=some 96) #[true,true,true,false,false,false,false,false,true,false,false] rfl rfl (one_of HT_.out (by kernel_rfl)) (by decide) (fun K hK => ?_)
   refine goes_ Try.func40 (by kernel_rfl) rfl #[.agg #[.slice A_B bl.length c_B]] (by rfl) rfl rfl (by (try simp only [List.map_toArray,List.map_cons,List.map_nil]);first|done|rfl) ?_
   refine (c40 _ _ _ HL_B.out (Kd.C_below HC_B.out HB.out)).mono ?_
   rintro e w51 ⟨v_e3,rfl,ho_e3,hb⟩
   refine ⟨_,rfl,?_⟩
   have QZ:=Aside0.mk (blk_below BZ.out hb)
   have QB:=Aside0.mk (Nat.lt_of_lt_of_le HGB.out hb.size)
   clear BZ HGB
   have BZ:=QZ
   have HGB:=QB
   clear QZ QB
   have CH50:=Aside0.mk hb.size
   have HW_e3:=Aside0.mk HB.out.size
   have n0_:=Aside0.mk (below_step HB.out hb)
   have n1_:=Aside0.mk (blk_below BK_b2.out hb)
   have n2_:=Aside0.mk (blk_below BK_b3.out hb)
   have n3_:=Aside0.mk (blk_below BK_b6.out hb)
   have n4_:=Aside0.mk (blk_below BK_b8.out hb)
   have n5_:=Aside0.mk (blk_below BK_b9.out hb)
   have n6_:=Aside0.mk (blk_below BK_b10.out hb)
   have n7_:=Aside0.mk (Kd.S_below RW_w0.out hb)
   have n8_:=Aside0.mk (Kd.S_below RW_x0.out hb)
   have n9_:=Aside0.mk (Kd.S_below RW_x1.out hb)
   have n10_:=Aside0.mk (Kd.S_below RW_g0.out hb)
   clear HB BK_b2 BK_b3 BK_b6 BK_b8 BK_b9 BK_b10 RW_w0 RW_x0 RW_x1 RW_g0
   have HB:=n0_
   have BK_b2:=n1_
   have BK_b3:=n2_
   have BK_b6:=n3_
   have BK_b8:=n4_
   have BK_b9:=n5_
   have BK_b10:=n6_
   have RW_w0:=n7_
   have RW_x0:=n8_
   have RW_x1:=n9_
   have RW_g0:=n10_
   clear n0_ n1_ n2_ n3_ n4_ n5_ n6_ n7_ n8_ n9_ n10_
   obtain ⟨A_e3,c_e3,rfl⟩:=Kd.S_slice ho_e3
   have RW_e3:=Aside0.mk (Kd.S_mono (ok':=fun k_ => w50.heap.size ≤ k_ ∧ k_ < w51.heap.size) (Kd.S_bound ho_e3) (fun k_ hk_ => ⟨hk_.2.1,hk_.2.2.1⟩))
   clear hb ho_e3
   refine hK.out _ _ ⟨(blk_cell BK_b2.out 0).trans rfl,(blk_cell BK_b3.out 0).trans rfl,(blk_cell BK_b3.out 1).trans rfl,(blk_cell BK_b3.out 2).trans rfl,(blk_cell BK_b3.out 3).trans rfl⟩ (fun hHeld => ?_)
   clear hK K
   refine norm_ (a':=?_) ?_ ?_
   rotate_left
   ·show Act.put _ (some 96) _ = _
    simp only [Act.put,List.setIfInBounds_toArray,List.set_cons_zero,List.set_cons_succ,i64_w,i32_w]
    rfl
   refine one_ (i:=3) (N:=some 98) #[true,true,true,true,false,false,false,false,true,false,false] rfl rfl (one_of HT_.out (by kernel_rfl)) (by decide) (fun K hK => ?_)
   refine goes_ Try.func17 (by kernel_rfl) rfl #[.agg #[.int .i64 t.f0,.string t.f1,.int .i64 t.f2,.slice A_T t.f3.length c_T]] (by rfl) rfl rfl (by (try simp only [List.map_toArray,List.map_cons,List.map_nil]);first|done|rfl) ?_
   refine (c17 _ _ _ HL_T.out (Kd.C_below HC_T.out HB.out)).mono ?_
   rintro e w52 ⟨v_f3,rfl,ho_f3,hb⟩
   refine ⟨_,rfl,?_⟩
   have QZ:=Aside0.mk (blk_below BZ.out hb)
   have QB:=Aside0.mk (Nat.lt_of_lt_of_le HGB.out hb.size)
   clear BZ HGB
   have BZ:=QZ
   have HGB:=QB
   clear QZ QB
   have CH51:=Aside0.mk hb.size
   have HW_f3:=Aside0.mk HB.out.size
   have n0_:=Aside0.mk (below_step HB.out hb)
   have n1_:=Aside0.mk (blk_below BK_b2.out hb)
   have n2_:=Aside0.mk (blk_below BK_b3.out hb)
   have n3_:=Aside0.mk (blk_below BK_b6.out hb)
   have n4_:=Aside0.mk (blk_below BK_b8.out hb)
   have n5_:=Aside0.mk (blk_below BK_b9.out hb)
   have n6_:=Aside0.mk (blk_below BK_b10.out hb)
   have n7_:=Aside0.mk (Kd.S_below RW_w0.out hb)
   have n8_:=Aside0.mk (Kd.S_below RW_x0.out hb)
   have n9_:=Aside0.mk (Kd.S_below RW_x1.out hb)
   have n10_:=Aside0.mk (Kd.S_below RW_g0.out hb)
   have n11_:=Aside0.mk (Kd.S_below RW_e3.out hb)
   clear HB BK_b2 BK_b3 BK_b6 BK_b8 BK_b9 BK_b10 RW_w0 RW_x0 RW_x1 RW_g0 RW_e3
   have HB:=n0_
   have BK_b2:=n1_
   have BK_b3:=n2_
   have BK_b6:=n3_
   have BK_b8:=n4_
   have BK_b9:=n5_
   have BK_b10:=n6_
   have RW_w0:=n7_
   have RW_x0:=n8_
   have RW_x1:=n9_
   have RW_g0:=n10_
   have RW_e3:=n11_
   clear n0_ n1_ n2_ n3_ n4_ n5_ n6_ n7_ n8_ n9_ n10_ n11_
   obtain ⟨A_f3,c_f3,rfl⟩:=Kd.S_slice ho_f3
   have RW_f3:=Aside0.mk (Kd.S_mono (ok':=fun k_ => w51.heap.size ≤ k_ ∧ k_ < w52.heap.size) (Kd.S_bound ho_f3) (fun k_ hk_ => ⟨hk_.2.1,hk_.2.2.1⟩))
   clear hb ho_f3
   refine hK.out _ _ ⟨(blk_cell BK_b2.out 0).trans rfl,(blk_cell BK_b3.out 0).trans rfl,(blk_cell BK_b3.out 1).trans rfl,(blk_cell BK_b3.out 2).trans rfl,(blk_cell BK_b3.out 3).trans rfl⟩ (fun hHeld => ?_)
   clear hK K
   refine norm_ (a':=?_) ?_ ?_
   rotate_left
   ·show Act.put _ (some 98) _ = _
    simp only [Act.put,List.setIfInBounds_toArray,List.set_cons_zero,List.set_cons_succ,i64_w,i32_w]
    rfl
   refine one_ (i:=4) (N:=some 99) #[true,true,true,true,true,false,false,false,true,false,false] rfl rfl (one_of HT_.out (by kernel_rfl)) (by decide) (fun K hK => ?_)
   refine goes_ Try.func51 (by kernel_rfl) rfl #[.agg #[.slice A_e3 xb.length c_e3],.agg #[.int .i64 t.f0,.string t.f1,.int .i64 t.f2,.slice A_f3 xt.length c_f3]] (by rfl) rfl rfl (by (try simp only [List.map_toArray,List.map_cons,List.map_nil]);first|done|rfl) ?_
   refine (c51 _ (fun k_ => w49.heap.size ≤ k_ ∧ k_ ≠ g_b15) _ _ _ _ (fun k_ hk_ => by have:=HGA.out;have:=HGC.out;have:=HGD.out;have:=CH0.out;have:=CH1.out;have:=CH2.out;have:=CH3.out;have:=CH4.out;have:=CH28.out;have:=CH29.out;have:=CH30.out;have:=CH31.out;have:=CH32.out;have:=CH33.out;have:=CH34.out;have:=CH35.out;have:=CH36.out;have:=CH37.out;have:=CH38.out;have:=CH39.out;have:=CH40.out;have:=CH41.out;have:=CH42.out;have:=CH43.out;have:=CH44.out;have:=CH45.out;have:=CH46.out;have:=CH47.out;have:=CH48.out;have:=CH49.out;have:=CH50.out;have:=CH51.out;omega) (Kd.V_mono (Kd.R_V (base':=0) (S_k29 RW_e3.out)) (fun k_ hk_ => by have:=HGA.out;have:=HGC.out;have:=HGD.out;have:=CH0.out;have:=CH1.out;have:=CH2.out;have:=CH3.out;have:=CH4.out;have:=CH28.out;have:=CH29.out;have:=CH30.out;have:=CH31.out;have:=CH32.out;have:=CH33.out;have:=CH34.out;have:=CH35.out;have:=CH36.out;have:=CH37.out;have:=CH38.out;have:=CH39.out;have:=CH40.out;have:=CH41.out;have:=CH42.out;have:=CH43.out;have:=CH44.out;have:=CH45.out;have:=CH46.out;have:=CH47.out;have:=CH48.out;have:=CH49.out;have:=CH50.out;have:=CH51.out;omega)) (Kd.V_mono (Kd.R_V (base':=0) (S_k29 RW_f3.out)) (fun k_ hk_ => by have:=HGA.out;have:=HGC.out;have:=HGD.out;have:=CH0.out;have:=CH1.out;have:=CH2.out;have:=CH3.out;have:=CH4.out;have:=CH28.out;have:=CH29.out;have:=CH30.out;have:=CH31.out;have:=CH32.out;have:=CH33.out;have:=CH34.out;have:=CH35.out;have:=CH36.out;have:=CH37.out;have:=CH38.out;have:=CH39.out;have:=CH40.out;have:=CH41.out;have:=CH42.out;have:=CH43.out;have:=CH44.out;have:=CH45.out;have:=CH46.out;have:=CH47.out;have:=CH48.out;have:=CH49.out;have:=CH50.out;have:=CH51.out;omega))).mono ?_
   rintro e w53 ⟨v_k0,rfl,ho_k0,hb⟩
   refine ⟨_,rfl,?_⟩
   have QZ:=Aside0.mk (blk_below BZ.out hb)
   have QB:=Aside0.mk (Nat.lt_of_lt_of_le HGB.out hb.size)
   clear BZ HGB
   have BZ:=QZ
   have HGB:=QB
   clear QZ QB
   have CH52:=Aside0.mk hb.size
   have HW_k0:=Aside0.mk HB.out.size
   have n0_:=Aside0.mk (below_step HB.out hb)
   have n1_:=Aside0.mk (blk_below BK_b2.out hb)
   have n2_:=Aside0.mk (blk_below BK_b3.out hb)
   have n3_:=Aside0.mk (blk_below BK_b6.out hb)
   have n4_:=Aside0.mk (blk_below BK_b8.out hb)
   have n5_:=Aside0.mk (blk_below BK_b9.out hb)
   have n6_:=Aside0.mk (blk_below BK_b10.out hb)
   have n7_:=Aside0.mk (Kd.S_below RW_w0.out hb)
   have n8_:=Aside0.mk (Kd.S_below RW_x0.out hb)
   have n9_:=Aside0.mk (Kd.S_below RW_x1.out hb)
   have n10_:=Aside0.mk (Kd.S_below RW_g0.out hb)
   have n11_:=Aside0.mk (Kd.S_below RW_e3.out hb)
   have n12_:=Aside0.mk (Kd.S_below RW_f3.out hb)
   clear HB BK_b2 BK_b3 BK_b6 BK_b8 BK_b9 BK_b10 RW_w0 RW_x0 RW_x1 RW_g0 RW_e3 RW_f3
   have HB:=n0_
   have BK_b2:=n1_
   have BK_b3:=n2_
   have BK_b6:=n3_
   have BK_b8:=n4_
   have BK_b9:=n5_
   have BK_b10:=n6_
   have RW_w0:=n7_
   have RW_x0:=n8_
   have RW_x1:=n9_
   have RW_g0:=n10_
   have RW_e3:=n11_
   have RW_f3:=n12_
   clear n0_ n1_ n2_ n3_ n4_ n5_ n6_ n7_ n8_ n9_ n10_ n11_ n12_
   obtain ⟨A_k0,c_k0,rfl⟩:=Kd.S_slice ho_k0
   have RW_k0:=Aside0.mk (Kd.S_mono (ok':=fun k_ => w52.heap.size ≤ k_ ∧ k_ < w53.heap.size) (Kd.S_bound ho_k0) (fun k_ hk_ => ⟨hk_.2.1,hk_.2.2.1⟩))
   clear hb ho_k0
   clear RW_e3
   clear RW_f3
   refine hK.out _ _ ⟨(blk_cell BK_b2.out 0).trans rfl,(blk_cell BK_b3.out 0).trans rfl,(blk_cell BK_b3.out 1).trans rfl,(blk_cell BK_b3.out 2).trans rfl,(blk_cell BK_b3.out 3).trans rfl⟩ (fun hHeld => ?_)
   clear hK K
   refine norm_ (a':=?_) ?_ ?_
   rotate_left
   ·show Act.put _ (some 99) _ = _
    simp only [Act.put,List.setIfInBounds_toArray,List.set_cons_zero,List.set_cons_succ,i64_w,i32_w]
    rfl
   refine pure_ (i:=5) (N:=some 94) (v:=?_) (a':=?_) #[true,true,true,true,true,true,false,false,true,false,false] rfl rfl (any_of HT_.out (by kernel_rfl)) (fun _ _ _ h => h) (Or.inl ⟨by rfl,?_⟩) ?_ ?_
   rotate_left
   ·intro w'
    go_simp
    with_reducible rfl
   rotate_left
   ·simp only [Act.put,List.setIfInBounds_toArray,List.set_cons_zero,List.set_cons_succ,i64_w,i32_w]
    rfl
   refine pure_ (i:=6) (N:=some 100) (v:=?_) (a':=?_) #[true,true,true,true,true,true,true,false,true,false,false] rfl rfl (any_of HT_.out (by kernel_rfl)) (fun _ _ _ h => h) (Or.inl ⟨by rfl,?_⟩) ?_ ?_
   rotate_left
   ·intro w'
    go_simp
    with_reducible rfl
   rotate_left
   ·simp only [Act.put,List.setIfInBounds_toArray,List.set_cons_zero,List.set_cons_succ,i64_w,i32_w]
    rfl
   refine pure_ (i:=7) (N:=some 101) (v:=?_) (a':=?_) #[true,true,true,true,true,true,true,true,true,false,false] rfl rfl (any_of HT_.out (by kernel_rfl)) (fun _ _ _ h => h) (Or.inl ⟨by rfl,?_⟩) ?_ ?_
   rotate_left
   ·intro w'
    go_simp
    with_reducible rfl
   rotate_left
   ·simp only [Act.put,List.setIfInBounds_toArray,List.set_cons_zero,List.set_cons_succ,i64_w,i32_w]
    rfl
   exact norm_ (by simp only [putAll,Act.put,List.setIfInBounds_toArray,List.set_cons_zero,List.set_cons_succ]) (hCont (A_e3,c_e3,A_f3,c_f3,A_k0,c_k0,g_b15) _ ⟨HB.out,BK_b2.out,BK_b3.out,BK_b6.out,BK_b8.out,BK_b9.out,BK_b10.out,RW_w0.out,RW_x0.out,RW_x1.out,RW_g0.out,(by have h_:=RW_k0.out;exact Kd.S_mono (Kd.S_lower h_ (by have:=CH0.out;have:=CH1.out;have:=CH2.out;have:=CH3.out;have:=CH4.out;have:=CH28.out;have:=CH29.out;have:=CH30.out;have:=CH31.out;have:=CH32.out;have:=CH33.out;have:=CH34.out;have:=CH35.out;have:=CH36.out;have:=CH37.out;have:=CH38.out;have:=CH39.out;have:=CH40.out;have:=CH41.out;have:=CH42.out;have:=CH43.out;have:=CH44.out;have:=CH45.out;have:=CH46.out;have:=CH47.out;have:=CH48.out;have:=CH49.out;have:=CH50.out;have:=CH51.out;have:=CH52.out;omega)) (fun k_ hk_ => ⟨⟨by have:=CH0.out;have:=CH1.out;have:=CH2.out;have:=CH3.out;have:=CH4.out;have:=CH28.out;have:=CH29.out;have:=CH30.out;have:=CH31.out;have:=CH32.out;have:=CH33.out;have:=CH34.out;have:=CH35.out;have:=CH36.out;have:=CH37.out;have:=CH38.out;have:=CH39.out;have:=CH40.out;have:=CH41.out;have:=CH42.out;have:=CH43.out;have:=CH44.out;have:=CH45.out;have:=CH46.out;have:=CH47.out;have:=CH48.out;have:=CH49.out;have:=CH50.out;have:=CH51.out;have:=CH52.out;omega,by have:=CH0.out;have:=CH1.out;have:=CH2.out;have:=CH3.out;have:=CH4.out;have:=CH28.out;have:=CH29.out;have:=CH30.out;have:=CH31.out;have:=CH32.out;have:=CH33.out;have:=CH34.out;have:=CH35.out;have:=CH36.out;have:=CH37.out;have:=CH38.out;have:=CH39.out;have:=CH40.out;have:=CH41.out;have:=CH42.out;have:=CH43.out;have:=CH44.out;have:=CH45.out;have:=CH46.out;have:=CH47.out;have:=CH48.out;have:=CH49.out;have:=CH50.out;have:=CH51.out;have:=CH52.out;omega⟩,by have:=HGC.out;have:=HGA.out;have:=HGD.out;have:=CH0.out;have:=CH1.out;have:=CH2.out;have:=CH3.out;have:=CH4.out;have:=CH28.out;have:=CH29.out;have:=CH30.out;have:=CH31.out;have:=CH32.out;have:=CH33.out;have:=CH34.out;have:=CH35.out;have:=CH36.out;have:=CH37.out;have:=CH38.out;have:=CH39.out;have:=CH40.out;have:=CH41.out;have:=CH42.out;have:=CH43.out;have:=CH44.out;have:=CH45.out;have:=CH46.out;have:=CH47.out;have:=CH48.out;have:=CH49.out;have:=CH50.out;have:=CH51.out;have:=CH52.out;omega⟩)),BZ.out,HGA.out,HGB.out,(by have:=CH0.out;have:=CH1.out;have:=CH2.out;have:=CH3.out;have:=CH4.out;have:=CH28.out;have:=CH29.out;have:=CH30.out;have:=CH31.out;have:=CH32.out;have:=CH33.out;have:=CH34.out;have:=CH35.out;have:=CH36.out;have:=CH37.out;have:=CH38.out;have:=CH39.out;have:=CH40.out;have:=CH41.out;have:=CH42.out;have:=CH43.out;have:=CH44.out;have:=CH45.out;have:=CH46.out;have:=CH47.out;have:=CH48.out;have:=CH49.out;have:=CH50.out;have:=CH51.out;have:=CH52.out;omega)⟩)
 rintro ⟨A_e3,c_e3,A_f3,c_f3,A_k0,c_k0,g_b15⟩ w72 ⟨hB_,hK_b2,hK_b3,hK_b6,hK_b8,hK_b9,hK_b10,hR_w0,hR_x0,hR_x1,hR_g0,hL_,hZ_,hGA_,hGB_,hCH_⟩
 have HW_k0:=Aside0.mk HB.out.size
 clear HB
 clear BK_b2
 clear BK_b3
 clear BK_b6
 clear BK_b8
 clear BK_b9
 clear BK_b10
 clear RW_w0
 clear RW_x0
 clear RW_x1
 clear RW_g0
 have HB:=Aside0.mk hB_
 have BK_b2:=Aside0.mk hK_b2
 have BK_b3:=Aside0.mk hK_b3
 have BK_b6:=Aside0.mk hK_b6
 have BK_b8:=Aside0.mk hK_b8
 have BK_b9:=Aside0.mk hK_b9
 have BK_b10:=Aside0.mk hK_b10
 have RW_w0:=Aside0.mk hR_w0
 have RW_x0:=Aside0.mk hR_x0
 have RW_x1:=Aside0.mk hR_x1
 have RW_g0:=Aside0.mk hR_g0
 have RW_k0:=Aside0.mk hL_
 have BZ:=Aside0.mk hZ_
 have HG_b15:=Aside0.mk hGA_
 have HGB:=Aside0.mk hGB_
 have CH72:=Aside0.mk hCH_
 clear hB_ hK_b2 hK_b3 hK_b6 hK_b8 hK_b9 hK_b10 hR_w0 hR_x0 hR_x1 hR_g0 hL_ hZ_ hGA_ hGB_ hCH_
 refine norm_ (a':=?_) ?_ ?_
 rotate_left
 ·simp only [putAll,Act.put,List.setIfInBounds_toArray,List.set_cons_zero,List.set_cons_succ]
  rfl
 refine last_ (i:=9) (N:=none) #[true,true,true,true,true,true,true,true,true,true,false] rfl rfl (one_of HT_.out (by kernel_rfl)) (by decide) (fun K hK => ?_)
 have hz0_ : w72.cell? ⟨g_b15,0,none⟩ = some (.int .i64 0):=(blk_cell BZ.out 0).trans rfl
 have hz1_ : w72.cell? ⟨g_b15,1,none⟩ = some (.string (⟨#[]⟩ : ByteArray)):=(blk_cell BZ.out 1).trans rfl
 have hz2_ : w72.cell? ⟨g_b15,2,none⟩ = some (.int .i64 0):=(blk_cell BZ.out 2).trans rfl
 have hz3_ : w72.cell? ⟨g_b15,3,none⟩ = some (.slice none 0 0):=(blk_cell BZ.out 3).trans rfl
 have fz0_:=blk_frozen BZ.out 0
 have fz1_:=blk_frozen BZ.out 1
 have fz2_:=blk_frozen BZ.out 2
 have fz3_:=blk_frozen BZ.out 3
 refine skip_ (w1:=?_) (by rfl) rfl ?_ ?_
 rotate_left
 ·go_simp
  rfl
 refine hK.out _ _ ?_
 clear hK K
 refine pure_ (i:=10) (N:=some 16) (v:=?_) (a':=?_) #[true,true,true,true,true,true,true,true,true,true,true] rfl rfl (any_of HT_.out (by kernel_rfl)) (fun _ _ _ h => h) (Or.inl ⟨by rfl,?_⟩) ?_ ?_
 rotate_left
 ·intro w'
  go_simp
  with_reducible rfl
 rotate_left
 ·simp only [Act.put,List.setIfInBounds_toArray,List.set_cons_zero,List.set_cons_succ,i64_w,i32_w]
  rfl
 refine done_ (done_of HT_.out (by kernel_rfl)) ?_
 have HGW:=Aside0.mk (show w.heap.size ≤ g_b15 by have:=HW_k0.out;have:=HG_b15.out;omega)
 have n_HB:=Aside0.mk (show Below w.heap.size w ((((w72.setCell ⟨g_b15,0,none⟩ (.int .i64 r0)).setCell ⟨g_b15,1,none⟩ (.string r1)).setCell ⟨g_b15,2,none⟩ (.int .i64 r2)).setCell ⟨g_b15,3,none⟩ (.slice A_k0 xs.length c_k0)) from (below_set (below_set (below_set (below_set HB.out HGW.out) HGW.out) HGW.out) HGW.out))
 have n_BK_b2:=Aside0.mk (show ((((w72.setCell ⟨g_b15,0,none⟩ (.int .i64 r0)).setCell ⟨g_b15,1,none⟩ (.string r1)).setCell ⟨g_b15,2,none⟩ (.int .i64 r2)).setCell ⟨g_b15,3,none⟩ (.slice A_k0 xs.length c_k0)).heap[g_b2]? = some (.cells #[.slice A_B bl.length c_B] 49 (0,0)) from (blk_far (blk_far (blk_far (blk_far BK_b2.out (show g_b2 ≠ g_b15 by have:=HL_b2.out;have:=HG_b15.out;have:=CH0.out;have:=CH1.out;have:=CH2.out;have:=CH3.out;have:=CH4.out;have:=CH28.out;have:=CH29.out;have:=CH30.out;have:=CH31.out;have:=CH32.out;have:=CH33.out;have:=CH34.out;have:=CH35.out;have:=CH36.out;have:=CH37.out;have:=CH38.out;have:=CH39.out;have:=CH40.out;have:=CH41.out;have:=CH42.out;have:=CH43.out;have:=CH44.out;have:=CH45.out;have:=CH46.out;have:=CH47.out;have:=CH48.out;have:=CH72.out;omega) _) (show g_b2 ≠ g_b15 by have:=HL_b2.out;have:=HG_b15.out;have:=CH0.out;have:=CH1.out;have:=CH2.out;have:=CH3.out;have:=CH4.out;have:=CH28.out;have:=CH29.out;have:=CH30.out;have:=CH31.out;have:=CH32.out;have:=CH33.out;have:=CH34.out;have:=CH35.out;have:=CH36.out;have:=CH37.out;have:=CH38.out;have:=CH39.out;have:=CH40.out;have:=CH41.out;have:=CH42.out;have:=CH43.out;have:=CH44.out;have:=CH45.out;have:=CH46.out;have:=CH47.out;have:=CH48.out;have:=CH72.out;omega) _) (show g_b2 ≠ g_b15 by have:=HL_b2.out;have:=HG_b15.out;have:=CH0.out;have:=CH1.out;have:=CH2.out;have:=CH3.out;have:=CH4.out;have:=CH28.out;have:=CH29.out;have:=CH30.out;have:=CH31.out;have:=CH32.out;have:=CH33.out;have:=CH34.out;have:=CH35.out;have:=CH36.out;have:=CH37.out;have:=CH38.out;have:=CH39.out;have:=CH40.out;have:=CH41.out;have:=CH42.out;have:=CH43.out;have:=CH44.out;have:=CH45.out;have:=CH46.out;have:=CH47.out;have:=CH48.out;have:=CH72.out;omega) _) (show g_b2 ≠ g_b15 by have:=HL_b2.out;have:=HG_b15.out;have:=CH0.out;have:=CH1.out;have:=CH2.out;have:=CH3.out;have:=CH4.out;have:=CH28.out;have:=CH29.out;have:=CH30.out;have:=CH31.out;have:=CH32.out;have:=CH33.out;have:=CH34.out;have:=CH35.out;have:=CH36.out;have:=CH37.out;have:=CH38.out;have:=CH39.out;have:=CH40.out;have:=CH41.out;have:=CH42.out;have:=CH43.out;have:=CH44.out;have:=CH45.out;have:=CH46.out;have:=CH47.out;have:=CH48.out;have:=CH72.out;omega) _))
 have n_BK_b3:=Aside0.mk (show ((((w72.setCell ⟨g_b15,0,none⟩ (.int .i64 r0)).setCell ⟨g_b15,1,none⟩ (.string r1)).setCell ⟨g_b15,2,none⟩ (.int .i64 r2)).setCell ⟨g_b15,3,none⟩ (.slice A_k0 xs.length c_k0)).heap[g_b3]? = some (.cells #[.int .i64 t.f0,.string t.f1,.int .i64 t.f2,.slice A_T t.f3.length c_T] 24 (0,0)) from (blk_far (blk_far (blk_far (blk_far BK_b3.out (show g_b3 ≠ g_b15 by have:=HL_b3.out;have:=HG_b15.out;have:=CH0.out;have:=CH1.out;have:=CH2.out;have:=CH3.out;have:=CH4.out;have:=CH28.out;have:=CH29.out;have:=CH30.out;have:=CH31.out;have:=CH32.out;have:=CH33.out;have:=CH34.out;have:=CH35.out;have:=CH36.out;have:=CH37.out;have:=CH38.out;have:=CH39.out;have:=CH40.out;have:=CH41.out;have:=CH42.out;have:=CH43.out;have:=CH44.out;have:=CH45.out;have:=CH46.out;have:=CH47.out;have:=CH48.out;have:=CH72.out;omega) _) (show g_b3 ≠ g_b15 by have:=HL_b3.out;have:=HG_b15.out;have:=CH0.out;have:=CH1.out;have:=CH2.out;have:=CH3.out;have:=CH4.out;have:=CH28.out;have:=CH29.out;have:=CH30.out;have:=CH31.out;have:=CH32.out;have:=CH33.out;have:=CH34.out;have:=CH35.out;have:=CH36.out;have:=CH37.out;have:=CH38.out;have:=CH39.out;have:=CH40.out;have:=CH41.out;have:=CH42.out;have:=CH43.out;have:=CH44.out;have:=CH45.out;have:=CH46.out;have:=CH47.out;have:=CH48.out;have:=CH72.out;omega) _) (show g_b3 ≠ g_b15 by have:=HL_b3.out;have:=HG_b15.out;have:=CH0.out;have:=CH1.out;have:=CH2.out;have:=CH3.out;have:=CH4.out;have:=CH28.out;have:=CH29.out;have:=CH30.out;have:=CH31.out;have:=CH32.out;have:=CH33.out;have:=CH34.out;have:=CH35.out;have:=CH36.out;have:=CH37.out;have:=CH38.out;have:=CH39.out;have:=CH40.out;have:=CH41.out;have:=CH42.out;have:=CH43.out;have:=CH44.out;have:=CH45.out;have:=CH46.out;have:=CH47.out;have:=CH48.out;have:=CH72.out;omega) _) (show g_b3 ≠ g_b15 by have:=HL_b3.out;have:=HG_b15.out;have:=CH0.out;have:=CH1.out;have:=CH2.out;have:=CH3.out;have:=CH4.out;have:=CH28.out;have:=CH29.out;have:=CH30.out;have:=CH31.out;have:=CH32.out;have:=CH33.out;have:=CH34.out;have:=CH35.out;have:=CH36.out;have:=CH37.out;have:=CH38.out;have:=CH39.out;have:=CH40.out;have:=CH41.out;have:=CH42.out;have:=CH43.out;have:=CH44.out;have:=CH45.out;have:=CH46.out;have:=CH47.out;have:=CH48.out;have:=CH72.out;omega) _))
 have n_BK_b6:=Aside0.mk (show ((((w72.setCell ⟨g_b15,0,none⟩ (.int .i64 r0)).setCell ⟨g_b15,1,none⟩ (.string r1)).setCell ⟨g_b15,2,none⟩ (.int .i64 r2)).setCell ⟨g_b15,3,none⟩ (.slice A_k0 xs.length c_k0)).heap[g_b6]? = some (.cells #[.int .i64 r0,.string r1,.int .i64 r2,.slice A_w0 xs.length c_w0] 29 (0,0)) from (blk_far (blk_far (blk_far (blk_far BK_b6.out (show g_b6 ≠ g_b15 by have:=HL_b6.out;have:=HG_b15.out;have:=CH0.out;have:=CH1.out;have:=CH2.out;have:=CH3.out;have:=CH4.out;have:=CH28.out;have:=CH29.out;have:=CH30.out;have:=CH31.out;have:=CH32.out;have:=CH33.out;have:=CH34.out;have:=CH35.out;have:=CH36.out;have:=CH37.out;have:=CH38.out;have:=CH39.out;have:=CH40.out;have:=CH41.out;have:=CH42.out;have:=CH43.out;have:=CH44.out;have:=CH45.out;have:=CH46.out;have:=CH47.out;have:=CH48.out;have:=CH72.out;omega) _) (show g_b6 ≠ g_b15 by have:=HL_b6.out;have:=HG_b15.out;have:=CH0.out;have:=CH1.out;have:=CH2.out;have:=CH3.out;have:=CH4.out;have:=CH28.out;have:=CH29.out;have:=CH30.out;have:=CH31.out;have:=CH32.out;have:=CH33.out;have:=CH34.out;have:=CH35.out;have:=CH36.out;have:=CH37.out;have:=CH38.out;have:=CH39.out;have:=CH40.out;have:=CH41.out;have:=CH42.out;have:=CH43.out;have:=CH44.out;have:=CH45.out;have:=CH46.out;have:=CH47.out;have:=CH48.out;have:=CH72.out;omega) _) (show g_b6 ≠ g_b15 by have:=HL_b6.out;have:=HG_b15.out;have:=CH0.out;have:=CH1.out;have:=CH2.out;have:=CH3.out;have:=CH4.out;have:=CH28.out;have:=CH29.out;have:=CH30.out;have:=CH31.out;have:=CH32.out;have:=CH33.out;have:=CH34.out;have:=CH35.out;have:=CH36.out;have:=CH37.out;have:=CH38.out;have:=CH39.out;have:=CH40.out;have:=CH41.out;have:=CH42.out;have:=CH43.out;have:=CH44.out;have:=CH45.out;have:=CH46.out;have:=CH47.out;have:=CH48.out;have:=CH72.out;omega) _) (show g_b6 ≠ g_b15 by have:=HL_b6.out;have:=HG_b15.out;have:=CH0.out;have:=CH1.out;have:=CH2.out;have:=CH3.out;have:=CH4.out;have:=CH28.out;have:=CH29.out;have:=CH30.out;have:=CH31.out;have:=CH32.out;have:=CH33.out;have:=CH34.out;have:=CH35.out;have:=CH36.out;have:=CH37.out;have:=CH38.out;have:=CH39.out;have:=CH40.out;have:=CH41.out;have:=CH42.out;have:=CH43.out;have:=CH44.out;have:=CH45.out;have:=CH46.out;have:=CH47.out;have:=CH48.out;have:=CH72.out;omega) _))
 have n_BK_b8:=Aside0.mk (show ((((w72.setCell ⟨g_b15,0,none⟩ (.int .i64 r0)).setCell ⟨g_b15,1,none⟩ (.string r1)).setCell ⟨g_b15,2,none⟩ (.int .i64 r2)).setCell ⟨g_b15,3,none⟩ (.slice A_k0 xs.length c_k0)).heap[g_b8]? = some (.cells #[.slice A_x0 xb.length c_x0] 35 (0,0)) from (blk_far (blk_far (blk_far (blk_far BK_b8.out (show g_b8 ≠ g_b15 by have:=HL_b8.out;have:=HG_b15.out;have:=CH0.out;have:=CH1.out;have:=CH2.out;have:=CH3.out;have:=CH4.out;have:=CH28.out;have:=CH29.out;have:=CH30.out;have:=CH31.out;have:=CH32.out;have:=CH33.out;have:=CH34.out;have:=CH35.out;have:=CH36.out;have:=CH37.out;have:=CH38.out;have:=CH39.out;have:=CH40.out;have:=CH41.out;have:=CH42.out;have:=CH43.out;have:=CH44.out;have:=CH45.out;have:=CH46.out;have:=CH47.out;have:=CH48.out;have:=CH72.out;omega) _) (show g_b8 ≠ g_b15 by have:=HL_b8.out;have:=HG_b15.out;have:=CH0.out;have:=CH1.out;have:=CH2.out;have:=CH3.out;have:=CH4.out;have:=CH28.out;have:=CH29.out;have:=CH30.out;have:=CH31.out;have:=CH32.out;have:=CH33.out;have:=CH34.out;have:=CH35.out;have:=CH36.out;have:=CH37.out;have:=CH38.out;have:=CH39.out;have:=CH40.out;have:=CH41.out;have:=CH42.out;have:=CH43.out;have:=CH44.out;have:=CH45.out;have:=CH46.out;have:=CH47.out;have:=CH48.out;have:=CH72.out;omega) _) (show g_b8 ≠ g_b15 by have:=HL_b8.out;have:=HG_b15.out;have:=CH0.out;have:=CH1.out;have:=CH2.out;have:=CH3.out;have:=CH4.out;have:=CH28.out;have:=CH29.out;have:=CH30.out;have:=CH31.out;have:=CH32.out;have:=CH33.out;have:=CH34.out;have:=CH35.out;have:=CH36.out;have:=CH37.out;have:=CH38.out;have:=CH39.out;have:=CH40.out;have:=CH41.out;have:=CH42.out;have:=CH43.out;have:=CH44.out;have:=CH45.out;have:=CH46.out;have:=CH47.out;have:=CH48.out;have:=CH72.out;omega) _) (show g_b8 ≠ g_b15 by have:=HL_b8.out;have:=HG_b15.out;have:=CH0.out;have:=CH1.out;have:=CH2.out;have:=CH3.out;have:=CH4.out;have:=CH28.out;have:=CH29.out;have:=CH30.out;have:=CH31.out;have:=CH32.out;have:=CH33.out;have:=CH34.out;have:=CH35.out;have:=CH36.out;have:=CH37.out;have:=CH38.out;have:=CH39.out;have:=CH40.out;have:=CH41.out;have:=CH42.out;have:=CH43.out;have:=CH44.out;have:=CH45.out;have:=CH46.out;have:=CH47.out;have:=CH48.out;have:=CH72.out;omega) _))
 have n_BK_b9:=Aside0.mk (show ((((w72.setCell ⟨g_b15,0,none⟩ (.int .i64 r0)).setCell ⟨g_b15,1,none⟩ (.string r1)).setCell ⟨g_b15,2,none⟩ (.int .i64 r2)).setCell ⟨g_b15,3,none⟩ (.slice A_k0 xs.length c_k0)).heap[g_b9]? = some (.cells #[.int .i64 t.f0,.string t.f1,.int .i64 t.f2,.slice A_x1 xt.length c_x1] 29 (0,0)) from (blk_far (blk_far (blk_far (blk_far BK_b9.out (show g_b9 ≠ g_b15 by have:=HL_b9.out;have:=HG_b15.out;have:=CH0.out;have:=CH1.out;have:=CH2.out;have:=CH3.out;have:=CH4.out;have:=CH28.out;have:=CH29.out;have:=CH30.out;have:=CH31.out;have:=CH32.out;have:=CH33.out;have:=CH34.out;have:=CH35.out;have:=CH36.out;have:=CH37.out;have:=CH38.out;have:=CH39.out;have:=CH40.out;have:=CH41.out;have:=CH42.out;have:=CH43.out;have:=CH44.out;have:=CH45.out;have:=CH46.out;have:=CH47.out;have:=CH48.out;have:=CH72.out;omega) _) (show g_b9 ≠ g_b15 by have:=HL_b9.out;have:=HG_b15.out;have:=CH0.out;have:=CH1.out;have:=CH2.out;have:=CH3.out;have:=CH4.out;have:=CH28.out;have:=CH29.out;have:=CH30.out;have:=CH31.out;have:=CH32.out;have:=CH33.out;have:=CH34.out;have:=CH35.out;have:=CH36.out;have:=CH37.out;have:=CH38.out;have:=CH39.out;have:=CH40.out;have:=CH41.out;have:=CH42.out;have:=CH43.out;have:=CH44.out;have:=CH45.out;have:=CH46.out;have:=CH47.out;have:=CH48.out;have:=CH72.out;omega) _) (show g_b9 ≠ g_b15 by have:=HL_b9.out;have:=HG_b15.out;have:=CH0.out;have:=CH1.out;have:=CH2.out;have:=CH3.out;have:=CH4.out;have:=CH28.out;have:=CH29.out;have:=CH30.out;have:=CH31.out;have:=CH32.out;have:=CH33.out;have:=CH34.out;have:=CH35.out;have:=CH36.out;have:=CH37.out;have:=CH38.out;have:=CH39.out;have:=CH40.out;have:=CH41.out;have:=CH42.out;have:=CH43.out;have:=CH44.out;have:=CH45.out;have:=CH46.out;have:=CH47.out;have:=CH48.out;have:=CH72.out;omega) _) (show g_b9 ≠ g_b15 by have:=HL_b9.out;have:=HG_b15.out;have:=CH0.out;have:=CH1.out;have:=CH2.out;have:=CH3.out;have:=CH4.out;have:=CH28.out;have:=CH29.out;have:=CH30.out;have:=CH31.out;have:=CH32.out;have:=CH33.out;have:=CH34.out;have:=CH35.out;have:=CH36.out;have:=CH37.out;have:=CH38.out;have:=CH39.out;have:=CH40.out;have:=CH41.out;have:=CH42.out;have:=CH43.out;have:=CH44.out;have:=CH45.out;have:=CH46.out;have:=CH47.out;have:=CH48.out;have:=CH72.out;omega) _))
 have n_BK_b10:=Aside0.mk (show ((((w72.setCell ⟨g_b15,0,none⟩ (.int .i64 r0)).setCell ⟨g_b15,1,none⟩ (.string r1)).setCell ⟨g_b15,2,none⟩ (.int .i64 r2)).setCell ⟨g_b15,3,none⟩ (.slice A_k0 xs.length c_k0)).heap[g_b10]? = some (.cells #[.int .i64 r0,.string r1,.int .i64 r2,.slice A_g0 xs.length c_g0] 29 (0,0)) from (blk_far (blk_far (blk_far (blk_far BK_b10.out (show g_b10 ≠ g_b15 by have:=HL_b10.out;have:=HG_b15.out;have:=CH0.out;have:=CH1.out;have:=CH2.out;have:=CH3.out;have:=CH4.out;have:=CH28.out;have:=CH29.out;have:=CH30.out;have:=CH31.out;have:=CH32.out;have:=CH33.out;have:=CH34.out;have:=CH35.out;have:=CH36.out;have:=CH37.out;have:=CH38.out;have:=CH39.out;have:=CH40.out;have:=CH41.out;have:=CH42.out;have:=CH43.out;have:=CH44.out;have:=CH45.out;have:=CH46.out;have:=CH47.out;have:=CH48.out;have:=CH72.out;omega) _) (show g_b10 ≠ g_b15 by have:=HL_b10.out;have:=HG_b15.out;have:=CH0.out;have:=CH1.out;have:=CH2.out;have:=CH3.out;have:=CH4.out;have:=CH28.out;have:=CH29.out;have:=CH30.out;have:=CH31.out;have:=CH32.out;have:=CH33.out;have:=CH34.out;have:=CH35.out;have:=CH36.out;have:=CH37.out;have:=CH38.out;have:=CH39.out;have:=CH40.out;have:=CH41.out;have:=CH42.out;have:=CH43.out;have:=CH44.out;have:=CH45.out;have:=CH46.out;have:=CH47.out;have:=CH48.out;have:=CH72.out;omega) _) (show g_b10 ≠ g_b15 by have:=HL_b10.out;have:=HG_b15.out;have:=CH0.out;have:=CH1.out;have:=CH2.out;have:=CH3.out;have:=CH4.out;have:=CH28.out;have:=CH29.out;have:=CH30.out;have:=CH31.out;have:=CH32.out;have:=CH33.out;have:=CH34.out;have:=CH35.out;have:=CH36.out;have:=CH37.out;have:=CH38.out;have:=CH39.out;have:=CH40.out;have:=CH41.out;have:=CH42.out;have:=CH43.out;have:=CH44.out;have:=CH45.out;have:=CH46.out;have:=CH47.out;have:=CH48.out;have:=CH72.out;omega) _) (show g_b10 ≠ g_b15 by have:=HL_b10.out;have:=HG_b15.out;have:=CH0.out;have:=CH1.out;have:=CH2.out;have:=CH3.out;have:=CH4.out;have:=CH28.out;have:=CH29.out;have:=CH30.out;have:=CH31.out;have:=CH32.out;have:=CH33.out;have:=CH34.out;have:=CH35.out;have:=CH36.out;have:=CH37.out;have:=CH38.out;have:=CH39.out;have:=CH40.out;have:=CH41.out;have:=CH42.out;have:=CH43.out;have:=CH44.out;have:=CH45.out;have:=CH46.out;have:=CH47.out;have:=CH48.out;have:=CH72.out;omega) _))
 have n_RW_w0:=Aside0.mk (show Kd.S kD29 29 ((((w72.setCell ⟨g_b15,0,none⟩ (.int .i64 r0)).setCell ⟨g_b15,1,none⟩ (.string r1)).setCell ⟨g_b15,2,none⟩ (.int .i64 r2)).setCell ⟨g_b15,3,none⟩ (.slice A_k0 xs.length c_k0)) w5.heap.size (fun k_ => (w5.heap.size ≤ k_ ∧ k_ < w28.heap.size) ∧ k_ ≠ g_b6) (.slice A_w0 xs.length c_w0) xs from (Kd.S_far (p:=⟨g_b15,3,none⟩) (Kd.S_far (p:=⟨g_b15,2,none⟩) (Kd.S_far (p:=⟨g_b15,1,none⟩) (Kd.S_far (p:=⟨g_b15,0,none⟩) RW_w0.out (fun k_ hk_ => show k_ ≠ g_b15 by have:=HG_b15.out;have:=CH0.out;have:=CH1.out;have:=CH2.out;have:=CH3.out;have:=CH4.out;have:=CH28.out;have:=CH29.out;have:=CH30.out;have:=CH31.out;have:=CH32.out;have:=CH33.out;have:=CH34.out;have:=CH35.out;have:=CH36.out;have:=CH37.out;have:=CH38.out;have:=CH39.out;have:=CH40.out;have:=CH41.out;have:=CH42.out;have:=CH43.out;have:=CH44.out;have:=CH45.out;have:=CH46.out;have:=CH47.out;have:=CH48.out;have:=CH72.out;omega) _) (fun k_ hk_ => show k_ ≠ g_b15 by have:=HG_b15.out;have:=CH0.out;have:=CH1.out;have:=CH2.out;have:=CH3.out;have:=CH4.out;have:=CH28.out;have:=CH29.out;have:=CH30.out;have:=CH31.out;have:=CH32.out;have:=CH33.out;have:=CH34.out;have:=CH35.out;have:=CH36.out;have:=CH37.out;have:=CH38.out;have:=CH39.out;have:=CH40.out;have:=CH41.out;have:=CH42.out;have:=CH43.out;have:=CH44.out;have:=CH45.out;have:=CH46.out;have:=CH47.out;have:=CH48.out;have:=CH72.out;omega) _) (fun k_ hk_ => show k_ ≠ g_b15 by have:=HG_b15.out;have:=CH0.out;have:=CH1.out;have:=CH2.out;have:=CH3.out;have:=CH4.out;have:=CH28.out;have:=CH29.out;have:=CH30.out;have:=CH31.out;have:=CH32.out;have:=CH33.out;have:=CH34.out;have:=CH35.out;have:=CH36.out;have:=CH37.out;have:=CH38.out;have:=CH39.out;have:=CH40.out;have:=CH41.out;have:=CH42.out;have:=CH43.out;have:=CH44.out;have:=CH45.out;have:=CH46.out;have:=CH47.out;have:=CH48.out;have:=CH72.out;omega) _) (fun k_ hk_ => show k_ ≠ g_b15 by have:=HG_b15.out;have:=CH0.out;have:=CH1.out;have:=CH2.out;have:=CH3.out;have:=CH4.out;have:=CH28.out;have:=CH29.out;have:=CH30.out;have:=CH31.out;have:=CH32.out;have:=CH33.out;have:=CH34.out;have:=CH35.out;have:=CH36.out;have:=CH37.out;have:=CH38.out;have:=CH39.out;have:=CH40.out;have:=CH41.out;have:=CH42.out;have:=CH43.out;have:=CH44.out;have:=CH45.out;have:=CH46.out;have:=CH47.out;have:=CH48.out;have:=CH72.out;omega) _))
 have n_RW_x0:=Aside0.mk (show Kd.S kD29 29 ((((w72.setCell ⟨g_b15,0,none⟩ (.int .i64 r0)).setCell ⟨g_b15,1,none⟩ (.string r1)).setCell ⟨g_b15,2,none⟩ (.int .i64 r2)).setCell ⟨g_b15,3,none⟩ (.slice A_k0 xs.length c_k0)) w30.heap.size (fun k_ => w30.heap.size ≤ k_ ∧ k_ < w31.heap.size) (.slice A_x0 xb.length c_x0) yb from (Kd.S_far (p:=⟨g_b15,3,none⟩) (Kd.S_far (p:=⟨g_b15,2,none⟩) (Kd.S_far (p:=⟨g_b15,1,none⟩) (Kd.S_far (p:=⟨g_b15,0,none⟩) RW_x0.out (fun k_ hk_ => show k_ ≠ g_b15 by have:=HG_b15.out;have:=CH0.out;have:=CH1.out;have:=CH2.out;have:=CH3.out;have:=CH4.out;have:=CH28.out;have:=CH29.out;have:=CH30.out;have:=CH31.out;have:=CH32.out;have:=CH33.out;have:=CH34.out;have:=CH35.out;have:=CH36.out;have:=CH37.out;have:=CH38.out;have:=CH39.out;have:=CH40.out;have:=CH41.out;have:=CH42.out;have:=CH43.out;have:=CH44.out;have:=CH45.out;have:=CH46.out;have:=CH47.out;have:=CH48.out;have:=CH72.out;omega) _) (fun k_ hk_ => show k_ ≠ g_b15 by have:=HG_b15.out;have:=CH0.out;have:=CH1.out;have:=CH2.out;have:=CH3.out;have:=CH4.out;have:=CH28.out;have:=CH29.out;have:=CH30.out;have:=CH31.out;have:=CH32.out;have:=CH33.out;have:=CH34.out;have:=CH35.out;have:=CH36.out;have:=CH37.out;have:=CH38.out;have:=CH39.out;have:=CH40.out;have:=CH41.out;have:=CH42.out;have:=CH43.out;have:=CH44.out;have:=CH45.out;have:=CH46.out;have:=CH47.out;have:=CH48.out;have:=CH72.out;omega) _) (fun k_ hk_ => show k_ ≠ g_b15 by have:=HG_b15.out;have:=CH0.out;have:=CH1.out;have:=CH2.out;have:=CH3.out;have:=CH4.out;have:=CH28.out;have:=CH29.out;have:=CH30.out;have:=CH31.out;have:=CH32.out;have:=CH33.out;have:=CH34.out;have:=CH35.out;have:=CH36.out;have:=CH37.out;have:=CH38.out;have:=CH39.out;have:=CH40.out;have:=CH41.out;have:=CH42.out;have:=CH43.out;have:=CH44.out;have:=CH45.out;have:=CH46.out;have:=CH47.out;have:=CH48.out;have:=CH72.out;omega) _) (fun k_ hk_ => show k_ ≠ g_b15 by have:=HG_b15.out;have:=CH0.out;have:=CH1.out;have:=CH2.out;have:=CH3.out;have:=CH4.out;have:=CH28.out;have:=CH29.out;have:=CH30.out;have:=CH31.out;have:=CH32.out;have:=CH33.out;have:=CH34.out;have:=CH35.out;have:=CH36.out;have:=CH37.out;have:=CH38.out;have:=CH39.out;have:=CH40.out;have:=CH41.out;have:=CH42.out;have:=CH43.out;have:=CH44.out;have:=CH45.out;have:=CH46.out;have:=CH47.out;have:=CH48.out;have:=CH72.out;omega) _))
 have n_RW_x1:=Aside0.mk (show Kd.S kD29 29 ((((w72.setCell ⟨g_b15,0,none⟩ (.int .i64 r0)).setCell ⟨g_b15,1,none⟩ (.string r1)).setCell ⟨g_b15,2,none⟩ (.int .i64 r2)).setCell ⟨g_b15,3,none⟩ (.slice A_k0 xs.length c_k0)) w32.heap.size (fun k_ => w32.heap.size ≤ k_ ∧ k_ < w33.heap.size) (.slice A_x1 xt.length c_x1) yt from (Kd.S_far (p:=⟨g_b15,3,none⟩) (Kd.S_far (p:=⟨g_b15,2,none⟩) (Kd.S_far (p:=⟨g_b15,1,none⟩) (Kd.S_far (p:=⟨g_b15,0,none⟩) RW_x1.out (fun k_ hk_ => show k_ ≠ g_b15 by have:=HG_b15.out;have:=CH0.out;have:=CH1.out;have:=CH2.out;have:=CH3.out;have:=CH4.out;have:=CH28.out;have:=CH29.out;have:=CH30.out;have:=CH31.out;have:=CH32.out;have:=CH33.out;have:=CH34.out;have:=CH35.out;have:=CH36.out;have:=CH37.out;have:=CH38.out;have:=CH39.out;have:=CH40.out;have:=CH41.out;have:=CH42.out;have:=CH43.out;have:=CH44.out;have:=CH45.out;have:=CH46.out;have:=CH47.out;have:=CH48.out;have:=CH72.out;omega) _) (fun k_ hk_ => show k_ ≠ g_b15 by have:=HG_b15.out;have:=CH0.out;have:=CH1.out;have:=CH2.out;have:=CH3.out;have:=CH4.out;have:=CH28.out;have:=CH29.out;have:=CH30.out;have:=CH31.out;have:=CH32.out;have:=CH33.out;have:=CH34.out;have:=CH35.out;have:=CH36.out;have:=CH37.out;have:=CH38.out;have:=CH39.out;have:=CH40.out;have:=CH41.out;have:=CH42.out;have:=CH43.out;have:=CH44.out;have:=CH45.out;have:=CH46.out;have:=CH47.out;have:=CH48.out;have:=CH72.out;omega) _) (fun k_ hk_ => show k_ ≠ g_b15 by have:=HG_b15.out;have:=CH0.out;have:=CH1.out;have:=CH2.out;have:=CH3.out;have:=CH4.out;have:=CH28.out;have:=CH29.out;have:=CH30.out;have:=CH31.out;have:=CH32.out;have:=CH33.out;have:=CH34.out;have:=CH35.out;have:=CH36.out;have:=CH37.out;have:=CH38.out;have:=CH39.out;have:=CH40.out;have:=CH41.out;have:=CH42.out;have:=CH43.out;have:=CH44.out;have:=CH45.out;have:=CH46.out;have:=CH47.out;have:=CH48.out;have:=CH72.out;omega) _) (fun k_ hk_ => show k_ ≠ g_b15 by have:=HG_b15.out;have:=CH0.out;have:=CH1.out;have:=CH2.out;have:=CH3.out;have:=CH4.out;have:=CH28.out;have:=CH29.out;have:=CH30.out;have:=CH31.out;have:=CH32.out;have:=CH33.out;have:=CH34.out;have:=CH35.out;have:=CH36.out;have:=CH37.out;have:=CH38.out;have:=CH39.out;have:=CH40.out;have:=CH41.out;have:=CH42.out;have:=CH43.out;have:=CH44.out;have:=CH45.out;have:=CH46.out;have:=CH47.out;have:=CH48.out;have:=CH72.out;omega) _))
 have n_RW_g0:=Aside0.mk (show Kd.S kD29 29 ((((w72.setCell ⟨g_b15,0,none⟩ (.int .i64 r0)).setCell ⟨g_b15,1,none⟩ (.string r1)).setCell ⟨g_b15,2,none⟩ (.int .i64 r2)).setCell ⟨g_b15,3,none⟩ (.slice A_k0 xs.length c_k0)) w34.heap.size (fun k_ => w34.heap.size ≤ k_ ∧ k_ < w35.heap.size) (.slice A_g0 xs.length c_g0) ys from (Kd.S_far (p:=⟨g_b15,3,none⟩) (Kd.S_far (p:=⟨g_b15,2,none⟩) (Kd.S_far (p:=⟨g_b15,1,none⟩) (Kd.S_far (p:=⟨g_b15,0,none⟩) RW_g0.out (fun k_ hk_ => show k_ ≠ g_b15 by have:=HG_b15.out;have:=CH0.out;have:=CH1.out;have:=CH2.out;have:=CH3.out;have:=CH4.out;have:=CH28.out;have:=CH29.out;have:=CH30.out;have:=CH31.out;have:=CH32.out;have:=CH33.out;have:=CH34.out;have:=CH35.out;have:=CH36.out;have:=CH37.out;have:=CH38.out;have:=CH39.out;have:=CH40.out;have:=CH41.out;have:=CH42.out;have:=CH43.out;have:=CH44.out;have:=CH45.out;have:=CH46.out;have:=CH47.out;have:=CH48.out;have:=CH72.out;omega) _) (fun k_ hk_ => show k_ ≠ g_b15 by have:=HG_b15.out;have:=CH0.out;have:=CH1.out;have:=CH2.out;have:=CH3.out;have:=CH4.out;have:=CH28.out;have:=CH29.out;have:=CH30.out;have:=CH31.out;have:=CH32.out;have:=CH33.out;have:=CH34.out;have:=CH35.out;have:=CH36.out;have:=CH37.out;have:=CH38.out;have:=CH39.out;have:=CH40.out;have:=CH41.out;have:=CH42.out;have:=CH43.out;have:=CH44.out;have:=CH45.out;have:=CH46.out;have:=CH47.out;have:=CH48.out;have:=CH72.out;omega) _) (fun k_ hk_ => show k_ ≠ g_b15 by have:=HG_b15.out;have:=CH0.out;have:=CH1.out;have:=CH2.out;have:=CH3.out;have:=CH4.out;have:=CH28.out;have:=CH29.out;have:=CH30.out;have:=CH31.out;have:=CH32.out;have:=CH33.out;have:=CH34.out;have:=CH35.out;have:=CH36.out;have:=CH37.out;have:=CH38.out;have:=CH39.out;have:=CH40.out;have:=CH41.out;have:=CH42.out;have:=CH43.out;have:=CH44.out;have:=CH45.out;have:=CH46.out;have:=CH47.out;have:=CH48.out;have:=CH72.out;omega) _) (fun k_ hk_ => show k_ ≠ g_b15 by have:=HG_b15.out;have:=CH0.out;have:=CH1.out;have:=CH2.out;have:=CH3.out;have:=CH4.out;have:=CH28.out;have:=CH29.out;have:=CH30.out;have:=CH31.out;have:=CH32.out;have:=CH33.out;have:=CH34.out;have:=CH35.out;have:=CH36.out;have:=CH37.out;have:=CH38.out;have:=CH39.out;have:=CH40.out;have:=CH41.out;have:=CH42.out;have:=CH43.out;have:=CH44.out;have:=CH45.out;have:=CH46.out;have:=CH47.out;have:=CH48.out;have:=CH72.out;omega) _))
 have n_RW_k0:=Aside0.mk (show Kd.S kD29 29 ((((w72.setCell ⟨g_b15,0,none⟩ (.int .i64 r0)).setCell ⟨g_b15,1,none⟩ (.string r1)).setCell ⟨g_b15,2,none⟩ (.int .i64 r2)).setCell ⟨g_b15,3,none⟩ (.slice A_k0 xs.length c_k0)) w49.heap.size (fun k_ => (w49.heap.size ≤ k_ ∧ k_ < w72.heap.size) ∧ k_ ≠ g_b15) (.slice A_k0 xs.length c_k0) xs from (Kd.S_far (p:=⟨g_b15,3,none⟩) (Kd.S_far (p:=⟨g_b15,2,none⟩) (Kd.S_far (p:=⟨g_b15,1,none⟩) (Kd.S_far (p:=⟨g_b15,0,none⟩) RW_k0.out (fun k_ hk_ => show k_ ≠ g_b15 by have:=HG_b15.out;have:=CH0.out;have:=CH1.out;have:=CH2.out;have:=CH3.out;have:=CH4.out;have:=CH28.out;have:=CH29.out;have:=CH30.out;have:=CH31.out;have:=CH32.out;have:=CH33.out;have:=CH34.out;have:=CH35.out;have:=CH36.out;have:=CH37.out;have:=CH38.out;have:=CH39.out;have:=CH40.out;have:=CH41.out;have:=CH42.out;have:=CH43.out;have:=CH44.out;have:=CH45.out;have:=CH46.out;have:=CH47.out;have:=CH48.out;have:=CH72.out;omega) _) (fun k_ hk_ => show k_ ≠ g_b15 by have:=HG_b15.out;have:=CH0.out;have:=CH1.out;have:=CH2.out;have:=CH3.out;have:=CH4.out;have:=CH28.out;have:=CH29.out;have:=CH30.out;have:=CH31.out;have:=CH32.out;have:=CH33.out;have:=CH34.out;have:=CH35.out;have:=CH36.out;have:=CH37.out;have:=CH38.out;have:=CH39.out;have:=CH40.out;have:=CH41.out;have:=CH42.out;have:=CH43.out;have:=CH44.out;have:=CH45.out;have:=CH46.out;have:=CH47.out;have:=CH48.out;have:=CH72.out;omega) _) (fun k_ hk_ => show k_ ≠ g_b15 by have:=HG_b15.out;have:=CH0.out;have:=CH1.out;have:=CH2.out;have:=CH3.out;have:=CH4.out;have:=CH28.out;have:=CH29.out;have:=CH30.out;have:=CH31.out;have:=CH32.out;have:=CH33.out;have:=CH34.out;have:=CH35.out;have:=CH36.out;have:=CH37.out;have:=CH38.out;have:=CH39.out;have:=CH40.out;have:=CH41.out;have:=CH42.out;have:=CH43.out;have:=CH44.out;have:=CH45.out;have:=CH46.out;have:=CH47.out;have:=CH48.out;have:=CH72.out;omega) _) (fun k_ hk_ => show k_ ≠ g_b15 by have:=HG_b15.out;have:=CH0.out;have:=CH1.out;have:=CH2.out;have:=CH3.out;have:=CH4.out;have:=CH28.out;have:=CH29.out;have:=CH30.out;have:=CH31.out;have:=CH32.out;have:=CH33.out;have:=CH34.out;have:=CH35.out;have:=CH36.out;have:=CH37.out;have:=CH38.out;have:=CH39.out;have:=CH40.out;have:=CH41.out;have:=CH42.out;have:=CH43.out;have:=CH44.out;have:=CH45.out;have:=CH46.out;have:=CH47.out;have:=CH48.out;have:=CH72.out;omega) _))
 have BK_b15 : Aside0 (((((w72.setCell ⟨g_b15,0,none⟩ (.int .i64 r0)).setCell ⟨g_b15,1,none⟩ (.string r1)).setCell ⟨g_b15,2,none⟩ (.int .i64 r2)).setCell ⟨g_b15,3,none⟩ (.slice A_k0 xs.length c_k0)).heap[g_b15]? = some (.cells #[.int .i64 r0,.string r1,.int .i64 r2,.slice A_k0 xs.length c_k0] 29 (0,0))):=⟨by refine blk_put (cs:=#[.int .i64 r0,.string r1,.int .i64 r2,.slice none 0 0]) ?_ 3 _ rfl;refine blk_put (cs:=#[.int .i64 r0,.string r1,.int .i64 0,.slice none 0 0]) ?_ 2 _ rfl;refine blk_put (cs:=#[.int .i64 r0,.string (⟨#[]⟩ : ByteArray),.int .i64 0,.slice none 0 0]) ?_ 1 _ rfl;refine blk_put (cs:=#[.int .i64 0,.string (⟨#[]⟩ : ByteArray),.int .i64 0,.slice none 0 0]) ?_ 0 _ rfl;exact BZ.out⟩
 have CH73:=Aside0.mk (show w72.heap.size ≤ ((((w72.setCell ⟨g_b15,0,none⟩ (.int .i64 r0)).setCell ⟨g_b15,1,none⟩ (.string r1)).setCell ⟨g_b15,2,none⟩ (.int .i64 r2)).setCell ⟨g_b15,3,none⟩ (.slice A_k0 xs.length c_k0)).heap.size by simp [World.setCell])
 have HL_b15:=Aside0.mk (show g_b15 < ((((w72.setCell ⟨g_b15,0,none⟩ (.int .i64 r0)).setCell ⟨g_b15,1,none⟩ (.string r1)).setCell ⟨g_b15,2,none⟩ (.int .i64 r2)).setCell ⟨g_b15,3,none⟩ (.slice A_k0 xs.length c_k0)).heap.size from blk_lt BK_b15.out)
 clear BZ HGB HB BK_b2 BK_b3 BK_b6 BK_b8 BK_b9 BK_b10 RW_w0 RW_x0 RW_x1 RW_g0 RW_k0
 have HB:=n_HB
 have BK_b2:=n_BK_b2
 have BK_b3:=n_BK_b3
 have BK_b6:=n_BK_b6
 have BK_b8:=n_BK_b8
 have BK_b9:=n_BK_b9
 have BK_b10:=n_BK_b10
 have RW_w0:=n_RW_w0
 have RW_x0:=n_RW_x0
 have RW_x1:=n_RW_x1
 have RW_g0:=n_RW_g0
 have RW_k0:=n_RW_k0
 clear n_HB n_BK_b2 n_BK_b3 n_BK_b6 n_BK_b8 n_BK_b9 n_BK_b10 n_RW_w0 n_RW_x0 n_RW_x1 n_RW_g0 n_RW_k0
 generalize ((((w72.setCell ⟨g_b15,0,none⟩ (.int .i64 r0)).setCell ⟨g_b15,1,none⟩ (.string r1)).setCell ⟨g_b15,2,none⟩ (.int .i64 r2)).setCell ⟨g_b15,3,none⟩ (.slice A_k0 xs.length c_k0)) = w74 at HB BK_b2 BK_b3 BK_b6 BK_b8 BK_b9 BK_b10 RW_w0 RW_x0 RW_x1 RW_g0 RW_k0 BK_b15 CH73 HL_b15 ⊢
 have hc_b6_0 : w74.cell? ⟨g_b6,0,none⟩ = some (.int .i64 r0):=(blk_cell BK_b6.out 0).trans rfl
 have hc_b6_1 : w74.cell? ⟨g_b6,1,none⟩ = some (.string r1):=(blk_cell BK_b6.out 1).trans rfl
 have hc_b6_2 : w74.cell? ⟨g_b6,2,none⟩ = some (.int .i64 r2):=(blk_cell BK_b6.out 2).trans rfl
 have hc_b6_3 : w74.cell? ⟨g_b6,3,none⟩ = some (.slice A_w0 xs.length c_w0):=(blk_cell BK_b6.out 3).trans rfl
 have hc_b15_0 : w74.cell? ⟨g_b15,0,none⟩ = some (.int .i64 r0):=(blk_cell BK_b15.out 0).trans rfl
 have hc_b15_1 : w74.cell? ⟨g_b15,1,none⟩ = some (.string r1):=(blk_cell BK_b15.out 1).trans rfl
 have hc_b15_2 : w74.cell? ⟨g_b15,2,none⟩ = some (.int .i64 r2):=(blk_cell BK_b15.out 2).trans rfl
 have hc_b15_3 : w74.cell? ⟨g_b15,3,none⟩ = some (.slice A_k0 xs.length c_k0):=(blk_cell BK_b15.out 3).trans rfl
 go_wp2_with (first
  | ((with_reducible refine gate_callee (f := 19) rfl ?_); refine goesL_ (some 104) rfl rfl Try.func19 (by kernel_rfl) rfl #[.agg #[.int .i64 r0, .string r1, .int .i64 r2, .slice A_k0 xs.length c_k0], .agg #[.int .i64 r0, .string r1, .int .i64 r2, .slice A_w0 xs.length c_w0]] rfl (by (try simp only [List.map_toArray, List.map_cons, List.map_nil]); first | done | rfl) ?_; refine (c19 _ _ _ _ _ (readS RW_k0.out).1 (readS RW_k0.out).2 (readS RW_w0.out).1 (readS RW_w0.out).2).mono ?_; rintro e w75 ⟨rfl, hb⟩; refine ⟨_, rfl, ?_⟩; have CH74 := Aside0.mk hb.size; have n0_ := Aside0.mk (below_step HB.out hb); have n1_ := Aside0.mk (blk_below BK_b2.out hb); have n2_ := Aside0.mk (blk_below BK_b3.out hb); have n3_ := Aside0.mk (blk_below BK_b6.out hb); have n4_ := Aside0.mk (blk_below BK_b8.out hb); have n5_ := Aside0.mk (blk_below BK_b9.out hb); have n6_ := Aside0.mk (blk_below BK_b10.out hb); have n7_ := Aside0.mk (blk_below BK_b15.out hb); have n8_ := Aside0.mk (Kd.S_below RW_w0.out hb); have n9_ := Aside0.mk (Kd.S_below RW_x0.out hb); have n10_ := Aside0.mk (Kd.S_below RW_x1.out hb); have n11_ := Aside0.mk (Kd.S_below RW_g0.out hb); have n12_ := Aside0.mk (Kd.S_below RW_k0.out hb); clear HB BK_b2 BK_b3 BK_b6 BK_b8 BK_b9 BK_b10 BK_b15 RW_w0 RW_x0 RW_x1 RW_g0 RW_k0; have HB := n0_; have BK_b2 := n1_; have BK_b3 := n2_; have BK_b6 := n3_; have BK_b8 := n4_; have BK_b9 := n5_; have BK_b10 := n6_; have BK_b15 := n7_; have RW_w0 := n8_; have RW_x0 := n9_; have RW_x1 := n10_; have RW_g0 := n11_; have RW_k0 := n12_; clear n0_ n1_ n2_ n3_ n4_ n5_ n6_ n7_ n8_ n9_ n10_ n11_ n12_; clear hb; clear hc_b6_0 hc_b6_1 hc_b6_2 hc_b6_3 hc_b15_0 hc_b15_1 hc_b15_2 hc_b15_3; have hc_b10_0 : w75.cell? ⟨g_b10, 0, none⟩ = some (.int .i64 r0) := (blk_cell BK_b10.out 0).trans rfl; have hc_b10_1 : w75.cell? ⟨g_b10, 1, none⟩ = some (.string r1) := (blk_cell BK_b10.out 1).trans rfl; have hc_b10_2 : w75.cell? ⟨g_b10, 2, none⟩ = some (.int .i64 r2) := (blk_cell BK_b10.out 2).trans rfl; have hc_b10_3 : w75.cell? ⟨g_b10, 3, none⟩ = some (.slice A_g0 xs.length c_g0) := (blk_cell BK_b10.out 3).trans rfl)
  | ((with_reducible refine gate_callee (f := 30) rfl ?_); refine goesL_ (some 113) rfl rfl Try.func30 (by kernel_rfl) rfl #[.agg #[.int .i64 r0, .string r1, .int .i64 r2, .slice A_g0 xs.length c_g0], .int .i64 1] rfl (by (try simp only [List.map_toArray, List.map_cons, List.map_nil]); first | done | rfl) ?_; refine (c30 _ _ _ (readS RW_g0.out).1 (readS RW_g0.out).2).mono ?_; rintro e w76 ⟨rfl, hb⟩; refine ⟨_, rfl, ?_⟩; have CH75 := Aside0.mk hb.size; have n0_ := Aside0.mk (below_step HB.out hb); have n1_ := Aside0.mk (blk_below BK_b2.out hb); have n2_ := Aside0.mk (blk_below BK_b3.out hb); have n3_ := Aside0.mk (blk_below BK_b6.out hb); have n4_ := Aside0.mk (blk_below BK_b8.out hb); have n5_ := Aside0.mk (blk_below BK_b9.out hb); have n6_ := Aside0.mk (blk_below BK_b10.out hb); have n7_ := Aside0.mk (blk_below BK_b15.out hb); have n8_ := Aside0.mk (Kd.S_below RW_w0.out hb); have n9_ := Aside0.mk (Kd.S_below RW_x0.out hb); have n10_ := Aside0.mk (Kd.S_below RW_x1.out hb); have n11_ := Aside0.mk (Kd.S_below RW_g0.out hb); have n12_ := Aside0.mk (Kd.S_below RW_k0.out hb); clear HB BK_b2 BK_b3 BK_b6 BK_b8 BK_b9 BK_b10 BK_b15 RW_w0 RW_x0 RW_x1 RW_g0 RW_k0; have HB := n0_; have BK_b2 := n1_; have BK_b3 := n2_; have BK_b6 := n3_; have BK_b8 := n4_; have BK_b9 := n5_; have BK_b10 := n6_; have BK_b15 := n7_; have RW_w0 := n8_; have RW_x0 := n9_; have RW_x1 := n10_; have RW_g0 := n11_; have RW_k0 := n12_; clear n0_ n1_ n2_ n3_ n4_ n5_ n6_ n7_ n8_ n9_ n10_ n11_ n12_; clear hb; clear hc_b10_0 hc_b10_1 hc_b10_2 hc_b10_3))
 go_ret
 exact ⟨rfl,HB.out⟩
set_option maxHeartbeats 8000000 in
set_option maxRecDepth 100000 in
theorem fl_big1 (bl : List S24) (t : S24) (A_B : Option Addr) (c_B : Nat) (A_T : Option Addr) (c_T : Nat) (left1 : Int) (w : World)
  (hl1 : left1 < 0)
  (hlB : bl.length ≤ c_B)
  (hCB : Kd.C k24 w A_B bl.length bl)
  (hlT : t.f3.length ≤ c_T)
  (hCT : Kd.C k24 w A_T t.f3.length t.f3)
  (c38 : ∀ W A c,bl.length ≤ c → Kd.C k24 W A bl.length bl → Calls Try.prog 38 #[.agg #[.slice A bl.length c],.int .i64 1048576] W fun e W' => e = .returned (.int .i64 left1) ∧ Below W.heap.size W W') :
  Calls Try.prog 12 #[.agg #[.slice A_B bl.length c_B],.agg #[.int .i64 t.f0,.string t.f1,.int .i64 t.f2,.slice A_T t.f3.length c_T]] w fun e w' => e = .returned (.bool true) ∧ Below w.heap.size w w':=by
 have HL_B:=Aside0.mk hlB
 have HC_B:=Aside0.mk hCB
 have HL_T:=Aside0.mk hlT
 have HC_T:=Aside0.mk hCT
 clear hlB hCB hlT hCT
 have cl1 : decide (left1 < 0) = true:=decide_eq_true hl1
 clear hl1
 have HB:=Aside0.mk (Below.refl w.heap.size w)
 go_enter Try.func12,Try.ntmps12
 go_wp2_with (first
  | ((with_reducible refine gate_dst (N := 2) rfl ?_); refine box_event ?hg2 (N := 2) ?hd2 (cs := #[.slice A_B bl.length c_B]) (t := 49) ?hr2 ?_; (case hd2 => rfl); (case hg2 => rfl); (case hr2 => first | (go_simp; done) | (go_simp; rfl)); intro g_b2 hg w1 hbox hb; have HG_b2 := Aside0.mk hg; have HL_b2 := Aside0.mk (blk_lt hbox); have CH0 := Aside0.mk hb.size; have n0_ := Aside0.mk (below_step HB.out hb); clear HB; have HB := n0_; clear n0_; have BK_b2 := Aside0.mk hbox; clear hg hbox hb)
  | ((with_reducible refine gate_dst (N := 3) rfl ?_); refine box_event ?hg3 (N := 3) ?hd3 (cs := #[.int .i64 t.f0, .string t.f1, .int .i64 t.f2, .slice A_T t.f3.length c_T]) (t := 24) ?hr3 ?_; (case hd3 => rfl); (case hg3 => rfl); (case hr3 => first | (go_simp; done) | (go_simp; rfl)); intro g_b3 hg w2 hbox hb; have HG_b3 := Aside0.mk hg; have HL_b3 := Aside0.mk (blk_lt hbox); have CH1 := Aside0.mk hb.size; have n0_ := Aside0.mk (below_step HB.out hb); have n1_ := Aside0.mk (blk_below BK_b2.out hb); clear HB BK_b2; have HB := n0_; have BK_b2 := n1_; clear n0_ n1_; have BK_b3 := Aside0.mk hbox; clear hg hbox hb; have hc_b2_0 : w2.cell? ⟨g_b2, 0, none⟩ = some (.slice A_B bl.length c_B) := (blk_cell BK_b2.out 0).trans rfl)
  | ((with_reducible refine gate_callee (f := 38) rfl ?_); refine goesL_ (some 19) rfl rfl Try.func38 (by kernel_rfl) rfl #[.agg #[.slice A_B bl.length c_B], .int .i64 1048576] rfl (by (try simp only [List.map_toArray, List.map_cons, List.map_nil]); first | done | rfl) ?_; refine (c38 _ _ _ HL_B.out (Kd.C_below HC_B.out HB.out)).mono ?_; rintro e w3 ⟨rfl, hb⟩; refine ⟨_, rfl, ?_⟩; have CH2 := Aside0.mk hb.size; have n0_ := Aside0.mk (below_step HB.out hb); have n1_ := Aside0.mk (blk_below BK_b2.out hb); have n2_ := Aside0.mk (blk_below BK_b3.out hb); clear HB BK_b2 BK_b3; have HB := n0_; have BK_b2 := n1_; have BK_b3 := n2_; clear n0_ n1_ n2_; clear hb; clear hc_b2_0; have hc_b3_0 : w3.cell? ⟨g_b3, 0, none⟩ = some (.int .i64 t.f0) := (blk_cell BK_b3.out 0).trans rfl; have hc_b3_1 : w3.cell? ⟨g_b3, 1, none⟩ = some (.string t.f1) := (blk_cell BK_b3.out 1).trans rfl; have hc_b3_2 : w3.cell? ⟨g_b3, 2, none⟩ = some (.int .i64 t.f2) := (blk_cell BK_b3.out 2).trans rfl; have hc_b3_3 : w3.cell? ⟨g_b3, 3, none⟩ = some (.slice A_T t.f3.length c_T) := (blk_cell BK_b3.out 3).trans rfl))
 go_ret
 exact ⟨rfl,HB.out⟩
set_option maxHeartbeats 8000000 in
set_option maxRecDepth 100000 in
theorem fl_big2 (bl : List S24) (t : S24) (A_B : Option Addr) (c_B : Nat) (A_T : Option Addr) (c_T : Nat) (left1 left2 : Int) (w : World)
  (hl1 : 0 ≤ left1)
  (hl2 : left2 < 0)
  (hlB : bl.length ≤ c_B)
  (hCB : Kd.C k24 w A_B bl.length bl)
  (hlT : t.f3.length ≤ c_T)
  (hCT : Kd.C k24 w A_T t.f3.length t.f3)
  (c38 : ∀ W A c,bl.length ≤ c → Kd.C k24 W A bl.length bl → Calls Try.prog 38 #[.agg #[.slice A bl.length c],.int .i64 1048576] W fun e W' => e = .returned (.int .i64 left1) ∧ Below W.heap.size W W')
  (c15 : ∀ W A c,t.f3.length ≤ c → Kd.C k24 W A t.f3.length t.f3 → Calls Try.prog 15 #[.agg #[.int .i64 t.f0,.string t.f1,.int .i64 t.f2,.slice A t.f3.length c],.int .i64 left1] W fun e W' => e = .returned (.int .i64 left2) ∧ Below W.heap.size W W') :
  Calls Try.prog 12 #[.agg #[.slice A_B bl.length c_B],.agg #[.int .i64 t.f0,.string t.f1,.int .i64 t.f2,.slice A_T t.f3.length c_T]] w fun e w' => e = .returned (.bool true) ∧ Below w.heap.size w w':=by
 have HL_B:=Aside0.mk hlB
 have HC_B:=Aside0.mk hCB
 have HL_T:=Aside0.mk hlT
 have HC_T:=Aside0.mk hCT
 clear hlB hCB hlT hCT
 have cl1 : decide (left1 < 0) = false:=decide_eq_false (by omega)
 have cl2 : decide (left2 < 0) = true:=decide_eq_true hl2
 clear hl1 hl2
 have HB:=Aside0.mk (Below.refl w.heap.size w)
 go_enter Try.func12,Try.ntmps12
 go_wp2_with (first
  | ((with_reducible refine gate_dst (N := 2) rfl ?_); refine box_event ?hg2 (N := 2) ?hd2 (cs := #[.slice A_B bl.length c_B]) (t := 49) ?hr2 ?_; (case hd2 => rfl); (case hg2 => rfl); (case hr2 => first | (go_simp; done) | (go_simp; rfl)); intro g_b2 hg w1 hbox hb; have HG_b2 := Aside0.mk hg; have HL_b2 := Aside0.mk (blk_lt hbox); have CH0 := Aside0.mk hb.size; have n0_ := Aside0.mk (below_step HB.out hb); clear HB; have HB := n0_; clear n0_; have BK_b2 := Aside0.mk hbox; clear hg hbox hb)
  | ((with_reducible refine gate_dst (N := 3) rfl ?_); refine box_event ?hg3 (N := 3) ?hd3 (cs := #[.int .i64 t.f0, .string t.f1, .int .i64 t.f2, .slice A_T t.f3.length c_T]) (t := 24) ?hr3 ?_; (case hd3 => rfl); (case hg3 => rfl); (case hr3 => first | (go_simp; done) | (go_simp; rfl)); intro g_b3 hg w2 hbox hb; have HG_b3 := Aside0.mk hg; have HL_b3 := Aside0.mk (blk_lt hbox); have CH1 := Aside0.mk hb.size; have n0_ := Aside0.mk (below_step HB.out hb); have n1_ := Aside0.mk (blk_below BK_b2.out hb); clear HB BK_b2; have HB := n0_; have BK_b2 := n1_; clear n0_ n1_; have BK_b3 := Aside0.mk hbox; clear hg hbox hb; have hc_b2_0 : w2.cell? ⟨g_b2, 0, none⟩ = some (.slice A_B bl.length c_B) := (blk_cell BK_b2.out 0).trans rfl)
  | ((with_reducible refine gate_callee (f := 38) rfl ?_); refine goesL_ (some 19) rfl rfl Try.func38 (by kernel_rfl) rfl #[.agg #[.slice A_B bl.length c_B], .int .i64 1048576] rfl (by (try simp only [List.map_toArray, List.map_cons, List.map_nil]); first | done | rfl) ?_; refine (c38 _ _ _ HL_B.out (Kd.C_below HC_B.out HB.out)).mono ?_; rintro e w3 ⟨rfl, hb⟩; refine ⟨_, rfl, ?_⟩; have CH2 := Aside0.mk hb.size; have n0_ := Aside0.mk (below_step HB.out hb); have n1_ := Aside0.mk (blk_below BK_b2.out hb); have n2_ := Aside0.mk (blk_below BK_b3.out hb); clear HB BK_b2 BK_b3; have HB := n0_; have BK_b2 := n1_; have BK_b3 := n2_; clear n0_ n1_ n2_; clear hb; clear hc_b2_0; have hc_b3_0 : w3.cell? ⟨g_b3, 0, none⟩ = some (.int .i64 t.f0) := (blk_cell BK_b3.out 0).trans rfl; have hc_b3_1 : w3.cell? ⟨g_b3, 1, none⟩ = some (.string t.f1) := (blk_cell BK_b3.out 1).trans rfl; have hc_b3_2 : w3.cell? ⟨g_b3, 2, none⟩ = some (.int .i64 t.f2) := (blk_cell BK_b3.out 2).trans rfl; have hc_b3_3 : w3.cell? ⟨g_b3, 3, none⟩ = some (.slice A_T t.f3.length c_T) := (blk_cell BK_b3.out 3).trans rfl)
  | ((with_reducible refine gate_callee (f := 15) rfl ?_); refine goesL_ (some 24) rfl rfl Try.func15 (by kernel_rfl) rfl #[.agg #[.int .i64 t.f0, .string t.f1, .int .i64 t.f2, .slice A_T t.f3.length c_T], .int .i64 left1] rfl (by (try simp only [List.map_toArray, List.map_cons, List.map_nil]); first | done | rfl) ?_; refine (c15 _ _ _ HL_T.out (Kd.C_below HC_T.out HB.out)).mono ?_; rintro e w4 ⟨rfl, hb⟩; refine ⟨_, rfl, ?_⟩; have CH3 := Aside0.mk hb.size; have n0_ := Aside0.mk (below_step HB.out hb); have n1_ := Aside0.mk (blk_below BK_b2.out hb); have n2_ := Aside0.mk (blk_below BK_b3.out hb); clear HB BK_b2 BK_b3; have HB := n0_; have BK_b2 := n1_; have BK_b3 := n2_; clear n0_ n1_ n2_; clear hb; clear hc_b3_0 hc_b3_1 hc_b3_2 hc_b3_3))
 go_ret
 exact ⟨rfl,HB.out⟩
end
/-! #### FnExactFilled -/
theorem szBinds_ev (n : Nat) (xs : List S24) (ho : oks24 xs) (hlen : xs.length ≤ 9223372036854775807) (h : hts24 xs ≤ n) :
  Ev (fun k => @laws_szBinds.f (i_sz n) k xs 1048576) (szr (xs.length + wts24 xs) 1048576):=by
 unfold laws_szBinds.f
 have hS : Ev (fun k => @laws_szTermS.f (i_sz n) k xs 1048576) (szr (xs.length + wts24 xs) 1048576):=by
  unfold laws_szTermS.f
  have e2 : wrap64 (1048576 - (xs.length : Int)) = 1048576 - xs.length:=by unfold wrap64;omega
  rw [e2]
  by_cases c2 : 1048576 - (xs.length : Int) < 0
  ·refine Ev.congr (fun k => if_pos c2) ?_
   unfold szr;rw [if_neg (by omega)];exact Ev.now _
  ·refine Ev.congr (fun k => if_neg c2) ?_
   have:=szS_ev n xs (by omega) (fun x hx left h0 h1 => sz_ev n x (oks24_mem hx ho) (by have:=hts24_mem hx;omega) left h0 h1) xs.length 0 (1048576 - xs.length) (by omega) (by omega) (by omega) (by omega)
   rw [List.drop_zero] at this
   have e : szr (xs.length + wts24 xs) 1048576 = szr (wts24 xs) (1048576 - xs.length):=by
    unfold szr
    by_cases h3 : (wts24 xs : Int) ≤ 1048576 - xs.length
    ·rw [if_pos h3,if_pos (by omega)];omega
    ·rw [if_neg h3,if_neg (by omega)]
   rw [e];exact this
 refine Ev.bind (f:=fun _ t => if t < 0 then some (-1) else some t) hS ?_
 by_cases c3 : szr (xs.length + wts24 xs) 1048576 < 0
 ·have : szr (xs.length + wts24 xs) 1048576 = -1:=by
   unfold szr at c3 ⊢;split at c3 <;> rename_i h
   ·omega
   ·rw [if_neg h]
  rw [this];exact Ev.now _
 ·exact Ev.congr (fun k => if_neg c3) (Ev.now _)
/-- both walks end at one term: the one they began with, or one of the row -/
theorem walk_ev (xs : List S29) (hlen : xs.length ≤ 1048576) (m : Nat) : ∀ (i : Nat),i + m = 5000 → ∀ t : S29,∃ r : S29,(r = t ∨ r ∈ xs) ∧
  Ev (fun k => spec_l04Walk.l0 k xs i t.f0 t.f1 t.f2 t.f3) (r.f0,r.f1,r.f2,r.f3) ∧ Ev (fun k => impl_walked.l0 k xs i t.f0 t.f1 t.f2 t.f3) (r.f0,r.f1,r.f2,r.f3):=by
 have hw : wrap64 ((xs.length : Int) - 1) = xs.length - 1:=by unfold wrap64;omega
 induction m with
 | zero =>
  intro i hi t
  refine ⟨t,.inl rfl,?_,?_⟩
  ·refine Ev.step (f:=fun _ => some (t.f0,t.f1,t.f2,t.f3)) (fun k => ?_) (Ev.now _)
   simp only [spec_l04Walk.l0];rw [if_neg (by omega)]
  ·refine Ev.step (f:=fun _ => some (t.f0,t.f1,t.f2,t.f3)) (fun k => ?_) (Ev.now _)
   simp only [impl_walked.l0];rw [if_neg (by omega)]
 | succ m ih =>
  intro i hi t
  by_cases h1 : t.f0 = 1
  ·by_cases h2 : 0 ≤ t.f2 ∧ t.f2 < xs.length
   ·obtain ⟨j,hj⟩ : ∃ j : Nat,t.f2 = j:=⟨t.f2.toNat,by omega⟩
    have hjl : j < xs.length:=by omega
    have ht1 : (some (decide ((j : Int) ≤ (xs.length : Int) - 1)) : Option Bool) = some true:=by rw [decide_eq_true (by omega)]
    have hrd:=rd29_at xs j hjl
    by_cases h3 : (xs[j]'hjl).f0 = 0
    ·refine ⟨t,.inl rfl,?_,?_⟩
     ·refine Ev.step (f:=fun _ => some (t.f0,t.f1,t.f2,t.f3)) (fun k => ?_) (Ev.now _)
      simp only [spec_l04Walk.l0,spec_l01In.f]
      rw [if_pos (by omega),if_pos h1,hw,hj,if_pos (by omega),ht1,Option.bind_some,if_pos rfl,if_pos (by omega),if_pos (by omega),hrd,if_pos h3]
     ·refine Ev.step (f:=fun _ => some (t.f0,t.f1,t.f2,t.f3)) (fun k => ?_) (Ev.now _)
      simp only [impl_walked.l0,impl_within.f]
      rw [if_pos (by omega),if_pos h1,hw,hj,if_pos (by omega),ht1,Option.bind_some,if_pos rfl,if_pos (by omega),if_pos (by omega),hrd,if_pos h3]
    ·obtain ⟨r,hr,e1,e2⟩:=ih (i + 1) (by omega) (xs[j]'hjl)
     refine ⟨r,?_,?_,?_⟩
     ·rcases hr with rfl|hr
      ·exact .inr (List.getElem_mem hjl)
      ·exact .inr hr
     ·refine Ev.step (fun k => ?_) e1
      simp only [spec_l04Walk.l0,spec_l01In.f]
      rw [if_pos (by omega),if_pos h1,hw,hj,if_pos (by omega),ht1,Option.bind_some,if_pos rfl,if_pos (by omega),if_pos (by omega),hrd,if_neg h3,next_i i 5000 (by omega) (by omega)]
     ·refine Ev.step (fun k => ?_) e2
      simp only [impl_walked.l0,impl_within.f]
      rw [if_pos (by omega),if_pos h1,hw,hj,if_pos (by omega),ht1,Option.bind_some,if_pos rfl,if_pos (by omega),if_pos (by omega),hrd,if_neg h3,next_i i 5000 (by omega) (by omega)]
   ·have hin : (if t.f2 ≥ 0 then (some (decide (t.f2 ≤ (xs.length : Int) - 1))) else (some false)) = some false:=by
     by_cases h4 : t.f2 ≥ 0
     ·rw [if_pos h4,decide_eq_false (by omega)]
     ·rw [if_neg h4]
    refine ⟨t,.inl rfl,?_,?_⟩
    ·refine Ev.step (f:=fun _ => some (t.f0,t.f1,t.f2,t.f3)) (fun k => ?_) (Ev.now _)
     simp only [spec_l04Walk.l0,spec_l01In.f]
     rw [if_pos (by omega),if_pos h1,hw,hin,Option.bind_some,if_neg (by decide)]
    ·refine Ev.step (f:=fun _ => some (t.f0,t.f1,t.f2,t.f3)) (fun k => ?_) (Ev.now _)
     simp only [impl_walked.l0,impl_within.f]
     rw [if_pos (by omega),if_pos h1,hw,hin,Option.bind_some,if_neg (by decide)]
  ·refine ⟨t,.inl rfl,?_,?_⟩
   ·refine Ev.step (f:=fun _ => some (t.f0,t.f1,t.f2,t.f3)) (fun k => ?_) (Ev.now _)
    simp only [spec_l04Walk.l0];rw [if_pos (by omega),if_neg h1]
   ·refine Ev.step (f:=fun _ => some (t.f0,t.f1,t.f2,t.f3)) (fun k => ?_) (Ev.now _)
    simp only [impl_walked.l0];rw [if_pos (by omega),if_neg h1]
theorem nms_tos (n : Nat) : ∀ ts : List S24,hts24 ts ≤ n → wts24 ts ≤ 1048576 → nms29 (tos29 ts)
 | [], _, _ => by rw [tos29, nms29]; trivial
 | a :: l, h1, h2 => by
  rw [hts24] at h1
  rw [wts24] at h2
  rw [tos29,nms29]
  exact ⟨nm_to n a (by omega) (by omega),nms_tos n l (by omega) (by omega)⟩
theorem flR_range (o : Option (S29 × Int)) (wk : S29 → S29) (on : S29 → Bool) (t : S29) (h : o = flT wk on 40 t 400) : cn29 (flR o) ≤ 400 ∧ ht29 (flR o) ≤ 40:=by
 cases o with
 | none => exact ⟨by rw [flR, cn29, cns29]; omega, by rw [flR, ht29, hts29]; omega⟩
 | some p =>
  have:=flT_left wk on 40 t 400 p.1 p.2 h.symm
  exact ⟨by show cn29 p.1 ≤ 400;omega,this.2.2⟩
section
set_option linter.unusedSectionVars false
variable [fk_laws_szTerm] [fk_laws_eqTerm]
/-- both Filled, called -/
theorem filled_c (xs : List S29) (n : Nat) (hn : 41 ≤ n) (hc : cns29 xs ≤ 1048576) (hh : hts29 xs ≤ n) (hnm : nms29 xs) (hlx : xs.length ≤ 1048576) (t : S29) (hnt : nm29 t) (hct : cn29 t ≤ 1048577) (hht : ht29 t ≤ n + 1) :
  ∃ (r : S29) (b : Bool),(ht29 r ≤ n ∧ cn29 r ≤ 1048577) ∧
  (∀ W (P : Nat → Prop) A c B d,(∀ k,W.heap.size ≤ k → P k) → Kd.V k29 29 W 0 P (.slice A xs.length c) xs → Kd.V k29 29 W 0 P (.slice B t.f3.length d) t.f3 → Calls Try.prog 50 #[.agg #[.slice A xs.length c],.agg #[.int .i64 t.f0,.string t.f1,.int .i64 t.f2,.slice B t.f3.length d]] W fun e W' => ∃ v,e = .returned (.tuple #[.agg #[.int .i64 r.f0,.string r.f1,.int .i64 r.f2,v],.bool b]) ∧ Kd.S kD29 29 W' W.heap.size (fun _ => True) v r.f3 ∧ Below W.heap.size W W') ∧
  (∀ W (P : Nat → Prop) A c B d,(∀ k,W.heap.size ≤ k → P k) → Kd.V k29 29 W 0 P (.slice A xs.length c) xs → Kd.V k29 29 W 0 P (.slice B t.f3.length d) t.f3 → Calls Try.prog 51 #[.agg #[.slice A xs.length c],.agg #[.int .i64 t.f0,.string t.f1,.int .i64 t.f2,.slice B t.f3.length d]] W fun e W' => ∃ v,e = .returned (.tuple #[.agg #[.int .i64 r.f0,.string r.f1,.int .i64 r.f2,v],.bool b]) ∧ Kd.S kD29 29 W' W.heap.size (fun _ => True) v r.f3 ∧ Below W.heap.size W W'):=by
 obtain ⟨wk,hwk⟩ : ∃ wk : S29 → S29,∀ s : S29,(wk s = s ∨ wk s ∈ xs) ∧ Ev (fun k => spec_l04Walk.l0 k xs 0 s.f0 s.f1 s.f2 s.f3) ((wk s).f0,(wk s).f1,(wk s).f2,(wk s).f3) ∧ Ev (fun k => impl_walked.l0 k xs 0 s.f0 s.f1 s.f2 s.f3) ((wk s).f0,(wk s).f1,(wk s).f2,(wk s).f3) :=
  ⟨fun s => (walk_ev xs hlx 5000 0 rfl s).choose,fun s => (walk_ev xs hlx 5000 0 rfl s).choose_spec⟩
 obtain ⟨G,hG⟩ : ∃ G : S29 → Prop,∀ s,G s ↔ nm29 s ∧ cn29 s ≤ 1048577:=⟨_,fun _ => Iff.rfl⟩
 have hGw : ∀ s,G s → G (wk s):=fun s hs => by
  rcases (hwk s).1 with h|h
  ·rw [h];exact hs
  ·exact (hG _).2 ⟨nms29_mem h hnm,by have:=cns29_mem h;omega⟩
 have hGk : ∀ s,G s → ∀ x ∈ s.f3,G x:=fun s hs x hx => (hG _).2 ⟨nms29_mem hx ((nm29_eq _).1 ((hG _).1 hs).1).2,by have h1:=cns29_mem hx;have h2:=cn29_eq s;have h3:=((hG _).1 hs).2;omega⟩
 have hGl : ∀ s,G s → s.f3.length ≤ 1048576:=fun s hs => by have h1:=cns29_len s.f3;have h2:=cn29_eq s;have h3:=((hG _).1 hs).2;omega
 have hGt : G t:=(hG _).2 ⟨hnt,hct⟩
 have hWS : WkS xs wk G:=fun s W P A c D d hs hP h1 h2 => by
  obtain ⟨k,hk⟩:=Ev.rounds (hwk s).2.1
  refine (spec_l04Walk.calls k P A c xs s.f0 s.f1 s.f2 P D d s.f3 (wk s).f0 (wk s).f1 (wk s).f2 (wk s).f3 W h1 h2 hk).mono fun e W' => ?_
  rintro ⟨v,rfl,ho,hb⟩
  exact ⟨v,rfl,Kd.V_mono ho (fun k_ hk_ => hk_.elim (fun h_ => h_.elim id id) (hP k_)),hb⟩
 have hWI : WkI xs wk G:=fun s W P A c D d hs hP h1 h2 => by
  obtain ⟨k,hk⟩:=Ev.rounds (hwk s).2.2
  refine (impl_walked.calls k P A c xs s.f0 s.f1 s.f2 P D d s.f3 (wk s).f0 (wk s).f1 (wk s).f2 (wk s).f3 W h1 h2 hk).mono fun e W' => ?_
  rintro ⟨v,rfl,ho,hb⟩
  exact ⟨v,rfl,Kd.V_mono ho (fun k_ hk_ => hk_.elim (fun h_ => h_.elim id id) (hP k_)),hb⟩
 have hON : OnC oneB G:=fun s W D d hs h1 h2 => by
  obtain ⟨k,hk⟩:=Ev.rounds (one_spec s ((nm29_eq _).1 ((hG _).1 hs).1).1)
  exact spec_l03One.calls k s.f0 s.f1 s.f2 D d s.f3 (oneB s) W h1 h2 hk
 have hT : ∀ s l,flT wk (fun _ => true) 40 t 400 = some (s,l) → ∃ k,impl_TermOk.f k s.f0 s.f1 s.f2 s.f3 = some (rt29 s 1):=fun s l h => by
  have h1:=flT_left wk (fun _ => true) 40 t 400 s l h
  have h2:=flT_nm wk (fun _ => true) (fun s hs => by
   rcases (hwk s).1 with h|h
   ·rw [h];exact hs
   ·exact nms29_mem h hnm) 40 t 400 s l hnt h
  have h3:=impl_ok_ev s (by omega) h2
  rw [decide_eq_true (show cn29 s ≤ 400 by omega),Bool.true_and] at h3
  exact Ev.rounds h3
 have hR : (flT wk (fun _ => true) 40 t 400).filter (fun p => rt29 p.1 1) = flT wk oneB 40 t 400:=(flT_right wk 40 t 400 (by omega)).symm
 have hrg:=flR_range _ wk oneB t rfl
 refine ⟨flR (flT wk oneB 40 t 400),(flT wk oneB 40 t 400).isSome,⟨by omega,by omega⟩,?_,?_⟩
 ·intro W P A c B d hP h1 h2
  exact sflw_calls xs t _ _ P A c B d W h1 h2 (fun W2 g1 g2 => sfl_calls xs wk oneB G t (fs_all xs wk oneB G hGw hGk hGl hWS hON 40) hGt P A c B d W2 g1 g2)
 ·intro W P A c B d hP h1 h2
  refine iflw_calls xs t _ _ P A c B d W h1 h2 (fun W2 g1 g2 => ?_)
  have:=ifl_calls xs wk G t (fi_all xs wk G hGw hGk hGl hWI 40) hT hGt P A c B d W2 g1 g2
  rw [hR] at this
  exact this
end
theorem fl_all (bl : List S24) (A_B : Option Addr) (c_B : Nat) (t : S24) (A_T : Option Addr) (c_T : Nat) (w : World)
  (hCB : Kd.C k24 w A_B bl.length bl) (hlB : bl.length ≤ c_B) (hoB : bl.length ≤ 9223372036854775807 ∧ oks24 bl) (hCT : Kd.C k24 w A_T t.f3.length t.f3) (hlT : t.f3.length ≤ c_T) (hoT : ok24 t) :
  Calls Try.prog 12 #[.agg #[.slice A_B bl.length c_B],.agg #[.int .i64 t.f0,.string t.f1,.int .i64 t.f2,.slice A_T t.f3.length c_T]] w fun e w' => e = .returned (.bool true) ∧ Below w.heap.size w w':=by
 obtain ⟨n,hn⟩ : ∃ n,n = max (hts24 bl) (ht24 t) + 41:=⟨_,rfl⟩
 letI:=i_sz n
 letI:=i_eq n
 obtain ⟨k0,hsz⟩:=Ev.rounds (szBinds_ev n bl hoB.2 hoB.1 (by omega))
 by_cases hw : bl.length + wts24 bl ≤ 1048576
 ·have e1 : szr (bl.length + wts24 bl) 1048576 = 1048576 - ((bl.length + wts24 bl : Nat) : Int):=by unfold szr;rw [if_pos (by omega)]
  rw [e1] at hsz
  obtain ⟨k1,hst⟩:=Ev.rounds (sz_ev (n + 1) t hoT (by omega) (1048576 - ((bl.length + wts24 bl : Nat) : Int)) (by omega) (by omega))
  by_cases hw2 : wt24 t + (bl.length + wts24 bl) ≤ 1048576
  ·have e2 : szr (wt24 t) (1048576 - ((bl.length + wts24 bl : Nat) : Int)) = 1048576 - ((bl.length + wts24 bl : Nat) : Int) - wt24 t:=by unfold szr;rw [if_pos (by omega)]
   rw [e2] at hst
   have hcnt:=cn_wt t
   have htt:=ht_to t
   have hcB:=(cns_wt (hts24 bl)).2 bl (Nat.le_refl _)
   have hhB:=(hts_to (hts24 bl)).2 bl (Nat.le_refl _)
   have hTB : ToOf bl:=(toT_all n).2 bl (by omega) (by omega)
   have hTT : ToT t:=(toT_all n).1 t (by omega) (by omega)
   have hlB9 : (tos29 bl).length = bl.length:=tos29_length bl
   have hwt:=wt24_eq t
   have hxt : hts29 (to29 t).f3 ≤ n ∧ cns29 (to29 t).f3 ≤ 1048576:=by
    have q1:=ht29_eq (to29 t)
    have q2:=cn29_eq (to29 t)
    omega
   have ht3 : (to29 t).f3 = tos29 t.f3:=by rw [to29_eq]
   have ht0 : (to29 t).f0 = t.f0:=by rw [to29_eq]
   have ht1 : (to29 t).f1 = t.f1:=by rw [to29_eq]
   have ht2 : (to29 t).f2 = t.f2:=by rw [to29_eq]
   have hlx : (tos29 bl).length ≤ 1048576:=by omega
   have hnB : nms29 (tos29 bl):=nms_tos n bl (by omega) (by omega)
   have hnT : nm29 (to29 t):=nm_to n t (by omega) (by omega)
   obtain ⟨r,b,hrb,c50,c51⟩:=filled_c (tos29 bl) n (by omega) (by omega) (by omega) hnB hlx (to29 t) hnT (by omega) (by omega)
   rw [ht0,ht1,ht2,ht3] at c50 c51
   have hrx : hts29 r.f3 ≤ n ∧ cns29 r.f3 ≤ 1048576:=by
    have q1:=ht29_eq r
    have q2:=cn29_eq r
    omega
   have hmtx : ∀ q : Int,0 < q → q ≤ 1000000000 → laws_markText.f 11 q = some (mtx q):=fun q h0 h1 => mtx_ok q h0 h1
   have hmB : MarkOf mtx (tos29 bl):=mark_calls mtx 11 hmtx n _ (by omega)
   have hmT : MarkOf mtx (to29 t).f3:=mark_calls mtx 11 hmtx n _ hxt.1
   have hmR : MarkOf mtx r.f3:=mark_calls mtx 11 hmtx n _ hrx.1
   obtain ⟨k2,hd⟩:=Ev.rounds (held_ev n r.f3 hrx.1 hrx.2 1 (by omega) (by omega))
   obtain ⟨k3,her⟩:=Ev.rounds (show Ev (fun k => @laws_eqTerm.f (i_eq n) k r.f0 r.f1 r.f2 r.f3 r.f0 r.f1 r.f2 r.f3) true from eq_ev (n + 1) r (by omega) (by omega))
   obtain ⟨k4,het⟩:=Ev.rounds (show Ev (fun k => @laws_eqTerm.f (i_eq n) k (to29 t).f0 (to29 t).f1 (to29 t).f2 (to29 t).f3 (to29 t).f0 (to29 t).f1 (to29 t).f2 (to29 t).f3) true from eq_ev (n + 1) (to29 t) (by omega) (by omega))
   obtain ⟨k5,heB⟩:=Ev.rounds (show Ev (fun k => @laws_eqTermS.f (i_eq n) k (tos29 bl) (tos29 bl)) true by
    unfold laws_eqTermS.f
    refine Ev.congr (fun k => if_pos rfl) ?_
    exact eqS_ev n (tos29 bl) (by omega) (fun x hx => eq_ev n x (by have:=hts29_mem hx;omega) (by have:=cns29_mem hx;omega)) (tos29 bl).length 0 (by omega) (by omega))
   have hyl : (mks29 mtx r.f3 1).length = r.f3.length:=mks29_length _ _ _
   rw [ht0,ht1,ht2] at het
   rw [ht3] at het hmT hxt
   refine fl_walk b bl t A_B c_B A_T c_T (1048576 - ((bl.length + wts24 bl : Nat) : Int)) (1048576 - ((bl.length + wts24 bl : Nat) : Int) - wt24 t) (1 + 3 * (cns29 r.f3 : Int)) (1 + 3 * (cns29 (tos29 bl) : Int)) (1 + 3 * (cns29 (tos29 bl) : Int) + 3 * (cns29 (tos29 t.f3) : Int)) r.f0 r.f2 r.f1 (tos29 bl) (tos29 t.f3) r.f3 (mks29 mtx (tos29 bl) 1) (mks29 mtx (tos29 t.f3) (1 + 3 * (cns29 (tos29 bl) : Int))) (mks29 mtx r.f3 1) w (by omega) (by omega) (by omega) (by omega) (by omega) hlB hCB hlT hCT ?_ ?_ ?_ ?_ ?_ ?_ ?_ ?_ ?_ ?_ ?_ ?_ ?_
   ·intro W A c h1 h2
    exact laws_szBinds.calls k0 A c bl 1048576 _ W h2 h1 hsz
   ·intro W A c h1 h2
    exact laws_szTerm.calls k1 t.f0 t.f1 t.f2 A c t.f3 _ _ W h2 h1 hst
   ·intro W A c h1 h2
    exact toBinds_calls bl hTB A c W h2 h1
   ·intro W A c h1 h2
    exact hTT A c W h2 h1
   ·exact c50
   ·exact c51
   ·intro W A c B d h1 h2 h3 h4
    exact laws_eqTerm.calls k3 r.f0 r.f1 r.f2 A c r.f3 r.f0 r.f1 r.f2 B d r.f3 true W h2 h1 h4 h3 her
   ·intro W A c B d h1 h2 h3 h4
    exact laws_eqTerm.calls k4 t.f0 t.f1 t.f2 A c (tos29 t.f3) t.f0 t.f1 t.f2 B d (tos29 t.f3) true W h2 h1 h4 h3 het
   ·intro W A c B d h1 h2 h3 h4
    refine laws_eqBinds.calls k5 A c (tos29 bl) B d (tos29 bl) true W h2 h1 h4 h3 ?_
    unfold laws_eqBinds.f
    rw [heB]
    rfl
   ·intro W base ok A c h1 h2
    exact markBinds_calls mtx _ hmB A c 1 W base ok (by omega) (by omega) h1 h2
   ·intro W base ok A c h1 h2
    exact markTerm_calls mtx _ hmT t.f0 t.f1 t.f2 A c _ W base ok (by omega) (by omega) h1 h2
   ·intro W base ok A c h1 h2
    exact markTerm_calls mtx _ hmR r.f0 r.f1 r.f2 A c 1 W base ok (by omega) (by omega) h1 h2
   ·intro W A c h1 h2
    have:=laws_heldTerm.calls k2 r.f0 r.f1 r.f2 A c (mks29 mtx r.f3 1) 1 (1 + 3 * (cns29 r.f3 : Int)) W (by rw [hyl];exact h2) (by omega) (by unfold laws_heldTerm.f;rw [hd];simp only [Option.bind_some];rw [if_neg (by omega)])
    rw [hyl] at this
    exact this
  ·have e2 : szr (wt24 t) (1048576 - ((bl.length + wts24 bl : Nat) : Int)) = -1:=by unfold szr;rw [if_neg (by omega)]
   rw [e2] at hst
   refine fl_big2 bl t A_B c_B A_T c_T (1048576 - ((bl.length + wts24 bl : Nat) : Int)) (-1) w (by omega) (by omega) hlB hCB hlT hCT ?_ ?_
   ·intro W A c h1 h2
    exact laws_szBinds.calls k0 A c bl 1048576 _ W h2 h1 hsz
   ·intro W A c h1 h2
    exact laws_szTerm.calls k1 t.f0 t.f1 t.f2 A c t.f3 _ _ W h2 h1 hst
 ·have e1 : szr (bl.length + wts24 bl) 1048576 = -1:=by unfold szr;rw [if_neg (by omega)]
  rw [e1] at hsz
  refine fl_big1 bl t A_B c_B A_T c_T (-1) w (by omega) hlB hCB hlT hCT ?_
  intro W A c h1 h2
  exact laws_szBinds.calls k0 A c bl 1048576 _ W h2 h1 hsz
end Go.Proofs.Ytojedbogbodkiaa.KFl
