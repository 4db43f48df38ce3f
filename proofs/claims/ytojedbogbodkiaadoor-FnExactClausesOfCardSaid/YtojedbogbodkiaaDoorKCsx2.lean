/- Contracts of functions of the program and of the reference, each a Lean function and the proof that Go comes to its answer. Written by wip/pp/pp.py out of the kit's print, for this claim; nothing of it is trusted: Lean checks it. -/
import Derived.Test.YtojedbogbodkiaaDoorKCsx0
namespace Go.Proofs.YtojedbogbodkiaaDoor.KCs
open Go.RowKit Go.Proofs.YtojedbogbodkiaaDoorW.PrintWords Go.Proofs.YtojedbogbodkiaaDoorW.PrintLast Go.Proofs.YtojedbogbodkiaaDoorW.PrintMore
attribute [local go_sem] max2_int min2_int max_two min_two max_three min_three max_four min_four   -- for this text's walks alone
set_option linter.unusedVariables false
set_option linter.unusedSimpArgs false

set_option linter.unusedSectionVars false
variable [fk_laws_szTerm] [fk_laws_eqTerm] [fk_spec_l34Term] [fk_strconv_Itoa]
/-! ### laws_eqTermS: function 46 -/
def laws_eqTermS.l0 : Nat → List (S29) → List (S29) → Int → Option (Bool)
 | 0,_,_,_ => none
 | k + 1,x0,x1,x5 => if x5 < (x0.length : Int) then (if 0 ≤ x5 then (if x5 < (x1.length : Int) then ((fk_laws_eqTerm.f k ((rd_T29 x0 x5).f0) ((rd_T29 x0 x5).f1) ((rd_T29 x0 x5).f2) ((rd_T29 x0 x5).f3) ((rd_T29 x1 x5).f0) ((rd_T29 x1 x5).f1) ((rd_T29 x1 x5).f2) ((rd_T29 x1 x5).f3)).bind fun t121 => (if t121 = true then (laws_eqTermS.l0 k x0 x1 (wrap64 (x5 + 1))) else (some false))) else (none)) else (none)) else (some true)
def laws_eqTermS.f (k : Nat) (l0 : List (S29)) (l1 : List (S29)) : Option (Bool):=if (l0.length : Int) = (l1.length : Int) then (laws_eqTermS.l0 k l0 l1 0) else (some false)
theorem laws_eqTermS.mono_l : ∀ k,(∀ y0 y1 y2,LeO (laws_eqTermS.l0 k y0 y1 y2) (laws_eqTermS.l0 (k + 1) y0 y1 y2))
 | 0 => fun _ _ _ r h => by simp [laws_eqTermS.l0] at h
 | k + 1 => by
  have ih0:=laws_eqTermS.mono_l k
  ·intro y0 y1 y2
   unfold laws_eqTermS.l0
   repeat' first
   | (with_reducible exact ih0 _ _ _)
   | (with_reducible exact fk_laws_eqTerm.mono _ _ _ _ _ _ _ _ _)
   | (with_reducible exact LeO.refl _)
   | (with_reducible exact LeO.none _)
   | (with_reducible refine LeO.ite ?_ ?_)
   | (with_reducible refine LeO.bind ?_ (fun _ => ?_))
   | exact ih0 _ _ _
   | exact fk_laws_eqTerm.mono _ _ _ _ _ _ _ _ _
   | exact LeO.none _
   | refine LeO.ite ?_ ?_
   | refine LeO.bind ?_ (fun _ => ?_)
theorem laws_eqTermS.mono : ∀ a0 a1 k,LeO (laws_eqTermS.f k a0 a1) (laws_eqTermS.f (k + 1) a0 a1):=by
 intro a0 a1 k
 have ih0:=laws_eqTermS.mono_l k
 unfold laws_eqTermS.f
 repeat' first
   | (with_reducible exact ih0 _ _ _)
   | (with_reducible exact fk_laws_eqTerm.mono _ _ _ _ _ _ _ _ _)
   | (with_reducible exact LeO.refl _)
   | (with_reducible exact LeO.none _)
   | (with_reducible refine LeO.ite ?_ ?_)
   | (with_reducible refine LeO.bind ?_ (fun _ => ?_))
   | exact ih0 _ _ _
   | exact fk_laws_eqTerm.mono _ _ _ _ _ _ _ _ _
   | exact LeO.none _
   | refine LeO.ite ?_ ?_
   | refine LeO.bind ?_ (fun _ => ?_)
def laws_eqTermS.T6 : Bool × List (List Nat × List Nat):=(true,[([],[]),([],[]),([0,1],[0,1]),([2],[2]),([],[]),([],[]),([4,5],[4,5]),([6],[6]),([3,7],[3,7]),([8],[8])])
def laws_eqTermS.B6 : List Nat:=[0,0,3,7,0,0,48,112,255,511]
theorem laws_eqTermS.tab6 : rtab .any (opsOf Tryd.f46 6) = laws_eqTermS.T6:=by kernel_rfl
theorem laws_eqTermS.bits6 : waitsOk laws_eqTermS.T6.2 laws_eqTermS.B6 = true:=by kernel_rfl
set_option maxHeartbeats 8000000 in
set_option maxRecDepth 100000 in
theorem laws_eqTermS.calls (k : Nat) (A0 : Option Addr) (c0 : Nat) (l0 : List (S29)) (A1 : Option Addr) (c1 : Nat) (l1 : List (S29)) (r : Bool) (w : World) (hr0 : Kd.C k29 w A0 l0.length l0) (hc0 : l0.length ≤ c0) (hr1 : Kd.C k29 w A1 l1.length l1) (hc1 : l1.length ≤ c1) (h : laws_eqTermS.f k l0 l1 = some r) :
  Calls Tryd.prog 46 #[.slice A0 l0.length c0,.slice A1 l1.length c1] w fun e w' => e = .returned (.bool r) ∧ Below w.heap.size w w':=by
 have hu29:=Tryd.underlying29
 have HR0:=Aside0.mk hr0
 have HC0:=Aside0.mk hc0
 clear hr0 hc0
 have HR1:=Aside0.mk hr1
 have HC1:=Aside0.mk hc1
 clear hr1 hc1
 have HB:=Aside0.mk (Below.refl w.heap.size w)
 have H : (if (l0.length : Int) = (l1.length : Int) then (laws_eqTermS.l0 k l0 l1 0) else (some false)) = some r:=h
 clear h
 by_cases c3 : (l0.length : Int) = (l1.length : Int)
 ·rw [if_pos c3] at H
  have c3b0 : ((l0.length : Int) == (l1.length : Int)) = true:=beq_iff_eq.mpr c3
  have c3b1 : ((l0.length : Int) != (l1.length : Int)) = false:=bne_eq_false_iff_eq.mpr c3
  have c3b2 : (l0.length == l1.length) = true:=by first|simpa using c3|(simp at c3 ⊢;omega)
  clear c3
  have H':=Aside0.mk H
  clear H
  go_enter Tryd.func46,Tryd.ntmps46
  go_wp2
  go_loopg [5] k (fun kq v5 w' => ∃ (x5_1 : Int),v5 = .int .i64 x5_1 ∧ Aside0 (laws_eqTermS.l0 kq l0 l1 x5_1 = some r) ∧ Aside0 (kq ≤ k) ∧ Aside0 (Below w.heap.size w w'))
  case atStart => exact ⟨(0),(by first|rfl|(simp;done)|(simp [*];done)),H',⟨Nat.le_refl _⟩,⟨by repeat (first|(with_reducible first|exact HB.out|apply below_alloc|apply pw_below_drewN|apply below_drew1)|exact HB.out)⟩⟩
  case round =>
   clear H'
   try clear c1
   try clear c3
   try clear c3b0
   try clear c3b1
   try clear c3b2
   obtain ⟨x5_1,rfl,HA,HK1,HB⟩:=hrel
   cases gk with
   | zero => exact absurd HA.out (by simp [laws_eqTermS.l0])
   | succ k1 =>
    have H:=HA.out
    clear HA
    simp only [laws_eqTermS.l0] at H
    by_cases c4 : x5_1 < (l0.length : Int)
    ·rw [if_pos c4] at H
     have c4b0 : decide (x5_1 < (l0.length : Int)) = true:=decide_eq_true c4
     clear c4
     by_cases c5 : 0 ≤ x5_1
     rotate_left
     ·rw [if_neg c5] at H
      exact absurd H (by simp)
     rw [if_pos c5] at H
     have c5b0 : decide (0 ≤ x5_1) = true:=decide_eq_true c5
     clear c5
     by_cases c6 : x5_1 < (l1.length : Int)
     rotate_left
     ·rw [if_neg c6] at H
      exact absurd H (by simp)
     rw [if_pos c6] at H
     have c6b0 : decide (x5_1 < (l1.length : Int)) = true:=decide_eq_true c6
     clear c6
     replace H:=Option.bind_eq_some_iff.mp H
     obtain ⟨t121,A70,H⟩:=H
     replace H : (if t121 = true then (laws_eqTermS.l0 k1 l0 l1 (wrap64 (x5_1 + 1))) else (some false)) = some r:=H
     have A7:=Aside0.mk A70
     clear A70
     by_cases c8 : t121 = true
     ·subst c8
      have H1 : (laws_eqTermS.l0 k1 l0 l1 (wrap64 (x5_1 + 1))) = some r:=by rw [if_pos rfl] at H;exact H
      clear H
      have H:=H1
      clear H1
      have H':=Aside0.mk H
      clear H
      try go_wp2
      have n0_:=Aside0.mk (below_drew1 HB.out)
      clear HB
      have HB:=n0_
      clear n0_
      have p119 : 0 ≤ (x5_1 : Int):=of_decide_eq_true (by first|(with_reducible assumption)|assumption)
      have q119 : x5_1 < (l0.length : Int):=of_decide_eq_true (by first|(with_reducible assumption)|assumption)
      obtain ⟨ad119,A119_3,c119_3,e119,hx119_0,hx119_1,hx119_2,hx119_3,hl119_3,hi119_3⟩:=at_T29 HR0.out x5_1 p119 q119
      have hw119_3:=hx119_3
      have hw119_2:=hx119_2
      have hw119_1:=hx119_1
      have hw119_0:=hx119_0
      cases e119
      replace hx119_0:=(HB.out.cell (World.block_lt_of_cell? w _ hx119_0)).trans hx119_0
      replace hx119_1:=(HB.out.cell (World.block_lt_of_cell? w _ hx119_1)).trans hx119_1
      replace hx119_2:=(HB.out.cell (World.block_lt_of_cell? w _ hx119_2)).trans hx119_2
      replace hx119_3:=(HB.out.cell (World.block_lt_of_cell? w _ hx119_3)).trans hx119_3
      have HR119_3:=Aside0.mk hi119_3
      have HC119_3:=Aside0.mk hl119_3
      clear hi119_3 hl119_3
      replace p119:=eq_true p119
      replace q119:=eq_true q119
      have p120 : 0 ≤ (x5_1 : Int):=of_decide_eq_true (by first|(with_reducible assumption)|assumption)
      have q120 : x5_1 < (l1.length : Int):=of_decide_eq_true (by first|(with_reducible assumption)|assumption)
      obtain ⟨ad120,A120_3,c120_3,e120,hx120_0,hx120_1,hx120_2,hx120_3,hl120_3,hi120_3⟩:=at_T29 HR1.out x5_1 p120 q120
      have hw120_3:=hx120_3
      have hw120_2:=hx120_2
      have hw120_1:=hx120_1
      have hw120_0:=hx120_0
      cases e120
      replace hx120_0:=(HB.out.cell (World.block_lt_of_cell? w _ hx120_0)).trans hx120_0
      replace hx120_1:=(HB.out.cell (World.block_lt_of_cell? w _ hx120_1)).trans hx120_1
      replace hx120_2:=(HB.out.cell (World.block_lt_of_cell? w _ hx120_2)).trans hx120_2
      replace hx120_3:=(HB.out.cell (World.block_lt_of_cell? w _ hx120_3)).trans hx120_3
      have HR120_3:=Aside0.mk hi120_3
      have HC120_3:=Aside0.mk hl120_3
      clear hi120_3 hl120_3
      replace p120:=eq_true p120
      replace q120:=eq_true q120
      refine start_ (n:=10) (S:=fun w' => w'.cell? (ad119.add ((x5_1).toNat * 4)) = some (.int .i64 ((rd_T29 l0 x5_1).f0)) ∧ w'.cell? ⟨(ad119.add ((x5_1).toNat * 4)).block,(ad119.add ((x5_1).toNat * 4)).off + 1,none⟩ = some (.string ((rd_T29 l0 x5_1).f1)) ∧ w'.cell? ⟨(ad119.add ((x5_1).toNat * 4)).block,(ad119.add ((x5_1).toNat * 4)).off + 2,none⟩ = some (.int .i64 ((rd_T29 l0 x5_1).f2)) ∧ w'.cell? ⟨(ad119.add ((x5_1).toNat * 4)).block,(ad119.add ((x5_1).toNat * 4)).off + 3,none⟩ = some (.slice A119_3 ((rd_T29 l0 x5_1).f3).length c119_3) ∧ w'.cell? (ad120.add ((x5_1).toNat * 4)) = some (.int .i64 ((rd_T29 l1 x5_1).f0)) ∧ w'.cell? ⟨(ad120.add ((x5_1).toNat * 4)).block,(ad120.add ((x5_1).toNat * 4)).off + 1,none⟩ = some (.string ((rd_T29 l1 x5_1).f1)) ∧ w'.cell? ⟨(ad120.add ((x5_1).toNat * 4)).block,(ad120.add ((x5_1).toNat * 4)).off + 2,none⟩ = some (.int .i64 ((rd_T29 l1 x5_1).f2)) ∧ w'.cell? ⟨(ad120.add ((x5_1).toNat * 4)).block,(ad120.add ((x5_1).toNat * 4)).off + 3,none⟩ = some (.slice A120_3 ((rd_T29 l1 x5_1).f3).length c120_3)) (ds:=[]) #[false,false,false,false,false,false,false,false,false,false] (by kernel_rfl) rfl rfl ⟨((HB.out.cell (World.block_lt_of_cell? w _ hw119_0)).trans hw119_0),((HB.out.cell (World.block_lt_of_cell? w _ hw119_1)).trans hw119_1),((HB.out.cell (World.block_lt_of_cell? w _ hw119_2)).trans hw119_2),((HB.out.cell (World.block_lt_of_cell? w _ hw119_3)).trans hw119_3),((HB.out.cell (World.block_lt_of_cell? w _ hw120_0)).trans hw120_0),((HB.out.cell (World.block_lt_of_cell? w _ hw120_1)).trans hw120_1),((HB.out.cell (World.block_lt_of_cell? w _ hw120_2)).trans hw120_2),((HB.out.cell (World.block_lt_of_cell? w _ hw120_3)).trans hw120_3)⟩ (fun hHeld => ?_);refine with_tabW laws_eqTermS.tab6 laws_eqTermS.bits6 (fun HT_ HW_ => ?_)
      generalize wr.drew = w9 at HB HR119_3 HR120_3 hx119_0 hx119_1 hx119_2 hx119_3 hx120_0 hx120_1 hx120_2 hx120_3 hHeld ⊢
      refine pure_ (i:=0) (N:=some 17) (v:=?_) (a':=?_) #[true,false,false,false,false,false,false,false,false,false] rfl rfl (any_of HT_.out (by kernel_rfl)) (fun _ _ _ h => h) (Or.inl ⟨by rfl,?_⟩) ?_ ?_
      rotate_left
      ·intro w'
       go_simp
       with_reducible rfl
      rotate_left
      ·simp only [Act.put,List.setIfInBounds_toArray,List.set_cons_zero,List.set_cons_succ,i64_w,i32_w]
       rfl
      refine pure_ (i:=1) (N:=some 18) (v:=?_) (a':=?_) #[true,true,false,false,false,false,false,false,false,false] rfl rfl (any_of HT_.out (by kernel_rfl)) (fun _ _ _ h => h) (Or.inl ⟨by rfl,?_⟩) ?_ ?_
      rotate_left
      ·intro w'
       go_simp
       with_reducible rfl
      rotate_left
      ·simp only [Act.put,List.setIfInBounds_toArray,List.set_cons_zero,List.set_cons_succ,i64_w,i32_w]
       rfl
      refine pure_ (i:=2) (N:=some 19) (v:=?_) (a':=?_) #[true,true,true,false,false,false,false,false,false,false] rfl rfl (any_of HT_.out (by kernel_rfl)) (fun _ _ _ h => h) (Or.inl ⟨by rfl,?_⟩) ?_ ?_
      rotate_left
      ·intro w'
       go_simp
       with_reducible rfl
      rotate_left
      ·simp only [Act.put,List.setIfInBounds_toArray,List.set_cons_zero,List.set_cons_succ,i64_w,i32_w]
       rfl
      refine pure_ (i:=4) (N:=some 21) (v:=?_) (a':=?_) #[true,true,true,false,true,false,false,false,false,false] rfl rfl (any_of HT_.out (by kernel_rfl)) (fun _ _ _ h => h) (Or.inl ⟨by rfl,?_⟩) ?_ ?_
      rotate_left
      ·intro w'
       go_simp
       with_reducible rfl
      rotate_left
      ·simp only [Act.put,List.setIfInBounds_toArray,List.set_cons_zero,List.set_cons_succ,i64_w,i32_w]
       rfl
      refine pure_ (i:=5) (N:=some 22) (v:=?_) (a':=?_) #[true,true,true,false,true,true,false,false,false,false] rfl rfl (any_of HT_.out (by kernel_rfl)) (fun _ _ _ h => h) (Or.inl ⟨by rfl,?_⟩) ?_ ?_
      rotate_left
      ·intro w'
       go_simp
       with_reducible rfl
      rotate_left
      ·simp only [Act.put,List.setIfInBounds_toArray,List.set_cons_zero,List.set_cons_succ,i64_w,i32_w]
       rfl
      refine pure_ (i:=6) (N:=some 23) (v:=?_) (a':=?_) #[true,true,true,false,true,true,true,false,false,false] rfl rfl (any_of HT_.out (by kernel_rfl)) (fun _ _ _ h => h) (Or.inl ⟨by rfl,?_⟩) ?_ ?_
      rotate_left
      ·intro w'
       go_simp
       with_reducible rfl
      rotate_left
      ·simp only [Act.put,List.setIfInBounds_toArray,List.set_cons_zero,List.set_cons_succ,i64_w,i32_w]
       rfl
      refine take_ (i:=3) (N:=some 20) (v:=?_) (a':=?_) #[true,true,true,true,true,true,true,false,false,false] rfl rfl (take_ofW HT_.out HW_.out (by kernel_rfl)) (fun _ _ _ h => h) (Or.inl ⟨by rfl,?_⟩) hHeld ?_ ?_
      rotate_left
      ·rintro w' ⟨s0,s1,s2,s3,s4,s5,s6,s7⟩
       go_simp
       with_reducible rfl
      rotate_left
      ·simp only [Act.put,List.setIfInBounds_toArray,List.set_cons_zero,List.set_cons_succ,i64_w,i32_w]
       rfl
      refine take_ (i:=7) (N:=some 24) (v:=?_) (a':=?_) #[true,true,true,true,true,true,true,true,false,false] rfl rfl (take_ofW HT_.out HW_.out (by kernel_rfl)) (fun _ _ _ h => h) (Or.inl ⟨by rfl,?_⟩) hHeld ?_ ?_
      rotate_left
      ·rintro w' ⟨s0,s1,s2,s3,s4,s5,s6,s7⟩
       go_simp
       with_reducible rfl
      rotate_left
      ·simp only [Act.put,List.setIfInBounds_toArray,List.set_cons_zero,List.set_cons_succ,i64_w,i32_w]
       rfl
      refine one_ (i:=8) (N:=some 25) #[true,true,true,true,true,true,true,true,true,false] rfl rfl (one_of HT_.out (by kernel_rfl)) (by decide) (fun K hK => ?_)
      refine goes_ Tryd.func14 (by kernel_rfl) rfl #[.agg #[.int .i64 ((rd_T29 l0 x5_1).f0),.string ((rd_T29 l0 x5_1).f1),.int .i64 ((rd_T29 l0 x5_1).f2),.slice A119_3 ((rd_T29 l0 x5_1).f3).length c119_3],.agg #[.int .i64 ((rd_T29 l1 x5_1).f0),.string ((rd_T29 l1 x5_1).f1),.int .i64 ((rd_T29 l1 x5_1).f2),.slice A120_3 ((rd_T29 l1 x5_1).f3).length c120_3]] (by rfl) rfl rfl (by (try simp only [List.map_toArray,List.map_cons,List.map_nil]);first|done|rfl|(simp only [List.length_drop,List.length_take];rfl)) ?_
      with_reducible refine (fk_laws_eqTerm.calls k1 ((rd_T29 l0 x5_1).f0) ((rd_T29 l0 x5_1).f1) ((rd_T29 l0 x5_1).f2) _ _ ((rd_T29 l0 x5_1).f3) ((rd_T29 l1 x5_1).f0) ((rd_T29 l1 x5_1).f1) ((rd_T29 l1 x5_1).f2) _ _ ((rd_T29 l1 x5_1).f3) true _ ?side1 ?side2 ?side3 ?side4 A7.out).mono ?_
      (case side1 => repeat (first|exact (Kd.C_below HR119_3.out HB.out)|(with_reducible refine Kd.C_alloc ?_ _)|(with_reducible refine Kd.C_drewN ?_ _)|(with_reducible refine Kd.C_drew ?_)))
      (case side2 => exact HC119_3.out)
      (case side3 => repeat (first|exact (Kd.C_below HR120_3.out HB.out)|(with_reducible refine Kd.C_alloc ?_ _)|(with_reducible refine Kd.C_drewN ?_ _)|(with_reducible refine Kd.C_drew ?_)))
      (case side4 => exact HC120_3.out)
      rintro e w10 ⟨rfl,hb⟩
      refine ⟨_,rfl,?_⟩
      have n0_:=Aside0.mk (below_step (by repeat (first|(with_reducible first|exact HB.out|apply below_alloc|apply pw_below_drewN|apply below_drew1)|exact HB.out)) hb)
      clear HB
      have HB:=n0_
      clear n0_
      (try clear hb)
      refine hK.out _ _ ⟨((HB.out.cell (World.block_lt_of_cell? w _ hw119_0)).trans hw119_0),((HB.out.cell (World.block_lt_of_cell? w _ hw119_1)).trans hw119_1),((HB.out.cell (World.block_lt_of_cell? w _ hw119_2)).trans hw119_2),((HB.out.cell (World.block_lt_of_cell? w _ hw119_3)).trans hw119_3),((HB.out.cell (World.block_lt_of_cell? w _ hw120_0)).trans hw120_0),((HB.out.cell (World.block_lt_of_cell? w _ hw120_1)).trans hw120_1),((HB.out.cell (World.block_lt_of_cell? w _ hw120_2)).trans hw120_2),((HB.out.cell (World.block_lt_of_cell? w _ hw120_3)).trans hw120_3)⟩ (fun hHeld => ?_)
      clear hK K
      refine norm_ (a':=?_) ?_ ?_
      rotate_left
      ·show Act.put _ (some 25) _ = _
       simp only [Act.put,List.setIfInBounds_toArray,List.set_cons_zero,List.set_cons_succ,i64_w,i32_w]
       rfl
      refine pure_ (i:=9) (N:=some 26) (v:=?_) (a':=?_) #[true,true,true,true,true,true,true,true,true,true] rfl rfl (any_of HT_.out (by kernel_rfl)) (fun _ _ _ h => h) (Or.inl ⟨by rfl,?_⟩) ?_ ?_
      rotate_left
      ·intro w'
       go_simp
       with_reducible rfl
      rotate_left
      ·simp only [Act.put,List.setIfInBounds_toArray,List.set_cons_zero,List.set_cons_succ,i64_w,i32_w]
       rfl
      refine done_ (done_of HT_.out (by kernel_rfl)) ?_
      try go_wp2
      go_roundg k1
      case measure => have:=HK1.out;omega
      case rel => exact ⟨(wrap64 (x5_1 + 1)),(by first|rfl|(simp;done)|(simp [*];done)),H',⟨by have:=HK1.out;omega⟩,⟨by repeat (first|(with_reducible first|exact HB.out|apply below_alloc|apply pw_below_drewN|apply below_drew1)|exact HB.out)⟩⟩
     ·replace c8:=Bool.eq_false_iff.mpr c8
      subst c8
      have H1 : (some false) = some r:=by rw [if_neg (show ¬ (false = true) by decide)] at H;exact H
      clear H
      have H:=H1
      clear H1
      obtain rfl:=Option.some.inj H
      try go_wp2
      have n0_:=Aside0.mk (below_drew1 HB.out)
      clear HB
      have HB:=n0_
      clear n0_
      have p119 : 0 ≤ (x5_1 : Int):=of_decide_eq_true (by first|(with_reducible assumption)|assumption)
      have q119 : x5_1 < (l0.length : Int):=of_decide_eq_true (by first|(with_reducible assumption)|assumption)
      obtain ⟨ad119,A119_3,c119_3,e119,hx119_0,hx119_1,hx119_2,hx119_3,hl119_3,hi119_3⟩:=at_T29 HR0.out x5_1 p119 q119
      have hw119_3:=hx119_3
      have hw119_2:=hx119_2
      have hw119_1:=hx119_1
      have hw119_0:=hx119_0
      cases e119
      replace hx119_0:=(HB.out.cell (World.block_lt_of_cell? w _ hx119_0)).trans hx119_0
      replace hx119_1:=(HB.out.cell (World.block_lt_of_cell? w _ hx119_1)).trans hx119_1
      replace hx119_2:=(HB.out.cell (World.block_lt_of_cell? w _ hx119_2)).trans hx119_2
      replace hx119_3:=(HB.out.cell (World.block_lt_of_cell? w _ hx119_3)).trans hx119_3
      have HR119_3:=Aside0.mk hi119_3
      have HC119_3:=Aside0.mk hl119_3
      clear hi119_3 hl119_3
      replace p119:=eq_true p119
      replace q119:=eq_true q119
      have p120 : 0 ≤ (x5_1 : Int):=of_decide_eq_true (by first|(with_reducible assumption)|assumption)
      have q120 : x5_1 < (l1.length : Int):=of_decide_eq_true (by first|(with_reducible assumption)|assumption)
      obtain ⟨ad120,A120_3,c120_3,e120,hx120_0,hx120_1,hx120_2,hx120_3,hl120_3,hi120_3⟩:=at_T29 HR1.out x5_1 p120 q120
      have hw120_3:=hx120_3
      have hw120_2:=hx120_2
      have hw120_1:=hx120_1
      have hw120_0:=hx120_0
      cases e120
      replace hx120_0:=(HB.out.cell (World.block_lt_of_cell? w _ hx120_0)).trans hx120_0
      replace hx120_1:=(HB.out.cell (World.block_lt_of_cell? w _ hx120_1)).trans hx120_1
      replace hx120_2:=(HB.out.cell (World.block_lt_of_cell? w _ hx120_2)).trans hx120_2
      replace hx120_3:=(HB.out.cell (World.block_lt_of_cell? w _ hx120_3)).trans hx120_3
      have HR120_3:=Aside0.mk hi120_3
      have HC120_3:=Aside0.mk hl120_3
      clear hi120_3 hl120_3
      replace p120:=eq_true p120
      replace q120:=eq_true q120
      refine start_ (n:=10) (S:=fun w' => w'.cell? (ad119.add ((x5_1).toNat * 4)) = some (.int .i64 ((rd_T29 l0 x5_1).f0)) ∧ w'.cell? ⟨(ad119.add ((x5_1).toNat * 4)).block,(ad119.add ((x5_1).toNat * 4)).off + 1,none⟩ = some (.string ((rd_T29 l0 x5_1).f1)) ∧ w'.cell? ⟨(ad119.add ((x5_1).toNat * 4)).block,(ad119.add ((x5_1).toNat * 4)).off + 2,none⟩ = some (.int .i64 ((rd_T29 l0 x5_1).f2)) ∧ w'.cell? ⟨(ad119.add ((x5_1).toNat * 4)).block,(ad119.add ((x5_1).toNat * 4)).off + 3,none⟩ = some (.slice A119_3 ((rd_T29 l0 x5_1).f3).length c119_3) ∧ w'.cell? (ad120.add ((x5_1).toNat * 4)) = some (.int .i64 ((rd_T29 l1 x5_1).f0)) ∧ w'.cell? ⟨(ad120.add ((x5_1).toNat * 4)).block,(ad120.add ((x5_1).toNat * 4)).off + 1,none⟩ = some (.string ((rd_T29 l1 x5_1).f1)) ∧ w'.cell? ⟨(ad120.add ((x5_1).toNat * 4)).block,(ad120.add ((x5_1).toNat * 4)).off + 2,none⟩ = some (.int .i64 ((rd_T29 l1 x5_1).f2)) ∧ w'.cell? ⟨(ad120.add ((x5_1).toNat * 4)).block,(ad120.add ((x5_1).toNat * 4)).off + 3,none⟩ = some (.slice A120_3 ((rd_T29 l1 x5_1).f3).length c120_3)) (ds:=[]) #[false,false,false,false,false,false,false,false,false,false] (by kernel_rfl) rfl rfl ⟨((HB.out.cell (World.block_lt_of_cell? w _ hw119_0)).trans hw119_0),((HB.out.cell (World.block_lt_of_cell? w _ hw119_1)).trans hw119_1),((HB.out.cell (World.block_lt_of_cell? w _ hw119_2)).trans hw119_2),((HB.out.cell (World.block_lt_of_cell? w _ hw119_3)).trans hw119_3),((HB.out.cell (World.block_lt_of_cell? w _ hw120_0)).trans hw120_0),((HB.out.cell (World.block_lt_of_cell? w _ hw120_1)).trans hw120_1),((HB.out.cell (World.block_lt_of_cell? w _ hw120_2)).trans hw120_2),((HB.out.cell (World.block_lt_of_cell? w _ hw120_3)).trans hw120_3)⟩ (fun hHeld => ?_);refine with_tabW laws_eqTermS.tab6 laws_eqTermS.bits6 (fun HT_ HW_ => ?_)
      generalize wr.drew = w11 at HB HR119_3 HR120_3 hx119_0 hx119_1 hx119_2 hx119_3 hx120_0 hx120_1 hx120_2 hx120_3 hHeld ⊢
      refine pure_ (i:=0) (N:=some 17) (v:=?_) (a':=?_) #[true,false,false,false,false,false,false,false,false,false] rfl rfl (any_of HT_.out (by kernel_rfl)) (fun _ _ _ h => h) (Or.inl ⟨by rfl,?_⟩) ?_ ?_
      rotate_left
      ·intro w'
       go_simp
       with_reducible rfl
      rotate_left
      ·simp only [Act.put,List.setIfInBounds_toArray,List.set_cons_zero,List.set_cons_succ,i64_w,i32_w]
       rfl
      refine pure_ (i:=1) (N:=some 18) (v:=?_) (a':=?_) #[true,true,false,false,false,false,false,false,false,false] rfl rfl (any_of HT_.out (by kernel_rfl)) (fun _ _ _ h => h) (Or.inl ⟨by rfl,?_⟩) ?_ ?_
      rotate_left
      ·intro w'
       go_simp
       with_reducible rfl
      rotate_left
      ·simp only [Act.put,List.setIfInBounds_toArray,List.set_cons_zero,List.set_cons_succ,i64_w,i32_w]
       rfl
      refine pure_ (i:=2) (N:=some 19) (v:=?_) (a':=?_) #[true,true,true,false,false,false,false,false,false,false] rfl rfl (any_of HT_.out (by kernel_rfl)) (fun _ _ _ h => h) (Or.inl ⟨by rfl,?_⟩) ?_ ?_
      rotate_left
      ·intro w'
       go_simp
       with_reducible rfl
      rotate_left
      ·simp only [Act.put,List.setIfInBounds_toArray,List.set_cons_zero,List.set_cons_succ,i64_w,i32_w]
       rfl
      refine pure_ (i:=4) (N:=some 21) (v:=?_) (a':=?_) #[true,true,true,false,true,false,false,false,false,false] rfl rfl (any_of HT_.out (by kernel_rfl)) (fun _ _ _ h => h) (Or.inl ⟨by rfl,?_⟩) ?_ ?_
      rotate_left
      ·intro w'
       go_simp
       with_reducible rfl
      rotate_left
      ·simp only [Act.put,List.setIfInBounds_toArray,List.set_cons_zero,List.set_cons_succ,i64_w,i32_w]
       rfl
      refine pure_ (i:=5) (N:=some 22) (v:=?_) (a':=?_) #[true,true,true,false,true,true,false,false,false,false] rfl rfl (any_of HT_.out (by kernel_rfl)) (fun _ _ _ h => h) (Or.inl ⟨by rfl,?_⟩) ?_ ?_
      rotate_left
      ·intro w'
       go_simp
       with_reducible rfl
      rotate_left
      ·simp only [Act.put,List.setIfInBounds_toArray,List.set_cons_zero,List.set_cons_succ,i64_w,i32_w]
       rfl
      refine pure_ (i:=6) (N:=some 23) (v:=?_) (a':=?_) #[true,true,true,false,true,true,true,false,false,false] rfl rfl (any_of HT_.out (by kernel_rfl)) (fun _ _ _ h => h) (Or.inl ⟨by rfl,?_⟩) ?_ ?_
      rotate_left
      ·intro w'
       go_simp
       with_reducible rfl
      rotate_left
      ·simp only [Act.put,List.setIfInBounds_toArray,List.set_cons_zero,List.set_cons_succ,i64_w,i32_w]
       rfl
      refine take_ (i:=3) (N:=some 20) (v:=?_) (a':=?_) #[true,true,true,true,true,true,true,false,false,false] rfl rfl (take_ofW HT_.out HW_.out (by kernel_rfl)) (fun _ _ _ h => h) (Or.inl ⟨by rfl,?_⟩) hHeld ?_ ?_
      rotate_left
      ·rintro w' ⟨s0,s1,s2,s3,s4,s5,s6,s7⟩
       go_simp
       with_reducible rfl
      rotate_left
      ·simp only [Act.put,List.setIfInBounds_toArray,List.set_cons_zero,List.set_cons_succ,i64_w,i32_w]
       rfl
      refine take_ (i:=7) (N:=some 24) (v:=?_) (a':=?_) #[true,true,true,true,true,true,true,true,false,false] rfl rfl (take_ofW HT_.out HW_.out (by kernel_rfl)) (fun _ _ _ h => h) (Or.inl ⟨by rfl,?_⟩) hHeld ?_ ?_
      rotate_left
      ·rintro w' ⟨s0,s1,s2,s3,s4,s5,s6,s7⟩
       go_simp
       with_reducible rfl
      rotate_left
      ·simp only [Act.put,List.setIfInBounds_toArray,List.set_cons_zero,List.set_cons_succ,i64_w,i32_w]
       rfl
      refine one_ (i:=8) (N:=some 25) #[true,true,true,true,true,true,true,true,true,false] rfl rfl (one_of HT_.out (by kernel_rfl)) (by decide) (fun K hK => ?_)
      refine goes_ Tryd.func14 (by kernel_rfl) rfl #[.agg #[.int .i64 ((rd_T29 l0 x5_1).f0),.string ((rd_T29 l0 x5_1).f1),.int .i64 ((rd_T29 l0 x5_1).f2),.slice A119_3 ((rd_T29 l0 x5_1).f3).length c119_3],.agg #[.int .i64 ((rd_T29 l1 x5_1).f0),.string ((rd_T29 l1 x5_1).f1),.int .i64 ((rd_T29 l1 x5_1).f2),.slice A120_3 ((rd_T29 l1 x5_1).f3).length c120_3]] (by rfl) rfl rfl (by (try simp only [List.map_toArray,List.map_cons,List.map_nil]);first|done|rfl|(simp only [List.length_drop,List.length_take];rfl)) ?_
      with_reducible refine (fk_laws_eqTerm.calls k1 ((rd_T29 l0 x5_1).f0) ((rd_T29 l0 x5_1).f1) ((rd_T29 l0 x5_1).f2) _ _ ((rd_T29 l0 x5_1).f3) ((rd_T29 l1 x5_1).f0) ((rd_T29 l1 x5_1).f1) ((rd_T29 l1 x5_1).f2) _ _ ((rd_T29 l1 x5_1).f3) false _ ?side1 ?side2 ?side3 ?side4 A7.out).mono ?_
      (case side1 => repeat (first|exact (Kd.C_below HR119_3.out HB.out)|(with_reducible refine Kd.C_alloc ?_ _)|(with_reducible refine Kd.C_drewN ?_ _)|(with_reducible refine Kd.C_drew ?_)))
      (case side2 => exact HC119_3.out)
      (case side3 => repeat (first|exact (Kd.C_below HR120_3.out HB.out)|(with_reducible refine Kd.C_alloc ?_ _)|(with_reducible refine Kd.C_drewN ?_ _)|(with_reducible refine Kd.C_drew ?_)))
      (case side4 => exact HC120_3.out)
      rintro e w12 ⟨rfl,hb⟩
      refine ⟨_,rfl,?_⟩
      have n0_:=Aside0.mk (below_step (by repeat (first|(with_reducible first|exact HB.out|apply below_alloc|apply pw_below_drewN|apply below_drew1)|exact HB.out)) hb)
      clear HB
      have HB:=n0_
      clear n0_
      (try clear hb)
      refine hK.out _ _ ⟨((HB.out.cell (World.block_lt_of_cell? w _ hw119_0)).trans hw119_0),((HB.out.cell (World.block_lt_of_cell? w _ hw119_1)).trans hw119_1),((HB.out.cell (World.block_lt_of_cell? w _ hw119_2)).trans hw119_2),((HB.out.cell (World.block_lt_of_cell? w _ hw119_3)).trans hw119_3),((HB.out.cell (World.block_lt_of_cell? w _ hw120_0)).trans hw120_0),((HB.out.cell (World.block_lt_of_cell? w _ hw120_1)).trans hw120_1),((HB.out.cell (World.block_lt_of_cell? w _ hw120_2)).trans hw120_2),((HB.out.cell (World.block_lt_of_cell? w _ hw120_3)).trans hw120_3)⟩ (fun hHeld => ?_)
      clear hK K
      refine norm_ (a':=?_) ?_ ?_
      rotate_left
      ·show Act.put _ (some 25) _ = _
       simp only [Act.put,List.setIfInBounds_toArray,List.set_cons_zero,List.set_cons_succ,i64_w,i32_w]
       rfl
      refine pure_ (i:=9) (N:=some 26) (v:=?_) (a':=?_) #[true,true,true,true,true,true,true,true,true,true] rfl rfl (any_of HT_.out (by kernel_rfl)) (fun _ _ _ h => h) (Or.inl ⟨by rfl,?_⟩) ?_ ?_
      rotate_left
      ·intro w'
       go_simp
       with_reducible rfl
      rotate_left
      ·simp only [Act.put,List.setIfInBounds_toArray,List.set_cons_zero,List.set_cons_succ,i64_w,i32_w]
       rfl
      refine done_ (done_of HT_.out (by kernel_rfl)) ?_
      try go_wp2
      go_ret
      exact ⟨by first|rfl|(simp [errW_none,errW_some] <;> rfl)|(simp [*,errW_none,errW_some] <;> rfl),by repeat (first|(with_reducible first|exact HB.out|apply below_alloc|apply pw_below_drewN|apply below_drew1)|exact HB.out)⟩
    ·rw [if_neg c4] at H
     have c4b0 : decide (x5_1 < (l0.length : Int)) = false:=decide_eq_false c4
     clear c4
     obtain rfl:=Option.some.inj H
     go_wp2
     go_ret
     exact ⟨by first|rfl|(simp [errW_none,errW_some] <;> rfl)|(simp [*,errW_none,errW_some] <;> rfl),by repeat (first|(with_reducible first|exact HB.out|apply below_alloc|apply pw_below_drewN|apply below_drew1)|exact HB.out)⟩
 ·rw [if_neg c3] at H
  have c3b0 : ((l0.length : Int) == (l1.length : Int)) = false:=beq_eq_false_iff_ne.mpr c3
  have c3b1 : ((l0.length : Int) != (l1.length : Int)) = true:=bne_iff_ne.mpr c3
  have c3b2 : (l0.length == l1.length) = false:=by first|simpa using c3|(simp at c3 ⊢;omega)
  obtain rfl:=Option.some.inj H
  go_enter Tryd.func46,Tryd.ntmps46
  go_wp2
  go_ret
  exact ⟨by first|rfl|(simp [errW_none,errW_some] <;> rfl)|(simp [*,errW_none,errW_some] <;> rfl),by repeat (first|(with_reducible first|exact HB.out|apply below_alloc|apply pw_below_drewN|apply below_drew1)|exact HB.out)⟩

/-! ### laws_eqTerm: function 14 -/
def laws_eqTerm.f (k : Nat) (a0_0 : Int) (a0_1 : ByteArray) (a0_2 : Int) (l0_3 : List (S29)) (a1_0 : Int) (a1_1 : ByteArray) (a1_2 : Int) (l1_3 : List (S29)) : Option (Bool):=if a0_0 = a1_0 then (if a0_1.toList = a1_1.toList then (if a0_2 = a1_2 then ((laws_eqTermS.f k l0_3 l1_3).bind fun t124 => (if t124 = true then (some true) else (some false))) else (some false)) else (some false)) else (some false)
theorem laws_eqTerm.mono : ∀ a0 a1 a2 a3 a4 a5 a6 a7 k,LeO (laws_eqTerm.f k a0 a1 a2 a3 a4 a5 a6 a7) (laws_eqTerm.f (k + 1) a0 a1 a2 a3 a4 a5 a6 a7):=by
 intro a0 a1 a2 a3 a4 a5 a6 a7 k
 unfold laws_eqTerm.f
 repeat' first
   | (with_reducible exact laws_eqTermS.mono _ _ _)
   | (with_reducible exact LeO.refl _)
   | (with_reducible exact LeO.none _)
   | (with_reducible refine LeO.ite ?_ ?_)
   | (with_reducible refine LeO.bind ?_ (fun _ => ?_))
   | exact laws_eqTermS.mono _ _ _
   | exact LeO.none _
   | refine LeO.ite ?_ ?_
   | refine LeO.bind ?_ (fun _ => ?_)
set_option maxHeartbeats 8000000 in
set_option maxRecDepth 100000 in
theorem laws_eqTerm.calls (k : Nat) (a0_0 : Int) (a0_1 : ByteArray) (a0_2 : Int) (A0_3 : Option Addr) (c0_3 : Nat) (l0_3 : List (S29)) (a1_0 : Int) (a1_1 : ByteArray) (a1_2 : Int) (A1_3 : Option Addr) (c1_3 : Nat) (l1_3 : List (S29)) (r : Bool) (w : World) (hr0_3 : Kd.C k29 w A0_3 l0_3.length l0_3) (hc0_3 : l0_3.length ≤ c0_3) (hr1_3 : Kd.C k29 w A1_3 l1_3.length l1_3) (hc1_3 : l1_3.length ≤ c1_3) (h : laws_eqTerm.f k a0_0 a0_1 a0_2 l0_3 a1_0 a1_1 a1_2 l1_3 = some r) :
  Calls Tryd.prog 14 #[.agg #[.int .i64 a0_0,.string a0_1,.int .i64 a0_2,.slice A0_3 l0_3.length c0_3],.agg #[.int .i64 a1_0,.string a1_1,.int .i64 a1_2,.slice A1_3 l1_3.length c1_3]] w fun e w' => e = .returned (.bool r) ∧ Below w.heap.size w w':=by
 have hu29:=Tryd.underlying29
 have HR0_3:=Aside0.mk hr0_3
 have HC0_3:=Aside0.mk hc0_3
 clear hr0_3 hc0_3
 have HR1_3:=Aside0.mk hr1_3
 have HC1_3:=Aside0.mk hc1_3
 clear hr1_3 hc1_3
 have HB:=Aside0.mk (Below.refl w.heap.size w)
 have H : (if a0_0 = a1_0 then (if a0_1.toList = a1_1.toList then (if a0_2 = a1_2 then ((laws_eqTermS.f k l0_3 l1_3).bind fun t124 => (if t124 = true then (some true) else (some false))) else (some false)) else (some false)) else (some false)) = some r:=h
 clear h
 by_cases c3 : a0_0 = a1_0
 ·rw [if_pos c3] at H
  have c3b0 : (a0_0 == a1_0) = true:=beq_iff_eq.mpr c3
  have c3b1 : (a0_0 != a1_0) = false:=bne_eq_false_iff_eq.mpr c3
  clear c3
  by_cases c4 : a0_1.toList = a1_1.toList
  ·rw [if_pos c4] at H
   have c4b0 : (a0_1.toList == a1_1.toList) = true:=beq_iff_eq.mpr c4
   have c4b1 : (a0_1.toList != a1_1.toList) = false:=bne_eq_false_iff_eq.mpr c4
   clear c4
   by_cases c5 : a0_2 = a1_2
   ·rw [if_pos c5] at H
    have c5b0 : (a0_2 == a1_2) = true:=beq_iff_eq.mpr c5
    have c5b1 : (a0_2 != a1_2) = false:=bne_eq_false_iff_eq.mpr c5
    clear c5
    replace H:=Option.bind_eq_some_iff.mp H
    obtain ⟨t124,A60,H⟩:=H
    replace H : (if t124 = true then (some true) else (some false)) = some r:=H
    have A6:=Aside0.mk A60
    clear A60
    by_cases c7 : t124 = true
    ·subst c7
     have H1 : (some true) = some r:=by rw [if_pos rfl] at H;exact H
     clear H
     have H:=H1
     clear H1
     obtain rfl:=Option.some.inj H
     go_enter Tryd.func14,Tryd.ntmps14
     go_wp2_with (first|((with_reducible refine gate_dst (N:=2) rfl ?_);refine box_event ?hg (N:=2) ?hd (cs:=#[.int .i64 a0_0,.string a0_1,.int .i64 a0_2,.slice A0_3 l0_3.length c0_3]) (t:=29) ?hr ?_;(case hd => rfl);(case hg => rfl);(case hr => first|(go_simp;done)|(go_simp;rfl));intro gb122 hg w8 hbox hb;have n0_:=Aside0.mk (below_step (by repeat (first|(with_reducible first|exact HB.out|apply below_alloc|apply pw_below_drewN|apply below_drew1)|exact HB.out)) hb);have n1_:=Aside0.mk (hbox);have n2_:=Aside0.mk ((by rw [hg];exact (below_size (by repeat (first|(with_reducible first|exact HB.out|apply below_alloc|apply pw_below_drewN|apply below_drew1)|exact HB.out))) : w.heap.size ≤ gb122));have n3_:=Aside0.mk ((by rw [hg];exact (below_size (by repeat (first|(with_reducible first|exact HB.out|apply below_alloc|apply pw_below_drewN|apply below_drew1)|exact HB.out))) : w.heap.size ≤ gb122));clear HB;have HB:=n0_;have BK122:=n1_;have GW122:=n2_;have GE122:=n3_;clear n0_ n1_ n2_ n3_;clear hb hbox hg)|((with_reducible refine gate_dst (N:=3) rfl ?_);refine box_event ?hg (N:=3) ?hd (cs:=#[.int .i64 a1_0,.string a1_1,.int .i64 a1_2,.slice A1_3 l1_3.length c1_3]) (t:=29) ?hr ?_;(case hd => rfl);(case hg => rfl);(case hr => first|(go_simp;done)|(go_simp;rfl));intro gb123 hg w9 hbox hb;have n0_:=Aside0.mk (blk_below (g:=gb122) (o:=.cells #[.int .i64 a0_0,.string a0_1,.int .i64 a0_2,.slice A0_3 l0_3.length c0_3] 29 (0,0)) (by (with_reducible repeat (first|refine blk_drewN ?_ _|refine blk_drew ?_|refine blk_alloc ?_ _));exact BK122.out) hb);have n1_:=Aside0.mk (below_step (by repeat (first|(with_reducible first|exact HB.out|apply below_alloc|apply pw_below_drewN|apply below_drew1|refine below_set ?_ GE122.out)|exact HB.out)) hb);have n2_:=Aside0.mk (hbox);have n3_:=Aside0.mk ((by rw [hg];exact (below_size (by repeat (first|(with_reducible first|exact HB.out|apply below_alloc|apply pw_below_drewN|apply below_drew1|refine below_set ?_ GE122.out)|exact HB.out))) : w.heap.size ≤ gb123));have n4_:=Aside0.mk ((by rw [hg];exact (below_size (by repeat (first|(with_reducible first|exact HB.out|apply below_alloc|apply pw_below_drewN|apply below_drew1|refine below_set ?_ GE122.out)|exact HB.out))) : w.heap.size ≤ gb123));have n5_:=Aside0.mk ((by rw [hg];exact Nat.ne_of_lt (blk_lt (g:=gb122) (o:=.cells #[.int .i64 a0_0,.string a0_1,.int .i64 a0_2,.slice A0_3 l0_3.length c0_3] 29 (0,0)) (by (with_reducible repeat (first|refine blk_drewN ?_ _|refine blk_drew ?_|refine blk_alloc ?_ _));exact BK122.out)) : gb122 ≠ gb123));have n6_:=Aside0.mk ((by rw [hg];exact Nat.ne_of_gt (blk_lt (g:=gb122) (o:=.cells #[.int .i64 a0_0,.string a0_1,.int .i64 a0_2,.slice A0_3 l0_3.length c0_3] 29 (0,0)) (by (with_reducible repeat (first|refine blk_drewN ?_ _|refine blk_drew ?_|refine blk_alloc ?_ _));exact BK122.out)) : gb123 ≠ gb122));clear BK122;clear HB;have BK122:=n0_;have HB:=n1_;have BK123:=n2_;have GW123:=n3_;have GE123:=n4_;have NB122_123:=n5_;have NB123_122:=n6_;clear n0_ n1_ n2_ n3_ n4_ n5_ n6_;clear hb hbox hg;have hnb10:=NB122_123.out;have hnc10:=NB123_122.out;have hcz11_0 : w9.cell? ⟨gb122,0,none⟩ = some (.int .i64 a0_0):=(blk_cell BK122.out 0).trans rfl;have hcz11_1 : w9.cell? ⟨gb122,1,none⟩ = some (.string a0_1):=(blk_cell BK122.out 1).trans rfl;have hcz11_2 : w9.cell? ⟨gb122,2,none⟩ = some (.int .i64 a0_2):=(blk_cell BK122.out 2).trans rfl;have hcz11_3 : w9.cell? ⟨gb122,3,none⟩ = some (.slice A0_3 l0_3.length c0_3):=(blk_cell BK122.out 3).trans rfl;have hfz11_0:=blk_frozen BK122.out 0;have hfz11_1:=blk_frozen BK122.out 1;have hfz11_2:=blk_frozen BK122.out 2;have hfz11_3:=blk_frozen BK122.out 3;have hcz12_0 : w9.cell? ⟨gb123,0,none⟩ = some (.int .i64 a1_0):=(blk_cell BK123.out 0).trans rfl;have hcz12_1 : w9.cell? ⟨gb123,1,none⟩ = some (.string a1_1):=(blk_cell BK123.out 1).trans rfl;have hcz12_2 : w9.cell? ⟨gb123,2,none⟩ = some (.int .i64 a1_2):=(blk_cell BK123.out 2).trans rfl;have hcz12_3 : w9.cell? ⟨gb123,3,none⟩ = some (.slice A1_3 l1_3.length c1_3):=(blk_cell BK123.out 3).trans rfl;have hfz12_0:=blk_frozen BK123.out 0;have hfz12_1:=blk_frozen BK123.out 1;have hfz12_2:=blk_frozen BK123.out 2;have hfz12_3:=blk_frozen BK123.out 3)|((with_reducible refine gate_callee (f:=46) rfl ?_);refine goesL_ (some 24) rfl rfl Tryd.func46 (by kernel_rfl) rfl #[.slice A0_3 l0_3.length c0_3,.slice A1_3 l1_3.length c1_3] rfl (by (try simp only [List.map_toArray,List.map_cons,List.map_nil]);first|done|rfl|(simp only [List.length_drop,List.length_take];rfl)) ?_;(with_reducible refine (laws_eqTermS.calls k _ _ l0_3 _ _ l1_3 true _ ?side1 ?side2 ?side3 ?side4 A6.out).mono ?_);(case side1 => repeat (first|exact (Kd.C_below HR0_3.out HB.out)|(with_reducible refine Kd.C_alloc ?_ _)|(with_reducible refine Kd.C_drewN ?_ _)|(with_reducible refine Kd.C_drew ?_)));(case side2 => exact HC0_3.out);(case side3 => repeat (first|exact (Kd.C_below HR1_3.out HB.out)|(with_reducible refine Kd.C_alloc ?_ _)|(with_reducible refine Kd.C_drewN ?_ _)|(with_reducible refine Kd.C_drew ?_)));(case side4 => exact HC1_3.out);rintro e w13 ⟨rfl,hb⟩;refine ⟨_,rfl,?_⟩;have n0_:=Aside0.mk (blk_below (g:=gb122) (o:=.cells #[.int .i64 a0_0,.string a0_1,.int .i64 a0_2,.slice A0_3 l0_3.length c0_3] 29 (0,0)) (by (with_reducible repeat (first|refine blk_drewN ?_ _|refine blk_drew ?_|refine blk_alloc ?_ _));exact BK122.out) hb);have n1_:=Aside0.mk (blk_below (g:=gb123) (o:=.cells #[.int .i64 a1_0,.string a1_1,.int .i64 a1_2,.slice A1_3 l1_3.length c1_3] 29 (0,0)) (by (with_reducible repeat (first|refine blk_drewN ?_ _|refine blk_drew ?_|refine blk_alloc ?_ _));exact BK123.out) hb);have n2_:=Aside0.mk (below_step (by repeat (first|(with_reducible first|exact HB.out|apply below_alloc|apply pw_below_drewN|apply below_drew1|refine below_set ?_ GE122.out|refine below_set ?_ GE123.out)|exact HB.out)) hb);clear BK122;clear BK123;clear HB;have BK122:=n0_;have BK123:=n1_;have HB:=n2_;clear n0_ n1_ n2_;(try clear hb)))
     go_ret
     exact ⟨by first|rfl|(simp [errW_none,errW_some] <;> rfl)|(simp [*,errW_none,errW_some] <;> rfl),by repeat (first|(with_reducible first|exact HB.out|apply below_alloc|apply pw_below_drewN|apply below_drew1|refine below_set ?_ GE122.out|refine below_set ?_ GE123.out)|exact HB.out)⟩
    ·replace c7:=Bool.eq_false_iff.mpr c7
     subst c7
     have H1 : (some false) = some r:=by rw [if_neg (show ¬ (false = true) by decide)] at H;exact H
     clear H
     have H:=H1
     clear H1
     obtain rfl:=Option.some.inj H
     go_enter Tryd.func14,Tryd.ntmps14
     go_wp2_with (first|((with_reducible refine gate_dst (N:=2) rfl ?_);refine box_event ?hg (N:=2) ?hd (cs:=#[.int .i64 a0_0,.string a0_1,.int .i64 a0_2,.slice A0_3 l0_3.length c0_3]) (t:=29) ?hr ?_;(case hd => rfl);(case hg => rfl);(case hr => first|(go_simp;done)|(go_simp;rfl));intro gb122 hg w14 hbox hb;have n0_:=Aside0.mk (below_step (by repeat (first|(with_reducible first|exact HB.out|apply below_alloc|apply pw_below_drewN|apply below_drew1)|exact HB.out)) hb);have n1_:=Aside0.mk (hbox);have n2_:=Aside0.mk ((by rw [hg];exact (below_size (by repeat (first|(with_reducible first|exact HB.out|apply below_alloc|apply pw_below_drewN|apply below_drew1)|exact HB.out))) : w.heap.size ≤ gb122));have n3_:=Aside0.mk ((by rw [hg];exact (below_size (by repeat (first|(with_reducible first|exact HB.out|apply below_alloc|apply pw_below_drewN|apply below_drew1)|exact HB.out))) : w.heap.size ≤ gb122));clear HB;have HB:=n0_;have BK122:=n1_;have GW122:=n2_;have GE122:=n3_;clear n0_ n1_ n2_ n3_;clear hb hbox hg)|((with_reducible refine gate_dst (N:=3) rfl ?_);refine box_event ?hg (N:=3) ?hd (cs:=#[.int .i64 a1_0,.string a1_1,.int .i64 a1_2,.slice A1_3 l1_3.length c1_3]) (t:=29) ?hr ?_;(case hd => rfl);(case hg => rfl);(case hr => first|(go_simp;done)|(go_simp;rfl));intro gb123 hg w15 hbox hb;have n0_:=Aside0.mk (blk_below (g:=gb122) (o:=.cells #[.int .i64 a0_0,.string a0_1,.int .i64 a0_2,.slice A0_3 l0_3.length c0_3] 29 (0,0)) (by (with_reducible repeat (first|refine blk_drewN ?_ _|refine blk_drew ?_|refine blk_alloc ?_ _));exact BK122.out) hb);have n1_:=Aside0.mk (below_step (by repeat (first|(with_reducible first|exact HB.out|apply below_alloc|apply pw_below_drewN|apply below_drew1|refine below_set ?_ GE122.out)|exact HB.out)) hb);have n2_:=Aside0.mk (hbox);have n3_:=Aside0.mk ((by rw [hg];exact (below_size (by repeat (first|(with_reducible first|exact HB.out|apply below_alloc|apply pw_below_drewN|apply below_drew1|refine below_set ?_ GE122.out)|exact HB.out))) : w.heap.size ≤ gb123));have n4_:=Aside0.mk ((by rw [hg];exact (below_size (by repeat (first|(with_reducible first|exact HB.out|apply below_alloc|apply pw_below_drewN|apply below_drew1|refine below_set ?_ GE122.out)|exact HB.out))) : w.heap.size ≤ gb123));have n5_:=Aside0.mk ((by rw [hg];exact Nat.ne_of_lt (blk_lt (g:=gb122) (o:=.cells #[.int .i64 a0_0,.string a0_1,.int .i64 a0_2,.slice A0_3 l0_3.length c0_3] 29 (0,0)) (by (with_reducible repeat (first|refine blk_drewN ?_ _|refine blk_drew ?_|refine blk_alloc ?_ _));exact BK122.out)) : gb122 ≠ gb123));have n6_:=Aside0.mk ((by rw [hg];exact Nat.ne_of_gt (blk_lt (g:=gb122) (o:=.cells #[.int .i64 a0_0,.string a0_1,.int .i64 a0_2,.slice A0_3 l0_3.length c0_3] 29 (0,0)) (by (with_reducible repeat (first|refine blk_drewN ?_ _|refine blk_drew ?_|refine blk_alloc ?_ _));exact BK122.out)) : gb123 ≠ gb122));clear BK122;clear HB;have BK122:=n0_;have HB:=n1_;have BK123:=n2_;have GW123:=n3_;have GE123:=n4_;have NB122_123:=n5_;have NB123_122:=n6_;clear n0_ n1_ n2_ n3_ n4_ n5_ n6_;clear hb hbox hg;have hnb16:=NB122_123.out;have hnc16:=NB123_122.out;have hcz17_0 : w15.cell? ⟨gb122,0,none⟩ = some (.int .i64 a0_0):=(blk_cell BK122.out 0).trans rfl;have hcz17_1 : w15.cell? ⟨gb122,1,none⟩ = some (.string a0_1):=(blk_cell BK122.out 1).trans rfl;have hcz17_2 : w15.cell? ⟨gb122,2,none⟩ = some (.int .i64 a0_2):=(blk_cell BK122.out 2).trans rfl;have hcz17_3 : w15.cell? ⟨gb122,3,none⟩ = some (.slice A0_3 l0_3.length c0_3):=(blk_cell BK122.out 3).trans rfl;have hfz17_0:=blk_frozen BK122.out 0;have hfz17_1:=blk_frozen BK122.out 1;have hfz17_2:=blk_frozen BK122.out 2;have hfz17_3:=blk_frozen BK122.out 3;have hcz18_0 : w15.cell? ⟨gb123,0,none⟩ = some (.int .i64 a1_0):=(blk_cell BK123.out 0).trans rfl;have hcz18_1 : w15.cell? ⟨gb123,1,none⟩ = some (.string a1_1):=(blk_cell BK123.out 1).trans rfl;have hcz18_2 : w15.cell? ⟨gb123,2,none⟩ = some (.int .i64 a1_2):=(blk_cell BK123.out 2).trans rfl;have hcz18_3 : w15.cell? ⟨gb123,3,none⟩ = some (.slice A1_3 l1_3.length c1_3):=(blk_cell BK123.out 3).trans rfl;have hfz18_0:=blk_frozen BK123.out 0;have hfz18_1:=blk_frozen BK123.out 1;have hfz18_2:=blk_frozen BK123.out 2;have hfz18_3:=blk_frozen BK123.out 3)|((with_reducible refine gate_callee (f:=46) rfl ?_);refine goesL_ (some 24) rfl rfl Tryd.func46 (by kernel_rfl) rfl #[.slice A0_3 l0_3.length c0_3,.slice A1_3 l1_3.length c1_3] rfl (by (try simp only [List.map_toArray,List.map_cons,List.map_nil]);first|done|rfl|(simp only [List.length_drop,List.length_take];rfl)) ?_;(with_reducible refine (laws_eqTermS.calls k _ _ l0_3 _ _ l1_3 false _ ?side1 ?side2 ?side3 ?side4 A6.out).mono ?_);(case side1 => repeat (first|exact (Kd.C_below HR0_3.out HB.out)|(with_reducible refine Kd.C_alloc ?_ _)|(with_reducible refine Kd.C_drewN ?_ _)|(with_reducible refine Kd.C_drew ?_)));(case side2 => exact HC0_3.out);(case side3 => repeat (first|exact (Kd.C_below HR1_3.out HB.out)|(with_reducible refine Kd.C_alloc ?_ _)|(with_reducible refine Kd.C_drewN ?_ _)|(with_reducible refine Kd.C_drew ?_)));(case side4 => exact HC1_3.out);rintro e w19 ⟨rfl,hb⟩;refine ⟨_,rfl,?_⟩;have n0_:=Aside0.mk (blk_below (g:=gb122) (o:=.cells #[.int .i64 a0_0,.string a0_1,.int .i64 a0_2,.slice A0_3 l0_3.length c0_3] 29 (0,0)) (by (with_reducible repeat (first|refine blk_drewN ?_ _|refine blk_drew ?_|refine blk_alloc ?_ _));exact BK122.out) hb);have n1_:=Aside0.mk (blk_below (g:=gb123) (o:=.cells #[.int .i64 a1_0,.string a1_1,.int .i64 a1_2,.slice A1_3 l1_3.length c1_3] 29 (0,0)) (by (with_reducible repeat (first|refine blk_drewN ?_ _|refine blk_drew ?_|refine blk_alloc ?_ _));exact BK123.out) hb);have n2_:=Aside0.mk (below_step (by repeat (first|(with_reducible first|exact HB.out|apply below_alloc|apply pw_below_drewN|apply below_drew1|refine below_set ?_ GE122.out|refine below_set ?_ GE123.out)|exact HB.out)) hb);clear BK122;clear BK123;clear HB;have BK122:=n0_;have BK123:=n1_;have HB:=n2_;clear n0_ n1_ n2_;(try clear hb)))
     go_ret
     exact ⟨by first|rfl|(simp [errW_none,errW_some] <;> rfl)|(simp [*,errW_none,errW_some] <;> rfl),by repeat (first|(with_reducible first|exact HB.out|apply below_alloc|apply pw_below_drewN|apply below_drew1|refine below_set ?_ GE122.out|refine below_set ?_ GE123.out)|exact HB.out)⟩
   ·rw [if_neg c5] at H
    have c5b0 : (a0_2 == a1_2) = false:=beq_eq_false_iff_ne.mpr c5
    have c5b1 : (a0_2 != a1_2) = true:=bne_iff_ne.mpr c5
    obtain rfl:=Option.some.inj H
    go_enter Tryd.func14,Tryd.ntmps14
    go_wp2_with (first|((with_reducible refine gate_dst (N:=2) rfl ?_);refine box_event ?hg (N:=2) ?hd (cs:=#[.int .i64 a0_0,.string a0_1,.int .i64 a0_2,.slice A0_3 l0_3.length c0_3]) (t:=29) ?hr ?_;(case hd => rfl);(case hg => rfl);(case hr => first|(go_simp;done)|(go_simp;rfl));intro gb122 hg w20 hbox hb;have n0_:=Aside0.mk (below_step (by repeat (first|(with_reducible first|exact HB.out|apply below_alloc|apply pw_below_drewN|apply below_drew1)|exact HB.out)) hb);have n1_:=Aside0.mk (hbox);have n2_:=Aside0.mk ((by rw [hg];exact (below_size (by repeat (first|(with_reducible first|exact HB.out|apply below_alloc|apply pw_below_drewN|apply below_drew1)|exact HB.out))) : w.heap.size ≤ gb122));have n3_:=Aside0.mk ((by rw [hg];exact (below_size (by repeat (first|(with_reducible first|exact HB.out|apply below_alloc|apply pw_below_drewN|apply below_drew1)|exact HB.out))) : w.heap.size ≤ gb122));clear HB;have HB:=n0_;have BK122:=n1_;have GW122:=n2_;have GE122:=n3_;clear n0_ n1_ n2_ n3_;clear hb hbox hg)|((with_reducible refine gate_dst (N:=3) rfl ?_);refine box_event ?hg (N:=3) ?hd (cs:=#[.int .i64 a1_0,.string a1_1,.int .i64 a1_2,.slice A1_3 l1_3.length c1_3]) (t:=29) ?hr ?_;(case hd => rfl);(case hg => rfl);(case hr => first|(go_simp;done)|(go_simp;rfl));intro gb123 hg w21 hbox hb;have n0_:=Aside0.mk (blk_below (g:=gb122) (o:=.cells #[.int .i64 a0_0,.string a0_1,.int .i64 a0_2,.slice A0_3 l0_3.length c0_3] 29 (0,0)) (by (with_reducible repeat (first|refine blk_drewN ?_ _|refine blk_drew ?_|refine blk_alloc ?_ _));exact BK122.out) hb);have n1_:=Aside0.mk (below_step (by repeat (first|(with_reducible first|exact HB.out|apply below_alloc|apply pw_below_drewN|apply below_drew1|refine below_set ?_ GE122.out)|exact HB.out)) hb);have n2_:=Aside0.mk (hbox);have n3_:=Aside0.mk ((by rw [hg];exact (below_size (by repeat (first|(with_reducible first|exact HB.out|apply below_alloc|apply pw_below_drewN|apply below_drew1|refine below_set ?_ GE122.out)|exact HB.out))) : w.heap.size ≤ gb123));have n4_:=Aside0.mk ((by rw [hg];exact (below_size (by repeat (first|(with_reducible first|exact HB.out|apply below_alloc|apply pw_below_drewN|apply below_drew1|refine below_set ?_ GE122.out)|exact HB.out))) : w.heap.size ≤ gb123));have n5_:=Aside0.mk ((by rw [hg];exact Nat.ne_of_lt (blk_lt (g:=gb122) (o:=.cells #[.int .i64 a0_0,.string a0_1,.int .i64 a0_2,.slice A0_3 l0_3.length c0_3] 29 (0,0)) (by (with_reducible repeat (first|refine blk_drewN ?_ _|refine blk_drew ?_|refine blk_alloc ?_ _));exact BK122.out)) : gb122 ≠ gb123));have n6_:=Aside0.mk ((by rw [hg];exact Nat.ne_of_gt (blk_lt (g:=gb122) (o:=.cells #[.int .i64 a0_0,.string a0_1,.int .i64 a0_2,.slice A0_3 l0_3.length c0_3] 29 (0,0)) (by (with_reducible repeat (first|refine blk_drewN ?_ _|refine blk_drew ?_|refine blk_alloc ?_ _));exact BK122.out)) : gb123 ≠ gb122));clear BK122;clear HB;have BK122:=n0_;have HB:=n1_;have BK123:=n2_;have GW123:=n3_;have GE123:=n4_;have NB122_123:=n5_;have NB123_122:=n6_;clear n0_ n1_ n2_ n3_ n4_ n5_ n6_;clear hb hbox hg;have hnb22:=NB122_123.out;have hnc22:=NB123_122.out;have hcz23_0 : w21.cell? ⟨gb122,0,none⟩ = some (.int .i64 a0_0):=(blk_cell BK122.out 0).trans rfl;have hcz23_1 : w21.cell? ⟨gb122,1,none⟩ = some (.string a0_1):=(blk_cell BK122.out 1).trans rfl;have hcz23_2 : w21.cell? ⟨gb122,2,none⟩ = some (.int .i64 a0_2):=(blk_cell BK122.out 2).trans rfl;have hcz23_3 : w21.cell? ⟨gb122,3,none⟩ = some (.slice A0_3 l0_3.length c0_3):=(blk_cell BK122.out 3).trans rfl;have hfz23_0:=blk_frozen BK122.out 0;have hfz23_1:=blk_frozen BK122.out 1;have hfz23_2:=blk_frozen BK122.out 2;have hfz23_3:=blk_frozen BK122.out 3;have hcz24_0 : w21.cell? ⟨gb123,0,none⟩ = some (.int .i64 a1_0):=(blk_cell BK123.out 0).trans rfl;have hcz24_1 : w21.cell? ⟨gb123,1,none⟩ = some (.string a1_1):=(blk_cell BK123.out 1).trans rfl;have hcz24_2 : w21.cell? ⟨gb123,2,none⟩ = some (.int .i64 a1_2):=(blk_cell BK123.out 2).trans rfl;have hcz24_3 : w21.cell? ⟨gb123,3,none⟩ = some (.slice A1_3 l1_3.length c1_3):=(blk_cell BK123.out 3).trans rfl;have hfz24_0:=blk_frozen BK123.out 0;have hfz24_1:=blk_frozen BK123.out 1;have hfz24_2:=blk_frozen BK123.out 2;have hfz24_3:=blk_frozen BK123.out 3))
    go_ret
    exact ⟨by first|rfl|(simp [errW_none,errW_some] <;> rfl)|(simp [*,errW_none,errW_some] <;> rfl),by repeat (first|(with_reducible first|exact HB.out|apply below_alloc|apply pw_below_drewN|apply below_drew1|refine below_set ?_ GE122.out|refine below_set ?_ GE123.out)|exact HB.out)⟩
  ·rw [if_neg c4] at H
   have c4b0 : (a0_1.toList == a1_1.toList) = false:=beq_eq_false_iff_ne.mpr c4
   have c4b1 : (a0_1.toList != a1_1.toList) = true:=bne_iff_ne.mpr c4
   obtain rfl:=Option.some.inj H
   go_enter Tryd.func14,Tryd.ntmps14
   go_wp2_with (first|((with_reducible refine gate_dst (N:=2) rfl ?_);refine box_event ?hg (N:=2) ?hd (cs:=#[.int .i64 a0_0,.string a0_1,.int .i64 a0_2,.slice A0_3 l0_3.length c0_3]) (t:=29) ?hr ?_;(case hd => rfl);(case hg => rfl);(case hr => first|(go_simp;done)|(go_simp;rfl));intro gb122 hg w25 hbox hb;have n0_:=Aside0.mk (below_step (by repeat (first|(with_reducible first|exact HB.out|apply below_alloc|apply pw_below_drewN|apply below_drew1)|exact HB.out)) hb);have n1_:=Aside0.mk (hbox);have n2_:=Aside0.mk ((by rw [hg];exact (below_size (by repeat (first|(with_reducible first|exact HB.out|apply below_alloc|apply pw_below_drewN|apply below_drew1)|exact HB.out))) : w.heap.size ≤ gb122));have n3_:=Aside0.mk ((by rw [hg];exact (below_size (by repeat (first|(with_reducible first|exact HB.out|apply below_alloc|apply pw_below_drewN|apply below_drew1)|exact HB.out))) : w.heap.size ≤ gb122));clear HB;have HB:=n0_;have BK122:=n1_;have GW122:=n2_;have GE122:=n3_;clear n0_ n1_ n2_ n3_;clear hb hbox hg)|((with_reducible refine gate_dst (N:=3) rfl ?_);refine box_event ?hg (N:=3) ?hd (cs:=#[.int .i64 a1_0,.string a1_1,.int .i64 a1_2,.slice A1_3 l1_3.length c1_3]) (t:=29) ?hr ?_;(case hd => rfl);(case hg => rfl);(case hr => first|(go_simp;done)|(go_simp;rfl));intro gb123 hg w26 hbox hb;have n0_:=Aside0.mk (blk_below (g:=gb122) (o:=.cells #[.int .i64 a0_0,.string a0_1,.int .i64 a0_2,.slice A0_3 l0_3.length c0_3] 29 (0,0)) (by (with_reducible repeat (first|refine blk_drewN ?_ _|refine blk_drew ?_|refine blk_alloc ?_ _));exact BK122.out) hb);have n1_:=Aside0.mk (below_step (by repeat (first|(with_reducible first|exact HB.out|apply below_alloc|apply pw_below_drewN|apply below_drew1|refine below_set ?_ GE122.out)|exact HB.out)) hb);have n2_:=Aside0.mk (hbox);have n3_:=Aside0.mk ((by rw [hg];exact (below_size (by repeat (first|(with_reducible first|exact HB.out|apply below_alloc|apply pw_below_drewN|apply below_drew1|refine below_set ?_ GE122.out)|exact HB.out))) : w.heap.size ≤ gb123));have n4_:=Aside0.mk ((by rw [hg];exact (below_size (by repeat (first|(with_reducible first|exact HB.out|apply below_alloc|apply pw_below_drewN|apply below_drew1|refine below_set ?_ GE122.out)|exact HB.out))) : w.heap.size ≤ gb123));have n5_:=Aside0.mk ((by rw [hg];exact Nat.ne_of_lt (blk_lt (g:=gb122) (o:=.cells #[.int .i64 a0_0,.string a0_1,.int .i64 a0_2,.slice A0_3 l0_3.length c0_3] 29 (0,0)) (by (with_reducible repeat (first|refine blk_drewN ?_ _|refine blk_drew ?_|refine blk_alloc ?_ _));exact BK122.out)) : gb122 ≠ gb123));have n6_:=Aside0.mk ((by rw [hg];exact Nat.ne_of_gt (blk_lt (g:=gb122) (o:=.cells #[.int .i64 a0_0,.string a0_1,.int .i64 a0_2,.slice A0_3 l0_3.length c0_3] 29 (0,0)) (by (with_reducible repeat (first|refine blk_drewN ?_ _|refine blk_drew ?_|refine blk_alloc ?_ _));exact BK122.out)) : gb123 ≠ gb122));clear BK122;clear HB;have BK122:=n0_;have HB:=n1_;have BK123:=n2_;have GW123:=n3_;have GE123:=n4_;have NB122_123:=n5_;have NB123_122:=n6_;clear n0_ n1_ n2_ n3_ n4_ n5_ n6_;clear hb hbox hg;have hnb27:=NB122_123.out;have hnc27:=NB123_122.out;have hcz28_0 : w26.cell? ⟨gb122,0,none⟩ = some (.int .i64 a0_0):=(blk_cell BK122.out 0).trans rfl;have hcz28_1 : w26.cell? ⟨gb122,1,none⟩ = some (.string a0_1):=(blk_cell BK122.out 1).trans rfl;have hcz28_2 : w26.cell? ⟨gb122,2,none⟩ = some (.int .i64 a0_2):=(blk_cell BK122.out 2).trans rfl;have hcz28_3 : w26.cell? ⟨gb122,3,none⟩ = some (.slice A0_3 l0_3.length c0_3):=(blk_cell BK122.out 3).trans rfl;have hfz28_0:=blk_frozen BK122.out 0;have hfz28_1:=blk_frozen BK122.out 1;have hfz28_2:=blk_frozen BK122.out 2;have hfz28_3:=blk_frozen BK122.out 3;have hcz29_0 : w26.cell? ⟨gb123,0,none⟩ = some (.int .i64 a1_0):=(blk_cell BK123.out 0).trans rfl;have hcz29_1 : w26.cell? ⟨gb123,1,none⟩ = some (.string a1_1):=(blk_cell BK123.out 1).trans rfl;have hcz29_2 : w26.cell? ⟨gb123,2,none⟩ = some (.int .i64 a1_2):=(blk_cell BK123.out 2).trans rfl;have hcz29_3 : w26.cell? ⟨gb123,3,none⟩ = some (.slice A1_3 l1_3.length c1_3):=(blk_cell BK123.out 3).trans rfl;have hfz29_0:=blk_frozen BK123.out 0;have hfz29_1:=blk_frozen BK123.out 1;have hfz29_2:=blk_frozen BK123.out 2;have hfz29_3:=blk_frozen BK123.out 3))
   go_ret
   exact ⟨by first|rfl|(simp [errW_none,errW_some] <;> rfl)|(simp [*,errW_none,errW_some] <;> rfl),by repeat (first|(with_reducible first|exact HB.out|apply below_alloc|apply pw_below_drewN|apply below_drew1|refine below_set ?_ GE122.out|refine below_set ?_ GE123.out)|exact HB.out)⟩
 ·rw [if_neg c3] at H
  have c3b0 : (a0_0 == a1_0) = false:=beq_eq_false_iff_ne.mpr c3
  have c3b1 : (a0_0 != a1_0) = true:=bne_iff_ne.mpr c3
  obtain rfl:=Option.some.inj H
  go_enter Tryd.func14,Tryd.ntmps14
  go_wp2_with (first|((with_reducible refine gate_dst (N:=2) rfl ?_);refine box_event ?hg (N:=2) ?hd (cs:=#[.int .i64 a0_0,.string a0_1,.int .i64 a0_2,.slice A0_3 l0_3.length c0_3]) (t:=29) ?hr ?_;(case hd => rfl);(case hg => rfl);(case hr => first|(go_simp;done)|(go_simp;rfl));intro gb122 hg w30 hbox hb;have n0_:=Aside0.mk (below_step (by repeat (first|(with_reducible first|exact HB.out|apply below_alloc|apply pw_below_drewN|apply below_drew1)|exact HB.out)) hb);have n1_:=Aside0.mk (hbox);have n2_:=Aside0.mk ((by rw [hg];exact (below_size (by repeat (first|(with_reducible first|exact HB.out|apply below_alloc|apply pw_below_drewN|apply below_drew1)|exact HB.out))) : w.heap.size ≤ gb122));have n3_:=Aside0.mk ((by rw [hg];exact (below_size (by repeat (first|(with_reducible first|exact HB.out|apply below_alloc|apply pw_below_drewN|apply below_drew1)|exact HB.out))) : w.heap.size ≤ gb122));clear HB;have HB:=n0_;have BK122:=n1_;have GW122:=n2_;have GE122:=n3_;clear n0_ n1_ n2_ n3_;clear hb hbox hg)|((with_reducible refine gate_dst (N:=3) rfl ?_);refine box_event ?hg (N:=3) ?hd (cs:=#[.int .i64 a1_0,.string a1_1,.int .i64 a1_2,.slice A1_3 l1_3.length c1_3]) (t:=29) ?hr ?_;(case hd => rfl);(case hg => rfl);(case hr => first|(go_simp;done)|(go_simp;rfl));intro gb123 hg w31 hbox hb;have n0_:=Aside0.mk (blk_below (g:=gb122) (o:=.cells #[.int .i64 a0_0,.string a0_1,.int .i64 a0_2,.slice A0_3 l0_3.length c0_3] 29 (0,0)) (by (with_reducible repeat (first|refine blk_drewN ?_ _|refine blk_drew ?_|refine blk_alloc ?_ _));exact BK122.out) hb);have n1_:=Aside0.mk (below_step (by repeat (first|(with_reducible first|exact HB.out|apply below_alloc|apply pw_below_drewN|apply below_drew1|refine below_set ?_ GE122.out)|exact HB.out)) hb);have n2_:=Aside0.mk (hbox);have n3_:=Aside0.mk ((by rw [hg];exact (below_size (by repeat (first|(with_reducible first|exact HB.out|apply below_alloc|apply pw_below_drewN|apply below_drew1|refine below_set ?_ GE122.out)|exact HB.out))) : w.heap.size ≤ gb123));have n4_:=Aside0.mk ((by rw [hg];exact (below_size (by repeat (first|(with_reducible first|exact HB.out|apply below_alloc|apply pw_below_drewN|apply below_drew1|refine below_set ?_ GE122.out)|exact HB.out))) : w.heap.size ≤ gb123));have n5_:=Aside0.mk ((by rw [hg];exact Nat.ne_of_lt (blk_lt (g:=gb122) (o:=.cells #[.int .i64 a0_0,.string a0_1,.int .i64 a0_2,.slice A0_3 l0_3.length c0_3] 29 (0,0)) (by (with_reducible repeat (first|refine blk_drewN ?_ _|refine blk_drew ?_|refine blk_alloc ?_ _));exact BK122.out)) : gb122 ≠ gb123));have n6_:=Aside0.mk ((by rw [hg];exact Nat.ne_of_gt (blk_lt (g:=gb122) (o:=.cells #[.int .i64 a0_0,.string a0_1,.int .i64 a0_2,.slice A0_3 l0_3.length c0_3] 29 (0,0)) (by (with_reducible repeat (first|refine blk_drewN ?_ _|refine blk_drew ?_|refine blk_alloc ?_ _));exact BK122.out)) : gb123 ≠ gb122));clear BK122;clear HB;have BK122:=n0_;have HB:=n1_;have BK123:=n2_;have GW123:=n3_;have GE123:=n4_;have NB122_123:=n5_;have NB123_122:=n6_;clear n0_ n1_ n2_ n3_ n4_ n5_ n6_;clear hb hbox hg;have hnb32:=NB122_123.out;have hnc32:=NB123_122.out;have hcz33_0 : w31.cell? ⟨gb122,0,none⟩ = some (.int .i64 a0_0):=(blk_cell BK122.out 0).trans rfl;have hcz33_1 : w31.cell? ⟨gb122,1,none⟩ = some (.string a0_1):=(blk_cell BK122.out 1).trans rfl;have hcz33_2 : w31.cell? ⟨gb122,2,none⟩ = some (.int .i64 a0_2):=(blk_cell BK122.out 2).trans rfl;have hcz33_3 : w31.cell? ⟨gb122,3,none⟩ = some (.slice A0_3 l0_3.length c0_3):=(blk_cell BK122.out 3).trans rfl;have hfz33_0:=blk_frozen BK122.out 0;have hfz33_1:=blk_frozen BK122.out 1;have hfz33_2:=blk_frozen BK122.out 2;have hfz33_3:=blk_frozen BK122.out 3;have hcz34_0 : w31.cell? ⟨gb123,0,none⟩ = some (.int .i64 a1_0):=(blk_cell BK123.out 0).trans rfl;have hcz34_1 : w31.cell? ⟨gb123,1,none⟩ = some (.string a1_1):=(blk_cell BK123.out 1).trans rfl;have hcz34_2 : w31.cell? ⟨gb123,2,none⟩ = some (.int .i64 a1_2):=(blk_cell BK123.out 2).trans rfl;have hcz34_3 : w31.cell? ⟨gb123,3,none⟩ = some (.slice A1_3 l1_3.length c1_3):=(blk_cell BK123.out 3).trans rfl;have hfz34_0:=blk_frozen BK123.out 0;have hfz34_1:=blk_frozen BK123.out 1;have hfz34_2:=blk_frozen BK123.out 2;have hfz34_3:=blk_frozen BK123.out 3))
  go_ret
  exact ⟨by first|rfl|(simp [errW_none,errW_some] <;> rfl)|(simp [*,errW_none,errW_some] <;> rfl),by repeat (first|(with_reducible first|exact HB.out|apply below_alloc|apply pw_below_drewN|apply below_drew1|refine below_set ?_ GE122.out|refine below_set ?_ GE123.out)|exact HB.out)⟩

/-! ### laws_eqClause: function 24 -/
def laws_eqClause.f (k : Nat) (a0_0 : Int) (a0_1 : ByteArray) (a0_2 : Int) (l0_3 : List (S29)) (a0_4 : Int) (a0_5 : ByteArray) (a0_6 : Int) (l0_7 : List (S29)) (a0_8 : ByteArray) (a1_0 : Int) (a1_1 : ByteArray) (a1_2 : Int) (l1_3 : List (S29)) (a1_4 : Int) (a1_5 : ByteArray) (a1_6 : Int) (l1_7 : List (S29)) (a1_8 : ByteArray) : Option (Bool):=(laws_eqTerm.f k a0_0 a0_1 a0_2 l0_3 a1_0 a1_1 a1_2 l1_3).bind fun t127 => (if t127 = true then ((laws_eqTerm.f k a0_4 a0_5 a0_6 l0_7 a1_4 a1_5 a1_6 l1_7).bind fun t128 => (if t128 = true then (if a0_8.toList = a1_8.toList then (some true) else (some false)) else (some false))) else (some false))
theorem laws_eqClause.mono : ∀ a0 a1 a2 a3 a4 a5 a6 a7 a8 a9 a10 a11 a12 a13 a14 a15 a16 a17 k,LeO (laws_eqClause.f k a0 a1 a2 a3 a4 a5 a6 a7 a8 a9 a10 a11 a12 a13 a14 a15 a16 a17) (laws_eqClause.f (k + 1) a0 a1 a2 a3 a4 a5 a6 a7 a8 a9 a10 a11 a12 a13 a14 a15 a16 a17):=by
 intro a0 a1 a2 a3 a4 a5 a6 a7 a8 a9 a10 a11 a12 a13 a14 a15 a16 a17 k
 unfold laws_eqClause.f
 repeat' first
   | (with_reducible exact laws_eqTerm.mono _ _ _ _ _ _ _ _ _)
   | (with_reducible exact LeO.refl _)
   | (with_reducible exact LeO.none _)
   | (with_reducible refine LeO.ite ?_ ?_)
   | (with_reducible refine LeO.bind ?_ (fun _ => ?_))
   | exact laws_eqTerm.mono _ _ _ _ _ _ _ _ _
   | exact LeO.none _
   | refine LeO.ite ?_ ?_
   | refine LeO.bind ?_ (fun _ => ?_)
set_option maxHeartbeats 8000000 in
set_option maxRecDepth 100000 in
theorem laws_eqClause.calls (k : Nat) (a0_0 : Int) (a0_1 : ByteArray) (a0_2 : Int) (A0_3 : Option Addr) (c0_3 : Nat) (l0_3 : List (S29)) (a0_4 : Int) (a0_5 : ByteArray) (a0_6 : Int) (A0_7 : Option Addr) (c0_7 : Nat) (l0_7 : List (S29)) (a0_8 : ByteArray) (a1_0 : Int) (a1_1 : ByteArray) (a1_2 : Int) (A1_3 : Option Addr) (c1_3 : Nat) (l1_3 : List (S29)) (a1_4 : Int) (a1_5 : ByteArray) (a1_6 : Int) (A1_7 : Option Addr) (c1_7 : Nat) (l1_7 : List (S29)) (a1_8 : ByteArray) (r : Bool) (w : World) (hr0_3 : Kd.C k29 w A0_3 l0_3.length l0_3) (hc0_3 : l0_3.length ≤ c0_3) (hr0_7 : Kd.C k29 w A0_7 l0_7.length l0_7) (hc0_7 : l0_7.length ≤ c0_7) (hr1_3 : Kd.C k29 w A1_3 l1_3.length l1_3) (hc1_3 : l1_3.length ≤ c1_3) (hr1_7 : Kd.C k29 w A1_7 l1_7.length l1_7) (hc1_7 : l1_7.length ≤ c1_7) (h : laws_eqClause.f k a0_0 a0_1 a0_2 l0_3 a0_4 a0_5 a0_6 l0_7 a0_8 a1_0 a1_1 a1_2 l1_3 a1_4 a1_5 a1_6 l1_7 a1_8 = some r) :
  Calls Tryd.prog 24 #[.agg #[.int .i64 a0_0,.string a0_1,.int .i64 a0_2,.slice A0_3 l0_3.length c0_3,.int .i64 a0_4,.string a0_5,.int .i64 a0_6,.slice A0_7 l0_7.length c0_7,.string a0_8],.agg #[.int .i64 a1_0,.string a1_1,.int .i64 a1_2,.slice A1_3 l1_3.length c1_3,.int .i64 a1_4,.string a1_5,.int .i64 a1_6,.slice A1_7 l1_7.length c1_7,.string a1_8]] w fun e w' => e = .returned (.bool r) ∧ Below w.heap.size w w':=by
 have hu48:=Tryd.underlying48
 have hu29:=Tryd.underlying29
 have HR0_3:=Aside0.mk hr0_3
 have HC0_3:=Aside0.mk hc0_3
 clear hr0_3 hc0_3
 have HR0_7:=Aside0.mk hr0_7
 have HC0_7:=Aside0.mk hc0_7
 clear hr0_7 hc0_7
 have HR1_3:=Aside0.mk hr1_3
 have HC1_3:=Aside0.mk hc1_3
 clear hr1_3 hc1_3
 have HR1_7:=Aside0.mk hr1_7
 have HC1_7:=Aside0.mk hc1_7
 clear hr1_7 hc1_7
 have HB:=Aside0.mk (Below.refl w.heap.size w)
 have H : ((laws_eqTerm.f k a0_0 a0_1 a0_2 l0_3 a1_0 a1_1 a1_2 l1_3).bind fun t127 => (if t127 = true then ((laws_eqTerm.f k a0_4 a0_5 a0_6 l0_7 a1_4 a1_5 a1_6 l1_7).bind fun t128 => (if t128 = true then (if a0_8.toList = a1_8.toList then (some true) else (some false)) else (some false))) else (some false))) = some r:=h
 clear h
 replace H:=Option.bind_eq_some_iff.mp H
 obtain ⟨t127,A30,H⟩:=H
 replace H : (if t127 = true then ((laws_eqTerm.f k a0_4 a0_5 a0_6 l0_7 a1_4 a1_5 a1_6 l1_7).bind fun t128 => (if t128 = true then (if a0_8.toList = a1_8.toList then (some true) else (some false)) else (some false))) else (some false)) = some r:=H
 have A3:=Aside0.mk A30
 clear A30
 by_cases c4 : t127 = true
 ·subst c4
  have H1 : ((laws_eqTerm.f k a0_4 a0_5 a0_6 l0_7 a1_4 a1_5 a1_6 l1_7).bind fun t128 => (if t128 = true then (if a0_8.toList = a1_8.toList then (some true) else (some false)) else (some false))) = some r:=by rw [if_pos rfl] at H;exact H
  clear H
  have H:=H1
  clear H1
  replace H:=Option.bind_eq_some_iff.mp H
  obtain ⟨t128,A50,H⟩:=H
  replace H : (if t128 = true then (if a0_8.toList = a1_8.toList then (some true) else (some false)) else (some false)) = some r:=H
  have A5:=Aside0.mk A50
  clear A50
  by_cases c6 : t128 = true
  ·subst c6
   have H1 : (if a0_8.toList = a1_8.toList then (some true) else (some false)) = some r:=by rw [if_pos rfl] at H;exact H
   clear H
   have H:=H1
   clear H1
   by_cases c7 : a0_8.toList = a1_8.toList
   ·rw [if_pos c7] at H
    have c7b0 : (a0_8.toList == a1_8.toList) = true:=beq_iff_eq.mpr c7
    have c7b1 : (a0_8.toList != a1_8.toList) = false:=bne_eq_false_iff_eq.mpr c7
    clear c7
    obtain rfl:=Option.some.inj H
    go_enter Tryd.func24,Tryd.ntmps24
    go_wp2_with (first|((with_reducible refine gate_dst (N:=2) rfl ?_);refine box_event ?hg (N:=2) ?hd (cs:=#[.int .i64 a0_0,.string a0_1,.int .i64 a0_2,.slice A0_3 l0_3.length c0_3,.int .i64 a0_4,.string a0_5,.int .i64 a0_6,.slice A0_7 l0_7.length c0_7,.string a0_8]) (t:=48) ?hr ?_;(case hd => rfl);(case hg => rfl);(case hr => first|(go_simp;done)|(go_simp;rfl));intro gb125 hg w8 hbox hb;have n0_:=Aside0.mk (below_step (by repeat (first|(with_reducible first|exact HB.out|apply below_alloc|apply pw_below_drewN|apply below_drew1)|exact HB.out)) hb);have n1_:=Aside0.mk (hbox);have n2_:=Aside0.mk ((by rw [hg];exact (below_size (by repeat (first|(with_reducible first|exact HB.out|apply below_alloc|apply pw_below_drewN|apply below_drew1)|exact HB.out))) : w.heap.size ≤ gb125));have n3_:=Aside0.mk ((by rw [hg];exact (below_size (by repeat (first|(with_reducible first|exact HB.out|apply below_alloc|apply pw_below_drewN|apply below_drew1)|exact HB.out))) : w.heap.size ≤ gb125));clear HB;have HB:=n0_;have BK125:=n1_;have GW125:=n2_;have GE125:=n3_;clear n0_ n1_ n2_ n3_;clear hb hbox hg)|((with_reducible refine gate_dst (N:=3) rfl ?_);refine box_event ?hg (N:=3) ?hd (cs:=#[.int .i64 a1_0,.string a1_1,.int .i64 a1_2,.slice A1_3 l1_3.length c1_3,.int .i64 a1_4,.string a1_5,.int .i64 a1_6,.slice A1_7 l1_7.length c1_7,.string a1_8]) (t:=48) ?hr ?_;(case hd => rfl);(case hg => rfl);(case hr => first|(go_simp;done)|(go_simp;rfl));intro gb126 hg w9 hbox hb;have n0_:=Aside0.mk (blk_below (g:=gb125) (o:=.cells #[.int .i64 a0_0,.string a0_1,.int .i64 a0_2,.slice A0_3 l0_3.length c0_3,.int .i64 a0_4,.string a0_5,.int .i64 a0_6,.slice A0_7 l0_7.length c0_7,.string a0_8] 48 (0,0)) (by (with_reducible repeat (first|refine blk_drewN ?_ _|refine blk_drew ?_|refine blk_alloc ?_ _));exact BK125.out) hb);have n1_:=Aside0.mk (below_step (by repeat (first|(with_reducible first|exact HB.out|apply below_alloc|apply pw_below_drewN|apply below_drew1|refine below_set ?_ GE125.out)|exact HB.out)) hb);have n2_:=Aside0.mk (hbox);have n3_:=Aside0.mk ((by rw [hg];exact (below_size (by repeat (first|(with_reducible first|exact HB.out|apply below_alloc|apply pw_below_drewN|apply below_drew1|refine below_set ?_ GE125.out)|exact HB.out))) : w.heap.size ≤ gb126));have n4_:=Aside0.mk ((by rw [hg];exact (below_size (by repeat (first|(with_reducible first|exact HB.out|apply below_alloc|apply pw_below_drewN|apply below_drew1|refine below_set ?_ GE125.out)|exact HB.out))) : w.heap.size ≤ gb126));have n5_:=Aside0.mk ((by rw [hg];exact Nat.ne_of_lt (blk_lt (g:=gb125) (o:=.cells #[.int .i64 a0_0,.string a0_1,.int .i64 a0_2,.slice A0_3 l0_3.length c0_3,.int .i64 a0_4,.string a0_5,.int .i64 a0_6,.slice A0_7 l0_7.length c0_7,.string a0_8] 48 (0,0)) (by (with_reducible repeat (first|refine blk_drewN ?_ _|refine blk_drew ?_|refine blk_alloc ?_ _));exact BK125.out)) : gb125 ≠ gb126));have n6_:=Aside0.mk ((by rw [hg];exact Nat.ne_of_gt (blk_lt (g:=gb125) (o:=.cells #[.int .i64 a0_0,.string a0_1,.int .i64 a0_2,.slice A0_3 l0_3.length c0_3,.int .i64 a0_4,.string a0_5,.int .i64 a0_6,.slice A0_7 l0_7.length c0_7,.string a0_8] 48 (0,0)) (by (with_reducible repeat (first|refine blk_drewN ?_ _|refine blk_drew ?_|refine blk_alloc ?_ _));exact BK125.out)) : gb126 ≠ gb125));clear BK125;clear HB;have BK125:=n0_;have HB:=n1_;have BK126:=n2_;have GW126:=n3_;have GE126:=n4_;have NB125_126:=n5_;have NB126_125:=n6_;clear n0_ n1_ n2_ n3_ n4_ n5_ n6_;clear hb hbox hg;have hnb10:=NB125_126.out;have hnc10:=NB126_125.out;have hcz11_0 : w9.cell? ⟨gb125,0,none⟩ = some (.int .i64 a0_0):=(blk_cell BK125.out 0).trans rfl;have hcz11_1 : w9.cell? ⟨gb125,1,none⟩ = some (.string a0_1):=(blk_cell BK125.out 1).trans rfl;have hcz11_2 : w9.cell? ⟨gb125,2,none⟩ = some (.int .i64 a0_2):=(blk_cell BK125.out 2).trans rfl;have hcz11_3 : w9.cell? ⟨gb125,3,none⟩ = some (.slice A0_3 l0_3.length c0_3):=(blk_cell BK125.out 3).trans rfl;have hcz11_4 : w9.cell? ⟨gb125,4,none⟩ = some (.int .i64 a0_4):=(blk_cell BK125.out 4).trans rfl;have hcz11_5 : w9.cell? ⟨gb125,5,none⟩ = some (.string a0_5):=(blk_cell BK125.out 5).trans rfl;have hcz11_6 : w9.cell? ⟨gb125,6,none⟩ = some (.int .i64 a0_6):=(blk_cell BK125.out 6).trans rfl;have hcz11_7 : w9.cell? ⟨gb125,7,none⟩ = some (.slice A0_7 l0_7.length c0_7):=(blk_cell BK125.out 7).trans rfl;have hcz11_8 : w9.cell? ⟨gb125,8,none⟩ = some (.string a0_8):=(blk_cell BK125.out 8).trans rfl;have hfz11_0:=blk_frozen BK125.out 0;have hfz11_1:=blk_frozen BK125.out 1;have hfz11_2:=blk_frozen BK125.out 2;have hfz11_3:=blk_frozen BK125.out 3;have hfz11_4:=blk_frozen BK125.out 4;have hfz11_5:=blk_frozen BK125.out 5;have hfz11_6:=blk_frozen BK125.out 6;have hfz11_7:=blk_frozen BK125.out 7;have hfz11_8:=blk_frozen BK125.out 8;have hcz12_0 : w9.cell? ⟨gb126,0,none⟩ = some (.int .i64 a1_0):=(blk_cell BK126.out 0).trans rfl;have hcz12_1 : w9.cell? ⟨gb126,1,none⟩ = some (.string a1_1):=(blk_cell BK126.out 1).trans rfl;have hcz12_2 : w9.cell? ⟨gb126,2,none⟩ = some (.int .i64 a1_2):=(blk_cell BK126.out 2).trans rfl;have hcz12_3 : w9.cell? ⟨gb126,3,none⟩ = some (.slice A1_3 l1_3.length c1_3):=(blk_cell BK126.out 3).trans rfl;have hcz12_4 : w9.cell? ⟨gb126,4,none⟩ = some (.int .i64 a1_4):=(blk_cell BK126.out 4).trans rfl;have hcz12_5 : w9.cell? ⟨gb126,5,none⟩ = some (.string a1_5):=(blk_cell BK126.out 5).trans rfl;have hcz12_6 : w9.cell? ⟨gb126,6,none⟩ = some (.int .i64 a1_6):=(blk_cell BK126.out 6).trans rfl;have hcz12_7 : w9.cell? ⟨gb126,7,none⟩ = some (.slice A1_7 l1_7.length c1_7):=(blk_cell BK126.out 7).trans rfl;have hcz12_8 : w9.cell? ⟨gb126,8,none⟩ = some (.string a1_8):=(blk_cell BK126.out 8).trans rfl;have hfz12_0:=blk_frozen BK126.out 0;have hfz12_1:=blk_frozen BK126.out 1;have hfz12_2:=blk_frozen BK126.out 2;have hfz12_3:=blk_frozen BK126.out 3;have hfz12_4:=blk_frozen BK126.out 4;have hfz12_5:=blk_frozen BK126.out 5;have hfz12_6:=blk_frozen BK126.out 6;have hfz12_7:=blk_frozen BK126.out 7;have hfz12_8:=blk_frozen BK126.out 8)|((with_reducible refine gate_callee (f:=14) rfl ?_);refine goesL_ (some 9) rfl rfl Tryd.func14 (by kernel_rfl) rfl #[.agg #[.int .i64 a0_0,.string a0_1,.int .i64 a0_2,.slice A0_3 l0_3.length c0_3],.agg #[.int .i64 a1_0,.string a1_1,.int .i64 a1_2,.slice A1_3 l1_3.length c1_3]] rfl (by (try simp only [List.map_toArray,List.map_cons,List.map_nil]);first|done|rfl|(simp only [List.length_drop,List.length_take];rfl)) ?_;(with_reducible refine (laws_eqTerm.calls k a0_0 a0_1 a0_2 _ _ l0_3 a1_0 a1_1 a1_2 _ _ l1_3 true _ ?side1 ?side2 ?side3 ?side4 A3.out).mono ?_);(case side1 => repeat (first|exact (Kd.C_below HR0_3.out HB.out)|(with_reducible refine Kd.C_alloc ?_ _)|(with_reducible refine Kd.C_drewN ?_ _)|(with_reducible refine Kd.C_drew ?_)));(case side2 => exact HC0_3.out);(case side3 => repeat (first|exact (Kd.C_below HR1_3.out HB.out)|(with_reducible refine Kd.C_alloc ?_ _)|(with_reducible refine Kd.C_drewN ?_ _)|(with_reducible refine Kd.C_drew ?_)));(case side4 => exact HC1_3.out);rintro e w13 ⟨rfl,hb⟩;refine ⟨_,rfl,?_⟩;have n0_:=Aside0.mk (blk_below (g:=gb125) (o:=.cells #[.int .i64 a0_0,.string a0_1,.int .i64 a0_2,.slice A0_3 l0_3.length c0_3,.int .i64 a0_4,.string a0_5,.int .i64 a0_6,.slice A0_7 l0_7.length c0_7,.string a0_8] 48 (0,0)) (by (with_reducible repeat (first|refine blk_drewN ?_ _|refine blk_drew ?_|refine blk_alloc ?_ _));exact BK125.out) hb);have n1_:=Aside0.mk (blk_below (g:=gb126) (o:=.cells #[.int .i64 a1_0,.string a1_1,.int .i64 a1_2,.slice A1_3 l1_3.length c1_3,.int .i64 a1_4,.string a1_5,.int .i64 a1_6,.slice A1_7 l1_7.length c1_7,.string a1_8] 48 (0,0)) (by (with_reducible repeat (first|refine blk_drewN ?_ _|refine blk_drew ?_|refine blk_alloc ?_ _));exact BK126.out) hb);have n2_:=Aside0.mk (below_step (by repeat (first|(with_reducible first|exact HB.out|apply below_alloc|apply pw_below_drewN|apply below_drew1|refine below_set ?_ GE125.out|refine below_set ?_ GE126.out)|exact HB.out)) hb);clear BK125;clear BK126;clear HB;have BK125:=n0_;have BK126:=n1_;have HB:=n2_;clear n0_ n1_ n2_;(try clear hb);(try clear hb2);(try clear hk);(try clear hi);have hcz14_0 : w13.cell? ⟨gb125,0,none⟩ = some (.int .i64 a0_0):=(blk_cell BK125.out 0).trans rfl;have hcz14_1 : w13.cell? ⟨gb125,1,none⟩ = some (.string a0_1):=(blk_cell BK125.out 1).trans rfl;have hcz14_2 : w13.cell? ⟨gb125,2,none⟩ = some (.int .i64 a0_2):=(blk_cell BK125.out 2).trans rfl;have hcz14_3 : w13.cell? ⟨gb125,3,none⟩ = some (.slice A0_3 l0_3.length c0_3):=(blk_cell BK125.out 3).trans rfl;have hcz14_4 : w13.cell? ⟨gb125,4,none⟩ = some (.int .i64 a0_4):=(blk_cell BK125.out 4).trans rfl;have hcz14_5 : w13.cell? ⟨gb125,5,none⟩ = some (.string a0_5):=(blk_cell BK125.out 5).trans rfl;have hcz14_6 : w13.cell? ⟨gb125,6,none⟩ = some (.int .i64 a0_6):=(blk_cell BK125.out 6).trans rfl;have hcz14_7 : w13.cell? ⟨gb125,7,none⟩ = some (.slice A0_7 l0_7.length c0_7):=(blk_cell BK125.out 7).trans rfl;have hcz14_8 : w13.cell? ⟨gb125,8,none⟩ = some (.string a0_8):=(blk_cell BK125.out 8).trans rfl;have hfz14_0:=blk_frozen BK125.out 0;have hfz14_1:=blk_frozen BK125.out 1;have hfz14_2:=blk_frozen BK125.out 2;have hfz14_3:=blk_frozen BK125.out 3;have hfz14_4:=blk_frozen BK125.out 4;have hfz14_5:=blk_frozen BK125.out 5;have hfz14_6:=blk_frozen BK125.out 6;have hfz14_7:=blk_frozen BK125.out 7;have hfz14_8:=blk_frozen BK125.out 8;have hcz15_0 : w13.cell? ⟨gb126,0,none⟩ = some (.int .i64 a1_0):=(blk_cell BK126.out 0).trans rfl;have hcz15_1 : w13.cell? ⟨gb126,1,none⟩ = some (.string a1_1):=(blk_cell BK126.out 1).trans rfl;have hcz15_2 : w13.cell? ⟨gb126,2,none⟩ = some (.int .i64 a1_2):=(blk_cell BK126.out 2).trans rfl;have hcz15_3 : w13.cell? ⟨gb126,3,none⟩ = some (.slice A1_3 l1_3.length c1_3):=(blk_cell BK126.out 3).trans rfl;have hcz15_4 : w13.cell? ⟨gb126,4,none⟩ = some (.int .i64 a1_4):=(blk_cell BK126.out 4).trans rfl;have hcz15_5 : w13.cell? ⟨gb126,5,none⟩ = some (.string a1_5):=(blk_cell BK126.out 5).trans rfl;have hcz15_6 : w13.cell? ⟨gb126,6,none⟩ = some (.int .i64 a1_6):=(blk_cell BK126.out 6).trans rfl;have hcz15_7 : w13.cell? ⟨gb126,7,none⟩ = some (.slice A1_7 l1_7.length c1_7):=(blk_cell BK126.out 7).trans rfl;have hcz15_8 : w13.cell? ⟨gb126,8,none⟩ = some (.string a1_8):=(blk_cell BK126.out 8).trans rfl;have hfz15_0:=blk_frozen BK126.out 0;have hfz15_1:=blk_frozen BK126.out 1;have hfz15_2:=blk_frozen BK126.out 2;have hfz15_3:=blk_frozen BK126.out 3;have hfz15_4:=blk_frozen BK126.out 4;have hfz15_5:=blk_frozen BK126.out 5;have hfz15_6:=blk_frozen BK126.out 6;have hfz15_7:=blk_frozen BK126.out 7;have hfz15_8:=blk_frozen BK126.out 8)|((with_reducible refine gate_callee (f:=14) rfl ?_);refine goesL_ (some 15) rfl rfl Tryd.func14 (by kernel_rfl) rfl #[.agg #[.int .i64 a0_4,.string a0_5,.int .i64 a0_6,.slice A0_7 l0_7.length c0_7],.agg #[.int .i64 a1_4,.string a1_5,.int .i64 a1_6,.slice A1_7 l1_7.length c1_7]] rfl (by (try simp only [List.map_toArray,List.map_cons,List.map_nil]);first|done|rfl|(simp only [List.length_drop,List.length_take];rfl)) ?_;(with_reducible refine (laws_eqTerm.calls k a0_4 a0_5 a0_6 _ _ l0_7 a1_4 a1_5 a1_6 _ _ l1_7 true _ ?side1 ?side2 ?side3 ?side4 A5.out).mono ?_);(case side1 => repeat (first|exact (Kd.C_below HR0_7.out HB.out)|(with_reducible refine Kd.C_alloc ?_ _)|(with_reducible refine Kd.C_drewN ?_ _)|(with_reducible refine Kd.C_drew ?_)));(case side2 => exact HC0_7.out);(case side3 => repeat (first|exact (Kd.C_below HR1_7.out HB.out)|(with_reducible refine Kd.C_alloc ?_ _)|(with_reducible refine Kd.C_drewN ?_ _)|(with_reducible refine Kd.C_drew ?_)));(case side4 => exact HC1_7.out);rintro e w16 ⟨rfl,hb⟩;refine ⟨_,rfl,?_⟩;have n0_:=Aside0.mk (blk_below (g:=gb125) (o:=.cells #[.int .i64 a0_0,.string a0_1,.int .i64 a0_2,.slice A0_3 l0_3.length c0_3,.int .i64 a0_4,.string a0_5,.int .i64 a0_6,.slice A0_7 l0_7.length c0_7,.string a0_8] 48 (0,0)) (by (with_reducible repeat (first|refine blk_drewN ?_ _|refine blk_drew ?_|refine blk_alloc ?_ _));exact BK125.out) hb);have n1_:=Aside0.mk (blk_below (g:=gb126) (o:=.cells #[.int .i64 a1_0,.string a1_1,.int .i64 a1_2,.slice A1_3 l1_3.length c1_3,.int .i64 a1_4,.string a1_5,.int .i64 a1_6,.slice A1_7 l1_7.length c1_7,.string a1_8] 48 (0,0)) (by (with_reducible repeat (first|refine blk_drewN ?_ _|refine blk_drew ?_|refine blk_alloc ?_ _));exact BK126.out) hb);have n2_:=Aside0.mk (below_step (by repeat (first|(with_reducible first|exact HB.out|apply below_alloc|apply pw_below_drewN|apply below_drew1|refine below_set ?_ GE125.out|refine below_set ?_ GE126.out)|exact HB.out)) hb);clear BK125;clear BK126;clear HB;have BK125:=n0_;have BK126:=n1_;have HB:=n2_;clear n0_ n1_ n2_;(try clear hb);(try clear hb2);(try clear hk);(try clear hi);have hcz17_0 : w16.cell? ⟨gb125,0,none⟩ = some (.int .i64 a0_0):=(blk_cell BK125.out 0).trans rfl;have hcz17_1 : w16.cell? ⟨gb125,1,none⟩ = some (.string a0_1):=(blk_cell BK125.out 1).trans rfl;have hcz17_2 : w16.cell? ⟨gb125,2,none⟩ = some (.int .i64 a0_2):=(blk_cell BK125.out 2).trans rfl;have hcz17_3 : w16.cell? ⟨gb125,3,none⟩ = some (.slice A0_3 l0_3.length c0_3):=(blk_cell BK125.out 3).trans rfl;have hcz17_4 : w16.cell? ⟨gb125,4,none⟩ = some (.int .i64 a0_4):=(blk_cell BK125.out 4).trans rfl;have hcz17_5 : w16.cell? ⟨gb125,5,none⟩ = some (.string a0_5):=(blk_cell BK125.out 5).trans rfl;have hcz17_6 : w16.cell? ⟨gb125,6,none⟩ = some (.int .i64 a0_6):=(blk_cell BK125.out 6).trans rfl;have hcz17_7 : w16.cell? ⟨gb125,7,none⟩ = some (.slice A0_7 l0_7.length c0_7):=(blk_cell BK125.out 7).trans rfl;have hcz17_8 : w16.cell? ⟨gb125,8,none⟩ = some (.string a0_8):=(blk_cell BK125.out 8).trans rfl;have hfz17_0:=blk_frozen BK125.out 0;have hfz17_1:=blk_frozen BK125.out 1;have hfz17_2:=blk_frozen BK125.out 2;have hfz17_3:=blk_frozen BK125.out 3;have hfz17_4:=blk_frozen BK125.out 4;have hfz17_5:=blk_frozen BK125.out 5;have hfz17_6:=blk_frozen BK125.out 6;have hfz17_7:=blk_frozen BK125.out 7;have hfz17_8:=blk_frozen BK125.out 8;have hcz18_0 : w16.cell? ⟨gb126,0,none⟩ = some (.int .i64 a1_0):=(blk_cell BK126.out 0).trans rfl;have hcz18_1 : w16.cell? ⟨gb126,1,none⟩ = some (.string a1_1):=(blk_cell BK126.out 1).trans rfl;have hcz18_2 : w16.cell? ⟨gb126,2,none⟩ = some (.int .i64 a1_2):=(blk_cell BK126.out 2).trans rfl;have hcz18_3 : w16.cell? ⟨gb126,3,none⟩ = some (.slice A1_3 l1_3.length c1_3):=(blk_cell BK126.out 3).trans rfl;have hcz18_4 : w16.cell? ⟨gb126,4,none⟩ = some (.int .i64 a1_4):=(blk_cell BK126.out 4).trans rfl;have hcz18_5 : w16.cell? ⟨gb126,5,none⟩ = some (.string a1_5):=(blk_cell BK126.out 5).trans rfl;have hcz18_6 : w16.cell? ⟨gb126,6,none⟩ = some (.int .i64 a1_6):=(blk_cell BK126.out 6).trans rfl;have hcz18_7 : w16.cell? ⟨gb126,7,none⟩ = some (.slice A1_7 l1_7.length c1_7):=(blk_cell BK126.out 7).trans rfl;have hcz18_8 : w16.cell? ⟨gb126,8,none⟩ = some (.string a1_8):=(blk_cell BK126.out 8).trans rfl;have hfz18_0:=blk_frozen BK126.out 0;have hfz18_1:=blk_frozen BK126.out 1;have hfz18_2:=blk_frozen BK126.out 2;have hfz18_3:=blk_frozen BK126.out 3;have hfz18_4:=blk_frozen BK126.out 4;have hfz18_5:=blk_frozen BK126.out 5;have hfz18_6:=blk_frozen BK126.out 6;have hfz18_7:=blk_frozen BK126.out 7;have hfz18_8:=blk_frozen BK126.out 8))
    go_ret
    exact ⟨by first|rfl|(simp [errW_none,errW_some] <;> rfl)|(simp [*,errW_none,errW_some] <;> rfl),by repeat (first|(with_reducible first|exact HB.out|apply below_alloc|apply pw_below_drewN|apply below_drew1|refine below_set ?_ GE125.out|refine below_set ?_ GE126.out)|exact HB.out)⟩
   ·rw [if_neg c7] at H
    have c7b0 : (a0_8.toList == a1_8.toList) = false:=beq_eq_false_iff_ne.mpr c7
    have c7b1 : (a0_8.toList != a1_8.toList) = true:=bne_iff_ne.mpr c7
    obtain rfl:=Option.some.inj H
    go_enter Tryd.func24,Tryd.ntmps24
    go_wp2_with (first|((with_reducible refine gate_dst (N:=2) rfl ?_);refine box_event ?hg (N:=2) ?hd (cs:=#[.int .i64 a0_0,.string a0_1,.int .i64 a0_2,.slice A0_3 l0_3.length c0_3,.int .i64 a0_4,.string a0_5,.int .i64 a0_6,.slice A0_7 l0_7.length c0_7,.string a0_8]) (t:=48) ?hr ?_;(case hd => rfl);(case hg => rfl);(case hr => first|(go_simp;done)|(go_simp;rfl));intro gb125 hg w19 hbox hb;have n0_:=Aside0.mk (below_step (by repeat (first|(with_reducible first|exact HB.out|apply below_alloc|apply pw_below_drewN|apply below_drew1)|exact HB.out)) hb);have n1_:=Aside0.mk (hbox);have n2_:=Aside0.mk ((by rw [hg];exact (below_size (by repeat (first|(with_reducible first|exact HB.out|apply below_alloc|apply pw_below_drewN|apply below_drew1)|exact HB.out))) : w.heap.size ≤ gb125));have n3_:=Aside0.mk ((by rw [hg];exact (below_size (by repeat (first|(with_reducible first|exact HB.out|apply below_alloc|apply pw_below_drewN|apply below_drew1)|exact HB.out))) : w.heap.size ≤ gb125));clear HB;have HB:=n0_;have BK125:=n1_;have GW125:=n2_;have GE125:=n3_;clear n0_ n1_ n2_ n3_;clear hb hbox hg)|((with_reducible refine gate_dst (N:=3) rfl ?_);refine box_event ?hg (N:=3) ?hd (cs:=#[.int .i64 a1_0,.string a1_1,.int .i64 a1_2,.slice A1_3 l1_3.length c1_3,.int .i64 a1_4,.string a1_5,.int .i64 a1_6,.slice A1_7 l1_7.length c1_7,.string a1_8]) (t:=48) ?hr ?_;(case hd => rfl);(case hg => rfl);(case hr => first|(go_simp;done)|(go_simp;rfl));intro gb126 hg w20 hbox hb;have n0_:=Aside0.mk (blk_below (g:=gb125) (o:=.cells #[.int .i64 a0_0,.string a0_1,.int .i64 a0_2,.slice A0_3 l0_3.length c0_3,.int .i64 a0_4,.string a0_5,.int .i64 a0_6,.slice A0_7 l0_7.length c0_7,.string a0_8] 48 (0,0)) (by (with_reducible repeat (first|refine blk_drewN ?_ _|refine blk_drew ?_|refine blk_alloc ?_ _));exact BK125.out) hb);have n1_:=Aside0.mk (below_step (by repeat (first|(with_reducible first|exact HB.out|apply below_alloc|apply pw_below_drewN|apply below_drew1|refine below_set ?_ GE125.out)|exact HB.out)) hb);have n2_:=Aside0.mk (hbox);have n3_:=Aside0.mk ((by rw [hg];exact (below_size (by repeat (first|(with_reducible first|exact HB.out|apply below_alloc|apply pw_below_drewN|apply below_drew1|refine below_set ?_ GE125.out)|exact HB.out))) : w.heap.size ≤ gb126));have n4_:=Aside0.mk ((by rw [hg];exact (below_size (by repeat (first|(with_reducible first|exact HB.out|apply below_alloc|apply pw_below_drewN|apply below_drew1|refine below_set ?_ GE125.out)|exact HB.out))) : w.heap.size ≤ gb126));have n5_:=Aside0.mk ((by rw [hg];exact Nat.ne_of_lt (blk_lt (g:=gb125) (o:=.cells #[.int .i64 a0_0,.string a0_1,.int .i64 a0_2,.slice A0_3 l0_3.length c0_3,.int .i64 a0_4,.string a0_5,.int .i64 a0_6,.slice A0_7 l0_7.length c0_7,.string a0_8] 48 (0,0)) (by (with_reducible repeat (first|refine blk_drewN ?_ _|refine blk_drew ?_|refine blk_alloc ?_ _));exact BK125.out)) : gb125 ≠ gb126));have n6_:=Aside0.mk ((by rw [hg];exact Nat.ne_of_gt (blk_lt (g:=gb125) (o:=.cells #[.int .i64 a0_0,.string a0_1,.int .i64 a0_2,.slice A0_3 l0_3.length c0_3,.int .i64 a0_4,.string a0_5,.int .i64 a0_6,.slice A0_7 l0_7.length c0_7,.string a0_8] 48 (0,0)) (by (with_reducible repeat (first|refine blk_drewN ?_ _|refine blk_drew ?_|refine blk_alloc ?_ _));exact BK125.out)) : gb126 ≠ gb125));clear BK125;clear HB;have BK125:=n0_;have HB:=n1_;have BK126:=n2_;have GW126:=n3_;have GE126:=n4_;have NB125_126:=n5_;have NB126_125:=n6_;clear n0_ n1_ n2_ n3_ n4_ n5_ n6_;clear hb hbox hg;have hnb21:=NB125_126.out;have hnc21:=NB126_125.out;have hcz22_0 : w20.cell? ⟨gb125,0,none⟩ = some (.int .i64 a0_0):=(blk_cell BK125.out 0).trans rfl;have hcz22_1 : w20.cell? ⟨gb125,1,none⟩ = some (.string a0_1):=(blk_cell BK125.out 1).trans rfl;have hcz22_2 : w20.cell? ⟨gb125,2,none⟩ = some (.int .i64 a0_2):=(blk_cell BK125.out 2).trans rfl;have hcz22_3 : w20.cell? ⟨gb125,3,none⟩ = some (.slice A0_3 l0_3.length c0_3):=(blk_cell BK125.out 3).trans rfl;have hcz22_4 : w20.cell? ⟨gb125,4,none⟩ = some (.int .i64 a0_4):=(blk_cell BK125.out 4).trans rfl;have hcz22_5 : w20.cell? ⟨gb125,5,none⟩ = some (.string a0_5):=(blk_cell BK125.out 5).trans rfl;have hcz22_6 : w20.cell? ⟨gb125,6,none⟩ = some (.int .i64 a0_6):=(blk_cell BK125.out 6).trans rfl;have hcz22_7 : w20.cell? ⟨gb125,7,none⟩ = some (.slice A0_7 l0_7.length c0_7):=(blk_cell BK125.out 7).trans rfl;have hcz22_8 : w20.cell? ⟨gb125,8,none⟩ = some (.string a0_8):=(blk_cell BK125.out 8).trans rfl;have hfz22_0:=blk_frozen BK125.out 0;have hfz22_1:=blk_frozen BK125.out 1;have hfz22_2:=blk_frozen BK125.out 2;have hfz22_3:=blk_frozen BK125.out 3;have hfz22_4:=blk_frozen BK125.out 4;have hfz22_5:=blk_frozen BK125.out 5;have hfz22_6:=blk_frozen BK125.out 6;have hfz22_7:=blk_frozen BK125.out 7;have hfz22_8:=blk_frozen BK125.out 8;have hcz23_0 : w20.cell? ⟨gb126,0,none⟩ = some (.int .i64 a1_0):=(blk_cell BK126.out 0).trans rfl;have hcz23_1 : w20.cell? ⟨gb126,1,none⟩ = some (.string a1_1):=(blk_cell BK126.out 1).trans rfl;have hcz23_2 : w20.cell? ⟨gb126,2,none⟩ = some (.int .i64 a1_2):=(blk_cell BK126.out 2).trans rfl;have hcz23_3 : w20.cell? ⟨gb126,3,none⟩ = some (.slice A1_3 l1_3.length c1_3):=(blk_cell BK126.out 3).trans rfl;have hcz23_4 : w20.cell? ⟨gb126,4,none⟩ = some (.int .i64 a1_4):=(blk_cell BK126.out 4).trans rfl;have hcz23_5 : w20.cell? ⟨gb126,5,none⟩ = some (.string a1_5):=(blk_cell BK126.out 5).trans rfl;have hcz23_6 : w20.cell? ⟨gb126,6,none⟩ = some (.int .i64 a1_6):=(blk_cell BK126.out 6).trans rfl;have hcz23_7 : w20.cell? ⟨gb126,7,none⟩ = some (.slice A1_7 l1_7.length c1_7):=(blk_cell BK126.out 7).trans rfl;have hcz23_8 : w20.cell? ⟨gb126,8,none⟩ = some (.string a1_8):=(blk_cell BK126.out 8).trans rfl;have hfz23_0:=blk_frozen BK126.out 0;have hfz23_1:=blk_frozen BK126.out 1;have hfz23_2:=blk_frozen BK126.out 2;have hfz23_3:=blk_frozen BK126.out 3;have hfz23_4:=blk_frozen BK126.out 4;have hfz23_5:=blk_frozen BK126.out 5;have hfz23_6:=blk_frozen BK126.out 6;have hfz23_7:=blk_frozen BK126.out 7;have hfz23_8:=blk_frozen BK126.out 8)|((with_reducible refine gate_callee (f:=14) rfl ?_);refine goesL_ (some 9) rfl rfl Tryd.func14 (by kernel_rfl) rfl #[.agg #[.int .i64 a0_0,.string a0_1,.int .i64 a0_2,.slice A0_3 l0_3.length c0_3],.agg #[.int .i64 a1_0,.string a1_1,.int .i64 a1_2,.slice A1_3 l1_3.length c1_3]] rfl (by (try simp only [List.map_toArray,List.map_cons,List.map_nil]);first|done|rfl|(simp only [List.length_drop,List.length_take];rfl)) ?_;(with_reducible refine (laws_eqTerm.calls k a0_0 a0_1 a0_2 _ _ l0_3 a1_0 a1_1 a1_2 _ _ l1_3 true _ ?side1 ?side2 ?side3 ?side4 A3.out).mono ?_);(case side1 => repeat (first|exact (Kd.C_below HR0_3.out HB.out)|(with_reducible refine Kd.C_alloc ?_ _)|(with_reducible refine Kd.C_drewN ?_ _)|(with_reducible refine Kd.C_drew ?_)));(case side2 => exact HC0_3.out);(case side3 => repeat (first|exact (Kd.C_below HR1_3.out HB.out)|(with_reducible refine Kd.C_alloc ?_ _)|(with_reducible refine Kd.C_drewN ?_ _)|(with_reducible refine Kd.C_drew ?_)));(case side4 => exact HC1_3.out);rintro e w24 ⟨rfl,hb⟩;refine ⟨_,rfl,?_⟩;have n0_:=Aside0.mk (blk_below (g:=gb125) (o:=.cells #[.int .i64 a0_0,.string a0_1,.int .i64 a0_2,.slice A0_3 l0_3.length c0_3,.int .i64 a0_4,.string a0_5,.int .i64 a0_6,.slice A0_7 l0_7.length c0_7,.string a0_8] 48 (0,0)) (by (with_reducible repeat (first|refine blk_drewN ?_ _|refine blk_drew ?_|refine blk_alloc ?_ _));exact BK125.out) hb);have n1_:=Aside0.mk (blk_below (g:=gb126) (o:=.cells #[.int .i64 a1_0,.string a1_1,.int .i64 a1_2,.slice A1_3 l1_3.length c1_3,.int .i64 a1_4,.string a1_5,.int .i64 a1_6,.slice A1_7 l1_7.length c1_7,.string a1_8] 48 (0,0)) (by (with_reducible repeat (first|refine blk_drewN ?_ _|refine blk_drew ?_|refine blk_alloc ?_ _));exact BK126.out) hb);have n2_:=Aside0.mk (below_step (by repeat (first|(with_reducible first|exact HB.out|apply below_alloc|apply pw_below_drewN|apply below_drew1|refine below_set ?_ GE125.out|refine below_set ?_ GE126.out)|exact HB.out)) hb);clear BK125;clear BK126;clear HB;have BK125:=n0_;have BK126:=n1_;have HB:=n2_;clear n0_ n1_ n2_;(try clear hb);(try clear hb2);(try clear hk);(try clear hi);have hcz25_0 : w24.cell? ⟨gb125,0,none⟩ = some (.int .i64 a0_0):=(blk_cell BK125.out 0).trans rfl;have hcz25_1 : w24.cell? ⟨gb125,1,none⟩ = some (.string a0_1):=(blk_cell BK125.out 1).trans rfl;have hcz25_2 : w24.cell? ⟨gb125,2,none⟩ = some (.int .i64 a0_2):=(blk_cell BK125.out 2).trans rfl;have hcz25_3 : w24.cell? ⟨gb125,3,none⟩ = some (.slice A0_3 l0_3.length c0_3):=(blk_cell BK125.out 3).trans rfl;have hcz25_4 : w24.cell? ⟨gb125,4,none⟩ = some (.int .i64 a0_4):=(blk_cell BK125.out 4).trans rfl;have hcz25_5 : w24.cell? ⟨gb125,5,none⟩ = some (.string a0_5):=(blk_cell BK125.out 5).trans rfl;have hcz25_6 : w24.cell? ⟨gb125,6,none⟩ = some (.int .i64 a0_6):=(blk_cell BK125.out 6).trans rfl;have hcz25_7 : w24.cell? ⟨gb125,7,none⟩ = some (.slice A0_7 l0_7.length c0_7):=(blk_cell BK125.out 7).trans rfl;have hcz25_8 : w24.cell? ⟨gb125,8,none⟩ = some (.string a0_8):=(blk_cell BK125.out 8).trans rfl;have hfz25_0:=blk_frozen BK125.out 0;have hfz25_1:=blk_frozen BK125.out 1;have hfz25_2:=blk_frozen BK125.out 2;have hfz25_3:=blk_frozen BK125.out 3;have hfz25_4:=blk_frozen BK125.out 4;have hfz25_5:=blk_frozen BK125.out 5;have hfz25_6:=blk_frozen BK125.out 6;have hfz25_7:=blk_frozen BK125.out 7;have hfz25_8:=blk_frozen BK125.out 8;have hcz26_0 : w24.cell? ⟨gb126,0,none⟩ = some (.int .i64 a1_0):=(blk_cell BK126.out 0).trans rfl;have hcz26_1 : w24.cell? ⟨gb126,1,none⟩ = some (.string a1_1):=(blk_cell BK126.out 1).trans rfl;have hcz26_2 : w24.cell? ⟨gb126,2,none⟩ = some (.int .i64 a1_2):=(blk_cell BK126.out 2).trans rfl;have hcz26_3 : w24.cell? ⟨gb126,3,none⟩ = some (.slice A1_3 l1_3.length c1_3):=(blk_cell BK126.out 3).trans rfl;have hcz26_4 : w24.cell? ⟨gb126,4,none⟩ = some (.int .i64 a1_4):=(blk_cell BK126.out 4).trans rfl;have hcz26_5 : w24.cell? ⟨gb126,5,none⟩ = some (.string a1_5):=(blk_cell BK126.out 5).trans rfl;have hcz26_6 : w24.cell? ⟨gb126,6,none⟩ = some (.int .i64 a1_6):=(blk_cell BK126.out 6).trans rfl;have hcz26_7 : w24.cell? ⟨gb126,7,none⟩ = some (.slice A1_7 l1_7.length c1_7):=(blk_cell BK126.out 7).trans rfl;have hcz26_8 : w24.cell? ⟨gb126,8,none⟩ = some (.string a1_8):=(blk_cell BK126.out 8).trans rfl;have hfz26_0:=blk_frozen BK126.out 0;have hfz26_1:=blk_frozen BK126.out 1;have hfz26_2:=blk_frozen BK126.out 2;have hfz26_3:=blk_frozen BK126.out 3;have hfz26_4:=blk_frozen BK126.out 4;have hfz26_5:=blk_frozen BK126.out 5;have hfz26_6:=blk_frozen BK126.out 6;have hfz26_7:=blk_frozen BK126.out 7;have hfz26_8:=blk_frozen BK126.out 8)|((with_reducible refine gate_callee (f:=14) rfl ?_);refine goesL_ (some 15) rfl rfl Tryd.func14 (by kernel_rfl) rfl #[.agg #[.int .i64 a0_4,.string a0_5,.int .i64 a0_6,.slice A0_7 l0_7.length c0_7],.agg #[.int .i64 a1_4,.string a1_5,.int .i64 a1_6,.slice A1_7 l1_7.length c1_7]] rfl (by (try simp only [List.map_toArray,List.map_cons,List.map_nil]);first|done|rfl|(simp only [List.length_drop,List.length_take];rfl)) ?_;(with_reducible refine (laws_eqTerm.calls k a0_4 a0_5 a0_6 _ _ l0_7 a1_4 a1_5 a1_6 _ _ l1_7 true _ ?side1 ?side2 ?side3 ?side4 A5.out).mono ?_);(case side1 => repeat (first|exact (Kd.C_below HR0_7.out HB.out)|(with_reducible refine Kd.C_alloc ?_ _)|(with_reducible refine Kd.C_drewN ?_ _)|(with_reducible refine Kd.C_drew ?_)));(case side2 => exact HC0_7.out);(case side3 => repeat (first|exact (Kd.C_below HR1_7.out HB.out)|(with_reducible refine Kd.C_alloc ?_ _)|(with_reducible refine Kd.C_drewN ?_ _)|(with_reducible refine Kd.C_drew ?_)));(case side4 => exact HC1_7.out);rintro e w27 ⟨rfl,hb⟩;refine ⟨_,rfl,?_⟩;have n0_:=Aside0.mk (blk_below (g:=gb125) (o:=.cells #[.int .i64 a0_0,.string a0_1,.int .i64 a0_2,.slice A0_3 l0_3.length c0_3,.int .i64 a0_4,.string a0_5,.int .i64 a0_6,.slice A0_7 l0_7.length c0_7,.string a0_8] 48 (0,0)) (by (with_reducible repeat (first|refine blk_drewN ?_ _|refine blk_drew ?_|refine blk_alloc ?_ _));exact BK125.out) hb);have n1_:=Aside0.mk (blk_below (g:=gb126) (o:=.cells #[.int .i64 a1_0,.string a1_1,.int .i64 a1_2,.slice A1_3 l1_3.length c1_3,.int .i64 a1_4,.string a1_5,.int .i64 a1_6,.slice A1_7 l1_7.length c1_7,.string a1_8] 48 (0,0)) (by (with_reducible repeat (first|refine blk_drewN ?_ _|refine blk_drew ?_|refine blk_alloc ?_ _));exact BK126.out) hb);have n2_:=Aside0.mk (below_step (by repeat (first|(with_reducible first|exact HB.out|apply below_alloc|apply pw_below_drewN|apply below_drew1|refine below_set ?_ GE125.out|refine below_set ?_ GE126.out)|exact HB.out)) hb);clear BK125;clear BK126;clear HB;have BK125:=n0_;have BK126:=n1_;have HB:=n2_;clear n0_ n1_ n2_;(try clear hb);(try clear hb2);(try clear hk);(try clear hi);have hcz28_0 : w27.cell? ⟨gb125,0,none⟩ = some (.int .i64 a0_0):=(blk_cell BK125.out 0).trans rfl;have hcz28_1 : w27.cell? ⟨gb125,1,none⟩ = some (.string a0_1):=(blk_cell BK125.out 1).trans rfl;have hcz28_2 : w27.cell? ⟨gb125,2,none⟩ = some (.int .i64 a0_2):=(blk_cell BK125.out 2).trans rfl;have hcz28_3 : w27.cell? ⟨gb125,3,none⟩ = some (.slice A0_3 l0_3.length c0_3):=(blk_cell BK125.out 3).trans rfl;have hcz28_4 : w27.cell? ⟨gb125,4,none⟩ = some (.int .i64 a0_4):=(blk_cell BK125.out 4).trans rfl;have hcz28_5 : w27.cell? ⟨gb125,5,none⟩ = some (.string a0_5):=(blk_cell BK125.out 5).trans rfl;have hcz28_6 : w27.cell? ⟨gb125,6,none⟩ = some (.int .i64 a0_6):=(blk_cell BK125.out 6).trans rfl;have hcz28_7 : w27.cell? ⟨gb125,7,none⟩ = some (.slice A0_7 l0_7.length c0_7):=(blk_cell BK125.out 7).trans rfl;have hcz28_8 : w27.cell? ⟨gb125,8,none⟩ = some (.string a0_8):=(blk_cell BK125.out 8).trans rfl;have hfz28_0:=blk_frozen BK125.out 0;have hfz28_1:=blk_frozen BK125.out 1;have hfz28_2:=blk_frozen BK125.out 2;have hfz28_3:=blk_frozen BK125.out 3;have hfz28_4:=blk_frozen BK125.out 4;have hfz28_5:=blk_frozen BK125.out 5;have hfz28_6:=blk_frozen BK125.out 6;have hfz28_7:=blk_frozen BK125.out 7;have hfz28_8:=blk_frozen BK125.out 8;have hcz29_0 : w27.cell? ⟨gb126,0,none⟩ = some (.int .i64 a1_0):=(blk_cell BK126.out 0).trans rfl;have hcz29_1 : w27.cell? ⟨gb126,1,none⟩ = some (.string a1_1):=(blk_cell BK126.out 1).trans rfl;have hcz29_2 : w27.cell? ⟨gb126,2,none⟩ = some (.int .i64 a1_2):=(blk_cell BK126.out 2).trans rfl;have hcz29_3 : w27.cell? ⟨gb126,3,none⟩ = some (.slice A1_3 l1_3.length c1_3):=(blk_cell BK126.out 3).trans rfl;have hcz29_4 : w27.cell? ⟨gb126,4,none⟩ = some (.int .i64 a1_4):=(blk_cell BK126.out 4).trans rfl;have hcz29_5 : w27.cell? ⟨gb126,5,none⟩ = some (.string a1_5):=(blk_cell BK126.out 5).trans rfl;have hcz29_6 : w27.cell? ⟨gb126,6,none⟩ = some (.int .i64 a1_6):=(blk_cell BK126.out 6).trans rfl;have hcz29_7 : w27.cell? ⟨gb126,7,none⟩ = some (.slice A1_7 l1_7.length c1_7):=(blk_cell BK126.out 7).trans rfl;have hcz29_8 : w27.cell? ⟨gb126,8,none⟩ = some (.string a1_8):=(blk_cell BK126.out 8).trans rfl;have hfz29_0:=blk_frozen BK126.out 0;have hfz29_1:=blk_frozen BK126.out 1;have hfz29_2:=blk_frozen BK126.out 2;have hfz29_3:=blk_frozen BK126.out 3;have hfz29_4:=blk_frozen BK126.out 4;have hfz29_5:=blk_frozen BK126.out 5;have hfz29_6:=blk_frozen BK126.out 6;have hfz29_7:=blk_frozen BK126.out 7;have hfz29_8:=blk_frozen BK126.out 8))
    go_ret
    exact ⟨by first|rfl|(simp [errW_none,errW_some] <;> rfl)|(simp [*,errW_none,errW_some] <;> rfl),by repeat (first|(with_reducible first|exact HB.out|apply below_alloc|apply pw_below_drewN|apply below_drew1|refine below_set ?_ GE125.out|refine below_set ?_ GE126.out)|exact HB.out)⟩
  ·replace c6:=Bool.eq_false_iff.mpr c6
   subst c6
   have H1 : (some false) = some r:=by rw [if_neg (show ¬ (false = true) by decide)] at H;exact H
   clear H
   have H:=H1
   clear H1
   obtain rfl:=Option.some.inj H
   go_enter Tryd.func24,Tryd.ntmps24
   go_wp2_with (first|((with_reducible refine gate_dst (N:=2) rfl ?_);refine box_event ?hg (N:=2) ?hd (cs:=#[.int .i64 a0_0,.string a0_1,.int .i64 a0_2,.slice A0_3 l0_3.length c0_3,.int .i64 a0_4,.string a0_5,.int .i64 a0_6,.slice A0_7 l0_7.length c0_7,.string a0_8]) (t:=48) ?hr ?_;(case hd => rfl);(case hg => rfl);(case hr => first|(go_simp;done)|(go_simp;rfl));intro gb125 hg w30 hbox hb;have n0_:=Aside0.mk (below_step (by repeat (first|(with_reducible first|exact HB.out|apply below_alloc|apply pw_below_drewN|apply below_drew1)|exact HB.out)) hb);have n1_:=Aside0.mk (hbox);have n2_:=Aside0.mk ((by rw [hg];exact (below_size (by repeat (first|(with_reducible first|exact HB.out|apply below_alloc|apply pw_below_drewN|apply below_drew1)|exact HB.out))) : w.heap.size ≤ gb125));have n3_:=Aside0.mk ((by rw [hg];exact (below_size (by repeat (first|(with_reducible first|exact HB.out|apply below_alloc|apply pw_below_drewN|apply below_drew1)|exact HB.out))) : w.heap.size ≤ gb125));clear HB;have HB:=n0_;have BK125:=n1_;have GW125:=n2_;have GE125:=n3_;clear n0_ n1_ n2_ n3_;clear hb hbox hg)|((with_reducible refine gate_dst (N:=3) rfl ?_);refine box_event ?hg (N:=3) ?hd (cs:=#[.int .i64 a1_0,.string a1_1,.int .i64 a1_2,.slice A1_3 l1_3.length c1_3,.int .i64 a1_4,.string a1_5,.int .i64 a1_6,.slice A1_7 l1_7.length c1_7,.string a1_8]) (t:=48) ?hr ?_;(case hd => rfl);(case hg => rfl);(case hr => first|(go_simp;done)|(go_simp;rfl));intro gb126 hg w31 hbox hb;have n0_:=Aside0.mk (blk_below (g:=gb125) (o:=.cells #[.int .i64 a0_0,.string a0_1,.int .i64 a0_2,.slice A0_3 l0_3.length c0_3,.int .i64 a0_4,.string a0_5,.int .i64 a0_6,.slice A0_7 l0_7.length c0_7,.string a0_8] 48 (0,0)) (by (with_reducible repeat (first|refine blk_drewN ?_ _|refine blk_drew ?_|refine blk_alloc ?_ _));exact BK125.out) hb);have n1_:=Aside0.mk (below_step (by repeat (first|(with_reducible first|exact HB.out|apply below_alloc|apply pw_below_drewN|apply below_drew1|refine below_set ?_ GE125.out)|exact HB.out)) hb);have n2_:=Aside0.mk (hbox);have n3_:=Aside0.mk ((by rw [hg];exact (below_size (by repeat (first|(with_reducible first|exact HB.out|apply below_alloc|apply pw_below_drewN|apply below_drew1|refine below_set ?_ GE125.out)|exact HB.out))) : w.heap.size ≤ gb126));have n4_:=Aside0.mk ((by rw [hg];exact (below_size (by repeat (first|(with_reducible first|exact HB.out|apply below_alloc|apply pw_below_drewN|apply below_drew1|refine below_set ?_ GE125.out)|exact HB.out))) : w.heap.size ≤ gb126));have n5_:=Aside0.mk ((by rw [hg];exact Nat.ne_of_lt (blk_lt (g:=gb125) (o:=.cells #[.int .i64 a0_0,.string a0_1,.int .i64 a0_2,.slice A0_3 l0_3.length c0_3,.int .i64 a0_4,.string a0_5,.int .i64 a0_6,.slice A0_7 l0_7.length c0_7,.string a0_8] 48 (0,0)) (by (with_reducible repeat (first|refine blk_drewN ?_ _|refine blk_drew ?_|refine blk_alloc ?_ _));exact BK125.out)) : gb125 ≠ gb126));have n6_:=Aside0.mk ((by rw [hg];exact Nat.ne_of_gt (blk_lt (g:=gb125) (o:=.cells #[.int .i64 a0_0,.string a0_1,.int .i64 a0_2,.slice A0_3 l0_3.length c0_3,.int .i64 a0_4,.string a0_5,.int .i64 a0_6,.slice A0_7 l0_7.length c0_7,.string a0_8] 48 (0,0)) (by (with_reducible repeat (first|refine blk_drewN ?_ _|refine blk_drew ?_|refine blk_alloc ?_ _));exact BK125.out)) : gb126 ≠ gb125));clear BK125;clear HB;have BK125:=n0_;have HB:=n1_;have BK126:=n2_;have GW126:=n3_;have GE126:=n4_;have NB125_126:=n5_;have NB126_125:=n6_;clear n0_ n1_ n2_ n3_ n4_ n5_ n6_;clear hb hbox hg;have hnb32:=NB125_126.out;have hnc32:=NB126_125.out;have hcz33_0 : w31.cell? ⟨gb125,0,none⟩ = some (.int .i64 a0_0):=(blk_cell BK125.out 0).trans rfl;have hcz33_1 : w31.cell? ⟨gb125,1,none⟩ = some (.string a0_1):=(blk_cell BK125.out 1).trans rfl;have hcz33_2 : w31.cell? ⟨gb125,2,none⟩ = some (.int .i64 a0_2):=(blk_cell BK125.out 2).trans rfl;have hcz33_3 : w31.cell? ⟨gb125,3,none⟩ = some (.slice A0_3 l0_3.length c0_3):=(blk_cell BK125.out 3).trans rfl;have hcz33_4 : w31.cell? ⟨gb125,4,none⟩ = some (.int .i64 a0_4):=(blk_cell BK125.out 4).trans rfl;have hcz33_5 : w31.cell? ⟨gb125,5,none⟩ = some (.string a0_5):=(blk_cell BK125.out 5).trans rfl;have hcz33_6 : w31.cell? ⟨gb125,6,none⟩ = some (.int .i64 a0_6):=(blk_cell BK125.out 6).trans rfl;have hcz33_7 : w31.cell? ⟨gb125,7,none⟩ = some (.slice A0_7 l0_7.length c0_7):=(blk_cell BK125.out 7).trans rfl;have hcz33_8 : w31.cell? ⟨gb125,8,none⟩ = some (.string a0_8):=(blk_cell BK125.out 8).trans rfl;have hfz33_0:=blk_frozen BK125.out 0;have hfz33_1:=blk_frozen BK125.out 1;have hfz33_2:=blk_frozen BK125.out 2;have hfz33_3:=blk_frozen BK125.out 3;have hfz33_4:=blk_frozen BK125.out 4;have hfz33_5:=blk_frozen BK125.out 5;have hfz33_6:=blk_frozen BK125.out 6;have hfz33_7:=blk_frozen BK125.out 7;have hfz33_8:=blk_frozen BK125.out 8;have hcz34_0 : w31.cell? ⟨gb126,0,none⟩ = some (.int .i64 a1_0):=(blk_cell BK126.out 0).trans rfl;have hcz34_1 : w31.cell? ⟨gb126,1,none⟩ = some (.string a1_1):=(blk_cell BK126.out 1).trans rfl;have hcz34_2 : w31.cell? ⟨gb126,2,none⟩ = some (.int .i64 a1_2):=(blk_cell BK126.out 2).trans rfl;have hcz34_3 : w31.cell? ⟨gb126,3,none⟩ = some (.slice A1_3 l1_3.length c1_3):=(blk_cell BK126.out 3).trans rfl;have hcz34_4 : w31.cell? ⟨gb126,4,none⟩ = some (.int .i64 a1_4):=(blk_cell BK126.out 4).trans rfl;have hcz34_5 : w31.cell? ⟨gb126,5,none⟩ = some (.string a1_5):=(blk_cell BK126.out 5).trans rfl;have hcz34_6 : w31.cell? ⟨gb126,6,none⟩ = some (.int .i64 a1_6):=(blk_cell BK126.out 6).trans rfl;have hcz34_7 : w31.cell? ⟨gb126,7,none⟩ = some (.slice A1_7 l1_7.length c1_7):=(blk_cell BK126.out 7).trans rfl;have hcz34_8 : w31.cell? ⟨gb126,8,none⟩ = some (.string a1_8):=(blk_cell BK126.out 8).trans rfl;have hfz34_0:=blk_frozen BK126.out 0;have hfz34_1:=blk_frozen BK126.out 1;have hfz34_2:=blk_frozen BK126.out 2;have hfz34_3:=blk_frozen BK126.out 3;have hfz34_4:=blk_frozen BK126.out 4;have hfz34_5:=blk_frozen BK126.out 5;have hfz34_6:=blk_frozen BK126.out 6;have hfz34_7:=blk_frozen BK126.out 7;have hfz34_8:=blk_frozen BK126.out 8)|((with_reducible refine gate_callee (f:=14) rfl ?_);refine goesL_ (some 9) rfl rfl Tryd.func14 (by kernel_rfl) rfl #[.agg #[.int .i64 a0_0,.string a0_1,.int .i64 a0_2,.slice A0_3 l0_3.length c0_3],.agg #[.int .i64 a1_0,.string a1_1,.int .i64 a1_2,.slice A1_3 l1_3.length c1_3]] rfl (by (try simp only [List.map_toArray,List.map_cons,List.map_nil]);first|done|rfl|(simp only [List.length_drop,List.length_take];rfl)) ?_;(with_reducible refine (laws_eqTerm.calls k a0_0 a0_1 a0_2 _ _ l0_3 a1_0 a1_1 a1_2 _ _ l1_3 true _ ?side1 ?side2 ?side3 ?side4 A3.out).mono ?_);(case side1 => repeat (first|exact (Kd.C_below HR0_3.out HB.out)|(with_reducible refine Kd.C_alloc ?_ _)|(with_reducible refine Kd.C_drewN ?_ _)|(with_reducible refine Kd.C_drew ?_)));(case side2 => exact HC0_3.out);(case side3 => repeat (first|exact (Kd.C_below HR1_3.out HB.out)|(with_reducible refine Kd.C_alloc ?_ _)|(with_reducible refine Kd.C_drewN ?_ _)|(with_reducible refine Kd.C_drew ?_)));(case side4 => exact HC1_3.out);rintro e w35 ⟨rfl,hb⟩;refine ⟨_,rfl,?_⟩;have n0_:=Aside0.mk (blk_below (g:=gb125) (o:=.cells #[.int .i64 a0_0,.string a0_1,.int .i64 a0_2,.slice A0_3 l0_3.length c0_3,.int .i64 a0_4,.string a0_5,.int .i64 a0_6,.slice A0_7 l0_7.length c0_7,.string a0_8] 48 (0,0)) (by (with_reducible repeat (first|refine blk_drewN ?_ _|refine blk_drew ?_|refine blk_alloc ?_ _));exact BK125.out) hb);have n1_:=Aside0.mk (blk_below (g:=gb126) (o:=.cells #[.int .i64 a1_0,.string a1_1,.int .i64 a1_2,.slice A1_3 l1_3.length c1_3,.int .i64 a1_4,.string a1_5,.int .i64 a1_6,.slice A1_7 l1_7.length c1_7,.string a1_8] 48 (0,0)) (by (with_reducible repeat (first|refine blk_drewN ?_ _|refine blk_drew ?_|refine blk_alloc ?_ _));exact BK126.out) hb);have n2_:=Aside0.mk (below_step (by repeat (first|(with_reducible first|exact HB.out|apply below_alloc|apply pw_below_drewN|apply below_drew1|refine below_set ?_ GE125.out|refine below_set ?_ GE126.out)|exact HB.out)) hb);clear BK125;clear BK126;clear HB;have BK125:=n0_;have BK126:=n1_;have HB:=n2_;clear n0_ n1_ n2_;(try clear hb);(try clear hb2);(try clear hk);(try clear hi);have hcz36_0 : w35.cell? ⟨gb125,0,none⟩ = some (.int .i64 a0_0):=(blk_cell BK125.out 0).trans rfl;have hcz36_1 : w35.cell? ⟨gb125,1,none⟩ = some (.string a0_1):=(blk_cell BK125.out 1).trans rfl;have hcz36_2 : w35.cell? ⟨gb125,2,none⟩ = some (.int .i64 a0_2):=(blk_cell BK125.out 2).trans rfl;have hcz36_3 : w35.cell? ⟨gb125,3,none⟩ = some (.slice A0_3 l0_3.length c0_3):=(blk_cell BK125.out 3).trans rfl;have hcz36_4 : w35.cell? ⟨gb125,4,none⟩ = some (.int .i64 a0_4):=(blk_cell BK125.out 4).trans rfl;have hcz36_5 : w35.cell? ⟨gb125,5,none⟩ = some (.string a0_5):=(blk_cell BK125.out 5).trans rfl;have hcz36_6 : w35.cell? ⟨gb125,6,none⟩ = some (.int .i64 a0_6):=(blk_cell BK125.out 6).trans rfl;have hcz36_7 : w35.cell? ⟨gb125,7,none⟩ = some (.slice A0_7 l0_7.length c0_7):=(blk_cell BK125.out 7).trans rfl;have hcz36_8 : w35.cell? ⟨gb125,8,none⟩ = some (.string a0_8):=(blk_cell BK125.out 8).trans rfl;have hfz36_0:=blk_frozen BK125.out 0;have hfz36_1:=blk_frozen BK125.out 1;have hfz36_2:=blk_frozen BK125.out 2;have hfz36_3:=blk_frozen BK125.out 3;have hfz36_4:=blk_frozen BK125.out 4;have hfz36_5:=blk_frozen BK125.out 5;have hfz36_6:=blk_frozen BK125.out 6;have hfz36_7:=blk_frozen BK125.out 7;have hfz36_8:=blk_frozen BK125.out 8;have hcz37_0 : w35.cell? ⟨gb126,0,none⟩ = some (.int .i64 a1_0):=(blk_cell BK126.out 0).trans rfl;have hcz37_1 : w35.cell? ⟨gb126,1,none⟩ = some (.string a1_1):=(blk_cell BK126.out 1).trans rfl;have hcz37_2 : w35.cell? ⟨gb126,2,none⟩ = some (.int .i64 a1_2):=(blk_cell BK126.out 2).trans rfl;have hcz37_3 : w35.cell? ⟨gb126,3,none⟩ = some (.slice A1_3 l1_3.length c1_3):=(blk_cell BK126.out 3).trans rfl;have hcz37_4 : w35.cell? ⟨gb126,4,none⟩ = some (.int .i64 a1_4):=(blk_cell BK126.out 4).trans rfl;have hcz37_5 : w35.cell? ⟨gb126,5,none⟩ = some (.string a1_5):=(blk_cell BK126.out 5).trans rfl;have hcz37_6 : w35.cell? ⟨gb126,6,none⟩ = some (.int .i64 a1_6):=(blk_cell BK126.out 6).trans rfl;have hcz37_7 : w35.cell? ⟨gb126,7,none⟩ = some (.slice A1_7 l1_7.length c1_7):=(blk_cell BK126.out 7).trans rfl;have hcz37_8 : w35.cell? ⟨gb126,8,none⟩ = some (.string a1_8):=(blk_cell BK126.out 8).trans rfl;have hfz37_0:=blk_frozen BK126.out 0;have hfz37_1:=blk_frozen BK126.out 1;have hfz37_2:=blk_frozen BK126.out 2;have hfz37_3:=blk_frozen BK126.out 3;have hfz37_4:=blk_frozen BK126.out 4;have hfz37_5:=blk_frozen BK126.out 5;have hfz37_6:=blk_frozen BK126.out 6;have hfz37_7:=blk_frozen BK126.out 7;have hfz37_8:=blk_frozen BK126.out 8)|((with_reducible refine gate_callee (f:=14) rfl ?_);refine goesL_ (some 15) rfl rfl Tryd.func14 (by kernel_rfl) rfl #[.agg #[.int .i64 a0_4,.string a0_5,.int .i64 a0_6,.slice A0_7 l0_7.length c0_7],.agg #[.int .i64 a1_4,.string a1_5,.int .i64 a1_6,.slice A1_7 l1_7.length c1_7]] rfl (by (try simp only [List.map_toArray,List.map_cons,List.map_nil]);first|done|rfl|(simp only [List.length_drop,List.length_take];rfl)) ?_;(with_reducible refine (laws_eqTerm.calls k a0_4 a0_5 a0_6 _ _ l0_7 a1_4 a1_5 a1_6 _ _ l1_7 false _ ?side1 ?side2 ?side3 ?side4 A5.out).mono ?_);(case side1 => repeat (first|exact (Kd.C_below HR0_7.out HB.out)|(with_reducible refine Kd.C_alloc ?_ _)|(with_reducible refine Kd.C_drewN ?_ _)|(with_reducible refine Kd.C_drew ?_)));(case side2 => exact HC0_7.out);(case side3 => repeat (first|exact (Kd.C_below HR1_7.out HB.out)|(with_reducible refine Kd.C_alloc ?_ _)|(with_reducible refine Kd.C_drewN ?_ _)|(with_reducible refine Kd.C_drew ?_)));(case side4 => exact HC1_7.out);rintro e w38 ⟨rfl,hb⟩;refine ⟨_,rfl,?_⟩;have n0_:=Aside0.mk (blk_below (g:=gb125) (o:=.cells #[.int .i64 a0_0,.string a0_1,.int .i64 a0_2,.slice A0_3 l0_3.length c0_3,.int .i64 a0_4,.string a0_5,.int .i64 a0_6,.slice A0_7 l0_7.length c0_7,.string a0_8] 48 (0,0)) (by (with_reducible repeat (first|refine blk_drewN ?_ _|refine blk_drew ?_|refine blk_alloc ?_ _));exact BK125.out) hb);have n1_:=Aside0.mk (blk_below (g:=gb126) (o:=.cells #[.int .i64 a1_0,.string a1_1,.int .i64 a1_2,.slice A1_3 l1_3.length c1_3,.int .i64 a1_4,.string a1_5,.int .i64 a1_6,.slice A1_7 l1_7.length c1_7,.string a1_8] 48 (0,0)) (by (with_reducible repeat (first|refine blk_drewN ?_ _|refine blk_drew ?_|refine blk_alloc ?_ _));exact BK126.out) hb);have n2_:=Aside0.mk (below_step (by repeat (first|(with_reducible first|exact HB.out|apply below_alloc|apply pw_below_drewN|apply below_drew1|refine below_set ?_ GE125.out|refine below_set ?_ GE126.out)|exact HB.out)) hb);clear BK125;clear BK126;clear HB;have BK125:=n0_;have BK126:=n1_;have HB:=n2_;clear n0_ n1_ n2_;(try clear hb)))
   go_ret
   exact ⟨by first|rfl|(simp [errW_none,errW_some] <;> rfl)|(simp [*,errW_none,errW_some] <;> rfl),by repeat (first|(with_reducible first|exact HB.out|apply below_alloc|apply pw_below_drewN|apply below_drew1|refine below_set ?_ GE125.out|refine below_set ?_ GE126.out)|exact HB.out)⟩
 ·replace c4:=Bool.eq_false_iff.mpr c4
  subst c4
  have H1 : (some false) = some r:=by rw [if_neg (show ¬ (false = true) by decide)] at H;exact H
  clear H
  have H:=H1
  clear H1
  obtain rfl:=Option.some.inj H
  go_enter Tryd.func24,Tryd.ntmps24
  go_wp2_with (first|((with_reducible refine gate_dst (N:=2) rfl ?_);refine box_event ?hg (N:=2) ?hd (cs:=#[.int .i64 a0_0,.string a0_1,.int .i64 a0_2,.slice A0_3 l0_3.length c0_3,.int .i64 a0_4,.string a0_5,.int .i64 a0_6,.slice A0_7 l0_7.length c0_7,.string a0_8]) (t:=48) ?hr ?_;(case hd => rfl);(case hg => rfl);(case hr => first|(go_simp;done)|(go_simp;rfl));intro gb125 hg w39 hbox hb;have n0_:=Aside0.mk (below_step (by repeat (first|(with_reducible first|exact HB.out|apply below_alloc|apply pw_below_drewN|apply below_drew1)|exact HB.out)) hb);have n1_:=Aside0.mk (hbox);have n2_:=Aside0.mk ((by rw [hg];exact (below_size (by repeat (first|(with_reducible first|exact HB.out|apply below_alloc|apply pw_below_drewN|apply below_drew1)|exact HB.out))) : w.heap.size ≤ gb125));have n3_:=Aside0.mk ((by rw [hg];exact (below_size (by repeat (first|(with_reducible first|exact HB.out|apply below_alloc|apply pw_below_drewN|apply below_drew1)|exact HB.out))) : w.heap.size ≤ gb125));clear HB;have HB:=n0_;have BK125:=n1_;have GW125:=n2_;have GE125:=n3_;clear n0_ n1_ n2_ n3_;clear hb hbox hg)|((with_reducible refine gate_dst (N:=3) rfl ?_);refine box_event ?hg (N:=3) ?hd (cs:=#[.int .i64 a1_0,.string a1_1,.int .i64 a1_2,.slice A1_3 l1_3.length c1_3,.int .i64 a1_4,.string a1_5,.int .i64 a1_6,.slice A1_7 l1_7.length c1_7,.string a1_8]) (t:=48) ?hr ?_;(case hd => rfl);(case hg => rfl);(case hr => first|(go_simp;done)|(go_simp;rfl));intro gb126 hg w40 hbox hb;have n0_:=Aside0.mk (blk_below (g:=gb125) (o:=.cells #[.int .i64 a0_0,.string a0_1,.int .i64 a0_2,.slice A0_3 l0_3.length c0_3,.int .i64 a0_4,.string a0_5,.int .i64 a0_6,.slice A0_7 l0_7.length c0_7,.string a0_8] 48 (0,0)) (by (with_reducible repeat (first|refine blk_drewN ?_ _|refine blk_drew ?_|refine blk_alloc ?_ _));exact BK125.out) hb);have n1_:=Aside0.mk (below_step (by repeat (first|(with_reducible first|exact HB.out|apply below_alloc|apply pw_below_drewN|apply below_drew1|refine below_set ?_ GE125.out)|exact HB.out)) hb);have n2_:=Aside0.mk (hbox);have n3_:=Aside0.mk ((by rw [hg];exact (below_size (by repeat (first|(with_reducible first|exact HB.out|apply below_alloc|apply pw_below_drewN|apply below_drew1|refine below_set ?_ GE125.out)|exact HB.out))) : w.heap.size ≤ gb126));have n4_:=Aside0.mk ((by rw [hg];exact (below_size (by repeat (first|(with_reducible first|exact HB.out|apply below_alloc|apply pw_below_drewN|apply below_drew1|refine below_set ?_ GE125.out)|exact HB.out))) : w.heap.size ≤ gb126));have n5_:=Aside0.mk ((by rw [hg];exact Nat.ne_of_lt (blk_lt (g:=gb125) (o:=.cells #[.int .i64 a0_0,.string a0_1,.int .i64 a0_2,.slice A0_3 l0_3.length c0_3,.int .i64 a0_4,.string a0_5,.int .i64 a0_6,.slice A0_7 l0_7.length c0_7,.string a0_8] 48 (0,0)) (by (with_reducible repeat (first|refine blk_drewN ?_ _|refine blk_drew ?_|refine blk_alloc ?_ _));exact BK125.out)) : gb125 ≠ gb126));have n6_:=Aside0.mk ((by rw [hg];exact Nat.ne_of_gt (blk_lt (g:=gb125) (o:=.cells #[.int .i64 a0_0,.string a0_1,.int .i64 a0_2,.slice A0_3 l0_3.length c0_3,.int .i64 a0_4,.string a0_5,.int .i64 a0_6,.slice A0_7 l0_7.length c0_7,.string a0_8] 48 (0,0)) (by (with_reducible repeat (first|refine blk_drewN ?_ _|refine blk_drew ?_|refine blk_alloc ?_ _));exact BK125.out)) : gb126 ≠ gb125));clear BK125;clear HB;have BK125:=n0_;have HB:=n1_;have BK126:=n2_;have GW126:=n3_;have GE126:=n4_;have NB125_126:=n5_;have NB126_125:=n6_;clear n0_ n1_ n2_ n3_ n4_ n5_ n6_;clear hb hbox hg;have hnb41:=NB125_126.out;have hnc41:=NB126_125.out;have hcz42_0 : w40.cell? ⟨gb125,0,none⟩ = some (.int .i64 a0_0):=(blk_cell BK125.out 0).trans rfl;have hcz42_1 : w40.cell? ⟨gb125,1,none⟩ = some (.string a0_1):=(blk_cell BK125.out 1).trans rfl;have hcz42_2 : w40.cell? ⟨gb125,2,none⟩ = some (.int .i64 a0_2):=(blk_cell BK125.out 2).trans rfl;have hcz42_3 : w40.cell? ⟨gb125,3,none⟩ = some (.slice A0_3 l0_3.length c0_3):=(blk_cell BK125.out 3).trans rfl;have hcz42_4 : w40.cell? ⟨gb125,4,none⟩ = some (.int .i64 a0_4):=(blk_cell BK125.out 4).trans rfl;have hcz42_5 : w40.cell? ⟨gb125,5,none⟩ = some (.string a0_5):=(blk_cell BK125.out 5).trans rfl;have hcz42_6 : w40.cell? ⟨gb125,6,none⟩ = some (.int .i64 a0_6):=(blk_cell BK125.out 6).trans rfl;have hcz42_7 : w40.cell? ⟨gb125,7,none⟩ = some (.slice A0_7 l0_7.length c0_7):=(blk_cell BK125.out 7).trans rfl;have hcz42_8 : w40.cell? ⟨gb125,8,none⟩ = some (.string a0_8):=(blk_cell BK125.out 8).trans rfl;have hfz42_0:=blk_frozen BK125.out 0;have hfz42_1:=blk_frozen BK125.out 1;have hfz42_2:=blk_frozen BK125.out 2;have hfz42_3:=blk_frozen BK125.out 3;have hfz42_4:=blk_frozen BK125.out 4;have hfz42_5:=blk_frozen BK125.out 5;have hfz42_6:=blk_frozen BK125.out 6;have hfz42_7:=blk_frozen BK125.out 7;have hfz42_8:=blk_frozen BK125.out 8;have hcz43_0 : w40.cell? ⟨gb126,0,none⟩ = some (.int .i64 a1_0):=(blk_cell BK126.out 0).trans rfl;have hcz43_1 : w40.cell? ⟨gb126,1,none⟩ = some (.string a1_1):=(blk_cell BK126.out 1).trans rfl;have hcz43_2 : w40.cell? ⟨gb126,2,none⟩ = some (.int .i64 a1_2):=(blk_cell BK126.out 2).trans rfl;have hcz43_3 : w40.cell? ⟨gb126,3,none⟩ = some (.slice A1_3 l1_3.length c1_3):=(blk_cell BK126.out 3).trans rfl;have hcz43_4 : w40.cell? ⟨gb126,4,none⟩ = some (.int .i64 a1_4):=(blk_cell BK126.out 4).trans rfl;have hcz43_5 : w40.cell? ⟨gb126,5,none⟩ = some (.string a1_5):=(blk_cell BK126.out 5).trans rfl;have hcz43_6 : w40.cell? ⟨gb126,6,none⟩ = some (.int .i64 a1_6):=(blk_cell BK126.out 6).trans rfl;have hcz43_7 : w40.cell? ⟨gb126,7,none⟩ = some (.slice A1_7 l1_7.length c1_7):=(blk_cell BK126.out 7).trans rfl;have hcz43_8 : w40.cell? ⟨gb126,8,none⟩ = some (.string a1_8):=(blk_cell BK126.out 8).trans rfl;have hfz43_0:=blk_frozen BK126.out 0;have hfz43_1:=blk_frozen BK126.out 1;have hfz43_2:=blk_frozen BK126.out 2;have hfz43_3:=blk_frozen BK126.out 3;have hfz43_4:=blk_frozen BK126.out 4;have hfz43_5:=blk_frozen BK126.out 5;have hfz43_6:=blk_frozen BK126.out 6;have hfz43_7:=blk_frozen BK126.out 7;have hfz43_8:=blk_frozen BK126.out 8)|((with_reducible refine gate_callee (f:=14) rfl ?_);refine goesL_ (some 9) rfl rfl Tryd.func14 (by kernel_rfl) rfl #[.agg #[.int .i64 a0_0,.string a0_1,.int .i64 a0_2,.slice A0_3 l0_3.length c0_3],.agg #[.int .i64 a1_0,.string a1_1,.int .i64 a1_2,.slice A1_3 l1_3.length c1_3]] rfl (by (try simp only [List.map_toArray,List.map_cons,List.map_nil]);first|done|rfl|(simp only [List.length_drop,List.length_take];rfl)) ?_;(with_reducible refine (laws_eqTerm.calls k a0_0 a0_1 a0_2 _ _ l0_3 a1_0 a1_1 a1_2 _ _ l1_3 false _ ?side1 ?side2 ?side3 ?side4 A3.out).mono ?_);(case side1 => repeat (first|exact (Kd.C_below HR0_3.out HB.out)|(with_reducible refine Kd.C_alloc ?_ _)|(with_reducible refine Kd.C_drewN ?_ _)|(with_reducible refine Kd.C_drew ?_)));(case side2 => exact HC0_3.out);(case side3 => repeat (first|exact (Kd.C_below HR1_3.out HB.out)|(with_reducible refine Kd.C_alloc ?_ _)|(with_reducible refine Kd.C_drewN ?_ _)|(with_reducible refine Kd.C_drew ?_)));(case side4 => exact HC1_3.out);rintro e w44 ⟨rfl,hb⟩;refine ⟨_,rfl,?_⟩;have n0_:=Aside0.mk (blk_below (g:=gb125) (o:=.cells #[.int .i64 a0_0,.string a0_1,.int .i64 a0_2,.slice A0_3 l0_3.length c0_3,.int .i64 a0_4,.string a0_5,.int .i64 a0_6,.slice A0_7 l0_7.length c0_7,.string a0_8] 48 (0,0)) (by (with_reducible repeat (first|refine blk_drewN ?_ _|refine blk_drew ?_|refine blk_alloc ?_ _));exact BK125.out) hb);have n1_:=Aside0.mk (blk_below (g:=gb126) (o:=.cells #[.int .i64 a1_0,.string a1_1,.int .i64 a1_2,.slice A1_3 l1_3.length c1_3,.int .i64 a1_4,.string a1_5,.int .i64 a1_6,.slice A1_7 l1_7.length c1_7,.string a1_8] 48 (0,0)) (by (with_reducible repeat (first|refine blk_drewN ?_ _|refine blk_drew ?_|refine blk_alloc ?_ _));exact BK126.out) hb);have n2_:=Aside0.mk (below_step (by repeat (first|(with_reducible first|exact HB.out|apply below_alloc|apply pw_below_drewN|apply below_drew1|refine below_set ?_ GE125.out|refine below_set ?_ GE126.out)|exact HB.out)) hb);clear BK125;clear BK126;clear HB;have BK125:=n0_;have BK126:=n1_;have HB:=n2_;clear n0_ n1_ n2_;(try clear hb)))
  go_ret
  exact ⟨by first|rfl|(simp [errW_none,errW_some] <;> rfl)|(simp [*,errW_none,errW_some] <;> rfl),by repeat (first|(with_reducible first|exact HB.out|apply below_alloc|apply pw_below_drewN|apply below_drew1|refine below_set ?_ GE125.out|refine below_set ?_ GE126.out)|exact HB.out)⟩

end Go.Proofs.YtojedbogbodkiaaDoor.KCs
