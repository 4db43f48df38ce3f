/- Contracts of functions of the program and of the reference, each a Lean function and the proof that Go comes to its answer. Written by wip/pp/pp.py out of the kit's print, for this claim; nothing of it is trusted: Lean checks it. -/
import Derived.Test.YtojedbogbodkiaaDoorKKnx0
import Derived.Test.YtojedbogbodkiaaDoorKKnx4
namespace Go.Proofs.YtojedbogbodkiaaDoor.KKn
open Go.RowKit Go.Proofs.YtojedbogbodkiaaDoorW.PrintWords Go.Proofs.YtojedbogbodkiaaDoorW.PrintLast Go.Proofs.YtojedbogbodkiaaDoorW.PrintMore
attribute [local go_sem] max2_int min2_int max_two min_two max_three min_three max_four min_four   -- for this text's walks alone
set_option linter.unusedVariables false
set_option linter.unusedSimpArgs false

set_option linter.unusedSectionVars false
variable [fk_laws_szTerm] [fk_laws_toTerm] [fk_laws_eqTerm] [fk_spec_l34Term] [fk_strconv_Itoa] [fk_impl_Known]
/-! ### laws_eqClauseS: function 30 -/
def laws_eqClauseS.l0 : Nat → List (S48) → List (S48) → Int → Option (Bool)
 | 0,_,_,_ => none
 | k + 1,x0,x1,x5 => if x5 < (x0.length : Int) then (if 0 ≤ x5 then (if x5 < (x1.length : Int) then ((laws_eqClause.f k ((rd_T48 x0 x5).f0.f0) ((rd_T48 x0 x5).f0.f1) ((rd_T48 x0 x5).f0.f2) ((rd_T48 x0 x5).f0.f3) ((rd_T48 x0 x5).f1.f0) ((rd_T48 x0 x5).f1.f1) ((rd_T48 x0 x5).f1.f2) ((rd_T48 x0 x5).f1.f3) ((rd_T48 x0 x5).f2) ((rd_T48 x1 x5).f0.f0) ((rd_T48 x1 x5).f0.f1) ((rd_T48 x1 x5).f0.f2) ((rd_T48 x1 x5).f0.f3) ((rd_T48 x1 x5).f1.f0) ((rd_T48 x1 x5).f1.f1) ((rd_T48 x1 x5).f1.f2) ((rd_T48 x1 x5).f1.f3) ((rd_T48 x1 x5).f2)).bind fun t277 => (if t277 = true then (laws_eqClauseS.l0 k x0 x1 (wrap64 (x5 + 1))) else (some false))) else (none)) else (none)) else (some true)
def laws_eqClauseS.f (k : Nat) (l0 : List (S48)) (l1 : List (S48)) : Option (Bool):=if (l0.length : Int) = (l1.length : Int) then (laws_eqClauseS.l0 k l0 l1 0) else (some false)
theorem laws_eqClauseS.mono_l : ∀ k,(∀ y0 y1 y2,LeO (laws_eqClauseS.l0 k y0 y1 y2) (laws_eqClauseS.l0 (k + 1) y0 y1 y2))
 | 0 => fun _ _ _ r h => by simp [laws_eqClauseS.l0] at h
 | k + 1 => by
  have ih0:=laws_eqClauseS.mono_l k
  ·intro y0 y1 y2
   unfold laws_eqClauseS.l0
   repeat' first
   | (with_reducible exact ih0 _ _ _)
   | (with_reducible exact laws_eqClause.mono _ _ _ _ _ _ _ _ _ _ _ _ _ _ _ _ _ _ _)
   | (with_reducible exact LeO.refl _)
   | (with_reducible exact LeO.none _)
   | (with_reducible refine LeO.ite ?_ ?_)
   | (with_reducible refine LeO.bind ?_ (fun _ => ?_))
   | exact ih0 _ _ _
   | exact laws_eqClause.mono _ _ _ _ _ _ _ _ _ _ _ _ _ _ _ _ _ _ _
   | exact LeO.none _
   | refine LeO.ite ?_ ?_
   | refine LeO.bind ?_ (fun _ => ?_)
theorem laws_eqClauseS.mono : ∀ a0 a1 k,LeO (laws_eqClauseS.f k a0 a1) (laws_eqClauseS.f (k + 1) a0 a1):=by
 intro a0 a1 k
 have ih0:=laws_eqClauseS.mono_l k
 unfold laws_eqClauseS.f
 repeat' first
   | (with_reducible exact ih0 _ _ _)
   | (with_reducible exact laws_eqClause.mono _ _ _ _ _ _ _ _ _ _ _ _ _ _ _ _ _ _ _)
   | (with_reducible exact LeO.refl _)
   | (with_reducible exact LeO.none _)
   | (with_reducible refine LeO.ite ?_ ?_)
   | (with_reducible refine LeO.bind ?_ (fun _ => ?_))
   | exact ih0 _ _ _
   | exact laws_eqClause.mono _ _ _ _ _ _ _ _ _ _ _ _ _ _ _ _ _ _ _
   | exact LeO.none _
   | refine LeO.ite ?_ ?_
   | refine LeO.bind ?_ (fun _ => ?_)
def laws_eqClauseS.T6 : Bool × List (List Nat × List Nat):=(true,[([],[]),([],[]),([0,1],[0,1]),([2],[2]),([],[]),([],[]),([4,5],[4,5]),([6],[6]),([3,7],[3,7]),([8],[8])])
def laws_eqClauseS.B6 : List Nat:=[0,0,3,7,0,0,48,112,255,511]
theorem laws_eqClauseS.tab6 : rtab .any (opsOf Tryd.f30 6) = laws_eqClauseS.T6:=by kernel_rfl
theorem laws_eqClauseS.bits6 : waitsOk laws_eqClauseS.T6.2 laws_eqClauseS.B6 = true:=by kernel_rfl
set_option maxHeartbeats 8000000 in
set_option maxRecDepth 100000 in
theorem laws_eqClauseS.calls (k : Nat) (A0 : Option Addr) (c0 : Nat) (l0 : List (S48)) (A1 : Option Addr) (c1 : Nat) (l1 : List (S48)) (r : Bool) (w : World) (hr0 : Kd.C k48 w A0 l0.length l0) (hc0 : l0.length ≤ c0) (hr1 : Kd.C k48 w A1 l1.length l1) (hc1 : l1.length ≤ c1) (h : laws_eqClauseS.f k l0 l1 = some r) :
  Calls Tryd.prog 30 #[.slice A0 l0.length c0,.slice A1 l1.length c1] w fun e w' => e = .returned (.bool r) ∧ Below w.heap.size w w':=by
 have hu48:=Tryd.underlying48
 have HR0:=Aside0.mk hr0
 have HC0:=Aside0.mk hc0
 clear hr0 hc0
 have HR1:=Aside0.mk hr1
 have HC1:=Aside0.mk hc1
 clear hr1 hc1
 have HB:=Aside0.mk (Below.refl w.heap.size w)
 have H : (if (l0.length : Int) = (l1.length : Int) then (laws_eqClauseS.l0 k l0 l1 0) else (some false)) = some r:=h
 clear h
 by_cases c3 : (l0.length : Int) = (l1.length : Int)
 ·rw [if_pos c3] at H
  have c3b0 : ((l0.length : Int) == (l1.length : Int)) = true:=beq_iff_eq.mpr c3
  have c3b1 : ((l0.length : Int) != (l1.length : Int)) = false:=bne_eq_false_iff_eq.mpr c3
  have c3b2 : (l0.length == l1.length) = true:=by first|simpa using c3|(simp at c3 ⊢;omega)
  clear c3
  have H':=Aside0.mk H
  clear H
  go_enter Tryd.func30,Tryd.ntmps30
  go_wp2
  go_loopg [5] k (fun kq v5 w' => ∃ (x5_1 : Int),v5 = .int .i64 x5_1 ∧ Aside0 (laws_eqClauseS.l0 kq l0 l1 x5_1 = some r) ∧ Aside0 (kq ≤ k) ∧ Aside0 (Below w.heap.size w w'))
  case atStart => exact ⟨(0),(by first|rfl|(simp;done)|(simp [*];done)),H',⟨Nat.le_refl _⟩,⟨by repeat (first|(with_reducible first|exact HB.out|apply below_alloc|apply pw_below_drewN|apply below_drew1)|exact HB.out)⟩⟩
  case round =>
   clear H'
   try clear c1
   try clear c3
   try clear c3b0
   try clear c3b1
   try clear c3b2
   obtain ⟨x5_1,rfl,HA,HK1,HB⟩:=hrel
   cases gk with
   | zero => exact absurd HA.out (by simp [laws_eqClauseS.l0])
   | succ k1 =>
    have H:=HA.out
    clear HA
    simp only [laws_eqClauseS.l0] at H
    by_cases c4 : x5_1 < (l0.length : Int)
    ·rw [if_pos c4] at H
     have c4b0 : decide (x5_1 < (l0.length : Int)) = true:=decide_eq_true c4
     clear c4
     by_cases c5 : 0 ≤ x5_1
     rotate_left
     ·rw [if_neg c5] at H
      exact absurd H (by simp)
     rw [if_pos c5] at H
     have c5b0 : decide (0 ≤ x5_1) = true:=decide_eq_true c5
     clear c5
     by_cases c6 : x5_1 < (l1.length : Int)
     rotate_left
     ·rw [if_neg c6] at H
      exact absurd H (by simp)
     rw [if_pos c6] at H
     have c6b0 : decide (x5_1 < (l1.length : Int)) = true:=decide_eq_true c6
     clear c6
     replace H:=Option.bind_eq_some_iff.mp H
     obtain ⟨t277,A70,H⟩:=H
     replace H : (if t277 = true then (laws_eqClauseS.l0 k1 l0 l1 (wrap64 (x5_1 + 1))) else (some false)) = some r:=H
     have A7:=Aside0.mk A70
     clear A70
     by_cases c8 : t277 = true
     ·subst c8
      have H1 : (laws_eqClauseS.l0 k1 l0 l1 (wrap64 (x5_1 + 1))) = some r:=by rw [if_pos rfl] at H;exact H
      clear H
      have H:=H1
      clear H1
      have H':=Aside0.mk H
      clear H
      try go_wp2
      have n0_:=Aside0.mk (below_drew1 HB.out)
      clear HB
      have HB:=n0_
      clear n0_
      have p275 : 0 ≤ (x5_1 : Int):=of_decide_eq_true (by first|(with_reducible assumption)|assumption)
      have q275 : x5_1 < (l0.length : Int):=of_decide_eq_true (by first|(with_reducible assumption)|assumption)
      obtain ⟨ad275,A275_3,c275_3,A275_7,c275_7,e275,hx275_0,hx275_1,hx275_2,hx275_3,hx275_4,hx275_5,hx275_6,hx275_7,hx275_8,hl275_3,hi275_3,hl275_7,hi275_7⟩:=at_T48 HR0.out x5_1 p275 q275
      have hw275_8:=hx275_8
      have hw275_7:=hx275_7
      have hw275_6:=hx275_6
      have hw275_5:=hx275_5
      have hw275_4:=hx275_4
      have hw275_3:=hx275_3
      have hw275_2:=hx275_2
      have hw275_1:=hx275_1
      have hw275_0:=hx275_0
      cases e275
      replace hx275_0:=(HB.out.cell (World.block_lt_of_cell? w _ hx275_0)).trans hx275_0
      replace hx275_1:=(HB.out.cell (World.block_lt_of_cell? w _ hx275_1)).trans hx275_1
      replace hx275_2:=(HB.out.cell (World.block_lt_of_cell? w _ hx275_2)).trans hx275_2
      replace hx275_3:=(HB.out.cell (World.block_lt_of_cell? w _ hx275_3)).trans hx275_3
      replace hx275_4:=(HB.out.cell (World.block_lt_of_cell? w _ hx275_4)).trans hx275_4
      replace hx275_5:=(HB.out.cell (World.block_lt_of_cell? w _ hx275_5)).trans hx275_5
      replace hx275_6:=(HB.out.cell (World.block_lt_of_cell? w _ hx275_6)).trans hx275_6
      replace hx275_7:=(HB.out.cell (World.block_lt_of_cell? w _ hx275_7)).trans hx275_7
      replace hx275_8:=(HB.out.cell (World.block_lt_of_cell? w _ hx275_8)).trans hx275_8
      have HR275_3:=Aside0.mk hi275_3
      have HC275_3:=Aside0.mk hl275_3
      clear hi275_3 hl275_3
      have HR275_7:=Aside0.mk hi275_7
      have HC275_7:=Aside0.mk hl275_7
      clear hi275_7 hl275_7
      replace p275:=eq_true p275
      replace q275:=eq_true q275
      have p276 : 0 ≤ (x5_1 : Int):=of_decide_eq_true (by first|(with_reducible assumption)|assumption)
      have q276 : x5_1 < (l1.length : Int):=of_decide_eq_true (by first|(with_reducible assumption)|assumption)
      obtain ⟨ad276,A276_3,c276_3,A276_7,c276_7,e276,hx276_0,hx276_1,hx276_2,hx276_3,hx276_4,hx276_5,hx276_6,hx276_7,hx276_8,hl276_3,hi276_3,hl276_7,hi276_7⟩:=at_T48 HR1.out x5_1 p276 q276
      have hw276_8:=hx276_8
      have hw276_7:=hx276_7
      have hw276_6:=hx276_6
      have hw276_5:=hx276_5
      have hw276_4:=hx276_4
      have hw276_3:=hx276_3
      have hw276_2:=hx276_2
      have hw276_1:=hx276_1
      have hw276_0:=hx276_0
      cases e276
      replace hx276_0:=(HB.out.cell (World.block_lt_of_cell? w _ hx276_0)).trans hx276_0
      replace hx276_1:=(HB.out.cell (World.block_lt_of_cell? w _ hx276_1)).trans hx276_1
      replace hx276_2:=(HB.out.cell (World.block_lt_of_cell? w _ hx276_2)).trans hx276_2
      replace hx276_3:=(HB.out.cell (World.block_lt_of_cell? w _ hx276_3)).trans hx276_3
      replace hx276_4:=(HB.out.cell (World.block_lt_of_cell? w _ hx276_4)).trans hx276_4
      replace hx276_5:=(HB.out.cell (World.block_lt_of_cell? w _ hx276_5)).trans hx276_5
      replace hx276_6:=(HB.out.cell (World.block_lt_of_cell? w _ hx276_6)).trans hx276_6
      replace hx276_7:=(HB.out.cell (World.block_lt_of_cell? w _ hx276_7)).trans hx276_7
      replace hx276_8:=(HB.out.cell (World.block_lt_of_cell? w _ hx276_8)).trans hx276_8
      have HR276_3:=Aside0.mk hi276_3
      have HC276_3:=Aside0.mk hl276_3
      clear hi276_3 hl276_3
      have HR276_7:=Aside0.mk hi276_7
      have HC276_7:=Aside0.mk hl276_7
      clear hi276_7 hl276_7
      replace p276:=eq_true p276
      replace q276:=eq_true q276
      refine start_ (n:=10) (S:=fun w' => w'.cell? (ad275.add ((x5_1).toNat * 9)) = some (.int .i64 ((rd_T48 l0 x5_1).f0.f0)) ∧ w'.cell? ⟨(ad275.add ((x5_1).toNat * 9)).block,(ad275.add ((x5_1).toNat * 9)).off + 1,none⟩ = some (.string ((rd_T48 l0 x5_1).f0.f1)) ∧ w'.cell? ⟨(ad275.add ((x5_1).toNat * 9)).block,(ad275.add ((x5_1).toNat * 9)).off + 2,none⟩ = some (.int .i64 ((rd_T48 l0 x5_1).f0.f2)) ∧ w'.cell? ⟨(ad275.add ((x5_1).toNat * 9)).block,(ad275.add ((x5_1).toNat * 9)).off + 3,none⟩ = some (.slice A275_3 ((rd_T48 l0 x5_1).f0.f3).length c275_3) ∧ w'.cell? ⟨(ad275.add ((x5_1).toNat * 9)).block,(ad275.add ((x5_1).toNat * 9)).off + 4,none⟩ = some (.int .i64 ((rd_T48 l0 x5_1).f1.f0)) ∧ w'.cell? ⟨(ad275.add ((x5_1).toNat * 9)).block,(ad275.add ((x5_1).toNat * 9)).off + 5,none⟩ = some (.string ((rd_T48 l0 x5_1).f1.f1)) ∧ w'.cell? ⟨(ad275.add ((x5_1).toNat * 9)).block,(ad275.add ((x5_1).toNat * 9)).off + 6,none⟩ = some (.int .i64 ((rd_T48 l0 x5_1).f1.f2)) ∧ w'.cell? ⟨(ad275.add ((x5_1).toNat * 9)).block,(ad275.add ((x5_1).toNat * 9)).off + 7,none⟩ = some (.slice A275_7 ((rd_T48 l0 x5_1).f1.f3).length c275_7) ∧ w'.cell? ⟨(ad275.add ((x5_1).toNat * 9)).block,(ad275.add ((x5_1).toNat * 9)).off + 8,none⟩ = some (.string ((rd_T48 l0 x5_1).f2)) ∧ w'.cell? (ad276.add ((x5_1).toNat * 9)) = some (.int .i64 ((rd_T48 l1 x5_1).f0.f0)) ∧ w'.cell? ⟨(ad276.add ((x5_1).toNat * 9)).block,(ad276.add ((x5_1).toNat * 9)).off + 1,none⟩ = some (.string ((rd_T48 l1 x5_1).f0.f1)) ∧ w'.cell? ⟨(ad276.add ((x5_1).toNat * 9)).block,(ad276.add ((x5_1).toNat * 9)).off + 2,none⟩ = some (.int .i64 ((rd_T48 l1 x5_1).f0.f2)) ∧ w'.cell? ⟨(ad276.add ((x5_1).toNat * 9)).block,(ad276.add ((x5_1).toNat * 9)).off + 3,none⟩ = some (.slice A276_3 ((rd_T48 l1 x5_1).f0.f3).length c276_3) ∧ w'.cell? ⟨(ad276.add ((x5_1).toNat * 9)).block,(ad276.add ((x5_1).toNat * 9)).off + 4,none⟩ = some (.int .i64 ((rd_T48 l1 x5_1).f1.f0)) ∧ w'.cell? ⟨(ad276.add ((x5_1).toNat * 9)).block,(ad276.add ((x5_1).toNat * 9)).off + 5,none⟩ = some (.string ((rd_T48 l1 x5_1).f1.f1)) ∧ w'.cell? ⟨(ad276.add ((x5_1).toNat * 9)).block,(ad276.add ((x5_1).toNat * 9)).off + 6,none⟩ = some (.int .i64 ((rd_T48 l1 x5_1).f1.f2)) ∧ w'.cell? ⟨(ad276.add ((x5_1).toNat * 9)).block,(ad276.add ((x5_1).toNat * 9)).off + 7,none⟩ = some (.slice A276_7 ((rd_T48 l1 x5_1).f1.f3).length c276_7) ∧ w'.cell? ⟨(ad276.add ((x5_1).toNat * 9)).block,(ad276.add ((x5_1).toNat * 9)).off + 8,none⟩ = some (.string ((rd_T48 l1 x5_1).f2))) (ds:=[]) #[false,false,false,false,false,false,false,false,false,false] (by kernel_rfl) rfl rfl ⟨((HB.out.cell (World.block_lt_of_cell? w _ hw275_0)).trans hw275_0),((HB.out.cell (World.block_lt_of_cell? w _ hw275_1)).trans hw275_1),((HB.out.cell (World.block_lt_of_cell? w _ hw275_2)).trans hw275_2),((HB.out.cell (World.block_lt_of_cell? w _ hw275_3)).trans hw275_3),((HB.out.cell (World.block_lt_of_cell? w _ hw275_4)).trans hw275_4),((HB.out.cell (World.block_lt_of_cell? w _ hw275_5)).trans hw275_5),((HB.out.cell (World.block_lt_of_cell? w _ hw275_6)).trans hw275_6),((HB.out.cell (World.block_lt_of_cell? w _ hw275_7)).trans hw275_7),((HB.out.cell (World.block_lt_of_cell? w _ hw275_8)).trans hw275_8),((HB.out.cell (World.block_lt_of_cell? w _ hw276_0)).trans hw276_0),((HB.out.cell (World.block_lt_of_cell? w _ hw276_1)).trans hw276_1),((HB.out.cell (World.block_lt_of_cell? w _ hw276_2)).trans hw276_2),((HB.out.cell (World.block_lt_of_cell? w _ hw276_3)).trans hw276_3),((HB.out.cell (World.block_lt_of_cell? w _ hw276_4)).trans hw276_4),((HB.out.cell (World.block_lt_of_cell? w _ hw276_5)).trans hw276_5),((HB.out.cell (World.block_lt_of_cell? w _ hw276_6)).trans hw276_6),((HB.out.cell (World.block_lt_of_cell? w _ hw276_7)).trans hw276_7),((HB.out.cell (World.block_lt_of_cell? w _ hw276_8)).trans hw276_8)⟩ (fun hHeld => ?_);refine with_tabW laws_eqClauseS.tab6 laws_eqClauseS.bits6 (fun HT_ HW_ => ?_)
      generalize wr.drew = w9 at HB HR275_3 HR275_7 HR276_3 HR276_7 hx275_0 hx275_1 hx275_2 hx275_3 hx275_4 hx275_5 hx275_6 hx275_7 hx275_8 hx276_0 hx276_1 hx276_2 hx276_3 hx276_4 hx276_5 hx276_6 hx276_7 hx276_8 hHeld ⊢
      refine pure_ (i:=0) (N:=some 17) (v:=?_) (a':=?_) #[true,false,false,false,false,false,false,false,false,false] rfl rfl (any_of HT_.out (by kernel_rfl)) (fun _ _ _ h => h) (Or.inl ⟨by rfl,?_⟩) ?_ ?_
      rotate_left
      ·intro w'
       go_simp
       with_reducible rfl
      rotate_left
      ·simp only [Act.put,List.setIfInBounds_toArray,List.set_cons_zero,List.set_cons_succ,i64_w,i32_w]
       rfl
      refine pure_ (i:=1) (N:=some 18) (v:=?_) (a':=?_) #[true,true,false,false,false,false,false,false,false,false] rfl rfl (any_of HT_.out (by kernel_rfl)) (fun _ _ _ h => h) (Or.inl ⟨by rfl,?_⟩) ?_ ?_
      rotate_left
      ·intro w'
       go_simp
       with_reducible rfl
      rotate_left
      ·simp only [Act.put,List.setIfInBounds_toArray,List.set_cons_zero,List.set_cons_succ,i64_w,i32_w]
       rfl
      refine pure_ (i:=2) (N:=some 19) (v:=?_) (a':=?_) #[true,true,true,false,false,false,false,false,false,false] rfl rfl (any_of HT_.out (by kernel_rfl)) (fun _ _ _ h => h) (Or.inl ⟨by rfl,?_⟩) ?_ ?_
      rotate_left
      ·intro w'
       go_simp
       with_reducible rfl
      rotate_left
      ·simp only [Act.put,List.setIfInBounds_toArray,List.set_cons_zero,List.set_cons_succ,i64_w,i32_w]
       rfl
      refine pure_ (i:=4) (N:=some 21) (v:=?_) (a':=?_) #[true,true,true,false,true,false,false,false,false,false] rfl rfl (any_of HT_.out (by kernel_rfl)) (fun _ _ _ h => h) (Or.inl ⟨by rfl,?_⟩) ?_ ?_
      rotate_left
      ·intro w'
       go_simp
       with_reducible rfl
      rotate_left
      ·simp only [Act.put,List.setIfInBounds_toArray,List.set_cons_zero,List.set_cons_succ,i64_w,i32_w]
       rfl
      refine pure_ (i:=5) (N:=some 22) (v:=?_) (a':=?_) #[true,true,true,false,true,true,false,false,false,false] rfl rfl (any_of HT_.out (by kernel_rfl)) (fun _ _ _ h => h) (Or.inl ⟨by rfl,?_⟩) ?_ ?_
      rotate_left
      ·intro w'
       go_simp
       with_reducible rfl
      rotate_left
      ·simp only [Act.put,List.setIfInBounds_toArray,List.set_cons_zero,List.set_cons_succ,i64_w,i32_w]
       rfl
      refine pure_ (i:=6) (N:=some 23) (v:=?_) (a':=?_) #[true,true,true,false,true,true,true,false,false,false] rfl rfl (any_of HT_.out (by kernel_rfl)) (fun _ _ _ h => h) (Or.inl ⟨by rfl,?_⟩) ?_ ?_
      rotate_left
      ·intro w'
       go_simp
       with_reducible rfl
      rotate_left
      ·simp only [Act.put,List.setIfInBounds_toArray,List.set_cons_zero,List.set_cons_succ,i64_w,i32_w]
       rfl
      refine take_ (i:=3) (N:=some 20) (v:=?_) (a':=?_) #[true,true,true,true,true,true,true,false,false,false] rfl rfl (take_ofW HT_.out HW_.out (by kernel_rfl)) (fun _ _ _ h => h) (Or.inl ⟨by rfl,?_⟩) hHeld ?_ ?_
      rotate_left
      ·rintro w' ⟨s0,s1,s2,s3,s4,s5,s6,s7,s8,s9,s10,s11,s12,s13,s14,s15,s16,s17⟩
       go_simp
       with_reducible rfl
      rotate_left
      ·simp only [Act.put,List.setIfInBounds_toArray,List.set_cons_zero,List.set_cons_succ,i64_w,i32_w]
       rfl
      refine take_ (i:=7) (N:=some 24) (v:=?_) (a':=?_) #[true,true,true,true,true,true,true,true,false,false] rfl rfl (take_ofW HT_.out HW_.out (by kernel_rfl)) (fun _ _ _ h => h) (Or.inl ⟨by rfl,?_⟩) hHeld ?_ ?_
      rotate_left
      ·rintro w' ⟨s0,s1,s2,s3,s4,s5,s6,s7,s8,s9,s10,s11,s12,s13,s14,s15,s16,s17⟩
       go_simp
       with_reducible rfl
      rotate_left
      ·simp only [Act.put,List.setIfInBounds_toArray,List.set_cons_zero,List.set_cons_succ,i64_w,i32_w]
       rfl
      refine one_ (i:=8) (N:=some 25) #[true,true,true,true,true,true,true,true,true,false] rfl rfl (one_of HT_.out (by kernel_rfl)) (by decide) (fun K hK => ?_)
      refine goes_ Tryd.func24 (by kernel_rfl) rfl #[.agg #[.int .i64 ((rd_T48 l0 x5_1).f0.f0),.string ((rd_T48 l0 x5_1).f0.f1),.int .i64 ((rd_T48 l0 x5_1).f0.f2),.slice A275_3 ((rd_T48 l0 x5_1).f0.f3).length c275_3,.int .i64 ((rd_T48 l0 x5_1).f1.f0),.string ((rd_T48 l0 x5_1).f1.f1),.int .i64 ((rd_T48 l0 x5_1).f1.f2),.slice A275_7 ((rd_T48 l0 x5_1).f1.f3).length c275_7,.string ((rd_T48 l0 x5_1).f2)],.agg #[.int .i64 ((rd_T48 l1 x5_1).f0.f0),.string ((rd_T48 l1 x5_1).f0.f1),.int .i64 ((rd_T48 l1 x5_1).f0.f2),.slice A276_3 ((rd_T48 l1 x5_1).f0.f3).length c276_3,.int .i64 ((rd_T48 l1 x5_1).f1.f0),.string ((rd_T48 l1 x5_1).f1.f1),.int .i64 ((rd_T48 l1 x5_1).f1.f2),.slice A276_7 ((rd_T48 l1 x5_1).f1.f3).length c276_7,.string ((rd_T48 l1 x5_1).f2)]] (by rfl) rfl rfl (by (try simp only [List.map_toArray,List.map_cons,List.map_nil]);first|done|rfl|(simp only [List.length_drop,List.length_take];rfl)) ?_
      with_reducible refine (laws_eqClause.calls k1 ((rd_T48 l0 x5_1).f0.f0) ((rd_T48 l0 x5_1).f0.f1) ((rd_T48 l0 x5_1).f0.f2) _ _ ((rd_T48 l0 x5_1).f0.f3) ((rd_T48 l0 x5_1).f1.f0) ((rd_T48 l0 x5_1).f1.f1) ((rd_T48 l0 x5_1).f1.f2) _ _ ((rd_T48 l0 x5_1).f1.f3) ((rd_T48 l0 x5_1).f2) ((rd_T48 l1 x5_1).f0.f0) ((rd_T48 l1 x5_1).f0.f1) ((rd_T48 l1 x5_1).f0.f2) _ _ ((rd_T48 l1 x5_1).f0.f3) ((rd_T48 l1 x5_1).f1.f0) ((rd_T48 l1 x5_1).f1.f1) ((rd_T48 l1 x5_1).f1.f2) _ _ ((rd_T48 l1 x5_1).f1.f3) ((rd_T48 l1 x5_1).f2) true _ ?side1 ?side2 ?side3 ?side4 ?side5 ?side6 ?side7 ?side8 A7.out).mono ?_
      (case side1 => repeat (first|exact (Kd.C_below HR275_3.out HB.out)|(with_reducible refine Kd.C_alloc ?_ _)|(with_reducible refine Kd.C_drewN ?_ _)|(with_reducible refine Kd.C_drew ?_)))
      (case side2 => exact HC275_3.out)
      (case side3 => repeat (first|exact (Kd.C_below HR275_7.out HB.out)|(with_reducible refine Kd.C_alloc ?_ _)|(with_reducible refine Kd.C_drewN ?_ _)|(with_reducible refine Kd.C_drew ?_)))
      (case side4 => exact HC275_7.out)
      (case side5 => repeat (first|exact (Kd.C_below HR276_3.out HB.out)|(with_reducible refine Kd.C_alloc ?_ _)|(with_reducible refine Kd.C_drewN ?_ _)|(with_reducible refine Kd.C_drew ?_)))
      (case side6 => exact HC276_3.out)
      (case side7 => repeat (first|exact (Kd.C_below HR276_7.out HB.out)|(with_reducible refine Kd.C_alloc ?_ _)|(with_reducible refine Kd.C_drewN ?_ _)|(with_reducible refine Kd.C_drew ?_)))
      (case side8 => exact HC276_7.out)
      rintro e w10 ⟨rfl,hb⟩
      refine ⟨_,rfl,?_⟩
      have n0_:=Aside0.mk (below_step (by repeat (first|(with_reducible first|exact HB.out|apply below_alloc|apply pw_below_drewN|apply below_drew1)|exact HB.out)) hb)
      clear HB
      have HB:=n0_
      clear n0_
      (try clear hb)
      refine hK.out _ _ ⟨((HB.out.cell (World.block_lt_of_cell? w _ hw275_0)).trans hw275_0),((HB.out.cell (World.block_lt_of_cell? w _ hw275_1)).trans hw275_1),((HB.out.cell (World.block_lt_of_cell? w _ hw275_2)).trans hw275_2),((HB.out.cell (World.block_lt_of_cell? w _ hw275_3)).trans hw275_3),((HB.out.cell (World.block_lt_of_cell? w _ hw275_4)).trans hw275_4),((HB.out.cell (World.block_lt_of_cell? w _ hw275_5)).trans hw275_5),((HB.out.cell (World.block_lt_of_cell? w _ hw275_6)).trans hw275_6),((HB.out.cell (World.block_lt_of_cell? w _ hw275_7)).trans hw275_7),((HB.out.cell (World.block_lt_of_cell? w _ hw275_8)).trans hw275_8),((HB.out.cell (World.block_lt_of_cell? w _ hw276_0)).trans hw276_0),((HB.out.cell (World.block_lt_of_cell? w _ hw276_1)).trans hw276_1),((HB.out.cell (World.block_lt_of_cell? w _ hw276_2)).trans hw276_2),((HB.out.cell (World.block_lt_of_cell? w _ hw276_3)).trans hw276_3),((HB.out.cell (World.block_lt_of_cell? w _ hw276_4)).trans hw276_4),((HB.out.cell (World.block_lt_of_cell? w _ hw276_5)).trans hw276_5),((HB.out.cell (World.block_lt_of_cell? w _ hw276_6)).trans hw276_6),((HB.out.cell (World.block_lt_of_cell? w _ hw276_7)).trans hw276_7),((HB.out.cell (World.block_lt_of_cell? w _ hw276_8)).trans hw276_8)⟩ (fun hHeld => ?_)
      clear hK K
      refine norm_ (a':=?_) ?_ ?_
      rotate_left
      ·show Act.put _ (some 25) _ = _
       simp only [Act.put,List.setIfInBounds_toArray,List.set_cons_zero,List.set_cons_succ,i64_w,i32_w]
       rfl
      refine pure_ (i:=9) (N:=some 26) (v:=?_) (a':=?_) #[true,true,true,true,true,true,true,true,true,true] rfl rfl (any_of HT_.out (by kernel_rfl)) (fun _ _ _ h => h) (Or.inl ⟨by rfl,?_⟩) ?_ ?_
      rotate_left
      ·intro w'
       go_simp
       with_reducible rfl
      rotate_left
      ·simp only [Act.put,List.setIfInBounds_toArray,List.set_cons_zero,List.set_cons_succ,i64_w,i32_w]
       rfl
      refine done_ (done_of HT_.out (by kernel_rfl)) ?_
      try go_wp2
      go_roundg k1
      case measure => have:=HK1.out;omega
      case rel => exact ⟨(wrap64 (x5_1 + 1)),(by first|rfl|(simp;done)|(simp [*];done)),H',⟨by have:=HK1.out;omega⟩,⟨by repeat (first|(with_reducible first|exact HB.out|apply below_alloc|apply pw_below_drewN|apply below_drew1)|exact HB.out)⟩⟩
     ·replace c8:=Bool.eq_false_iff.mpr c8
      subst c8
      have H1 : (some false) = some r:=by rw [if_neg (show ¬ (false = true) by decide)] at H;exact H
      clear H
      have H:=H1
      clear H1
      obtain rfl:=Option.some.inj H
      try go_wp2
      have n0_:=Aside0.mk (below_drew1 HB.out)
      clear HB
      have HB:=n0_
      clear n0_
      have p275 : 0 ≤ (x5_1 : Int):=of_decide_eq_true (by first|(with_reducible assumption)|assumption)
      have q275 : x5_1 < (l0.length : Int):=of_decide_eq_true (by first|(with_reducible assumption)|assumption)
      obtain ⟨ad275,A275_3,c275_3,A275_7,c275_7,e275,hx275_0,hx275_1,hx275_2,hx275_3,hx275_4,hx275_5,hx275_6,hx275_7,hx275_8,hl275_3,hi275_3,hl275_7,hi275_7⟩:=at_T48 HR0.out x5_1 p275 q275
      have hw275_8:=hx275_8
      have hw275_7:=hx275_7
      have hw275_6:=hx275_6
      have hw275_5:=hx275_5
      have hw275_4:=hx275_4
      have hw275_3:=hx275_3
      have hw275_2:=hx275_2
      have hw275_1:=hx275_1
      have hw275_0:=hx275_0
      cases e275
      replace hx275_0:=(HB.out.cell (World.block_lt_of_cell? w _ hx275_0)).trans hx275_0
      replace hx275_1:=(HB.out.cell (World.block_lt_of_cell? w _ hx275_1)).trans hx275_1
      replace hx275_2:=(HB.out.cell (World.block_lt_of_cell? w _ hx275_2)).trans hx275_2
      replace hx275_3:=(HB.out.cell (World.block_lt_of_cell? w _ hx275_3)).trans hx275_3
      replace hx275_4:=(HB.out.cell (World.block_lt_of_cell? w _ hx275_4)).trans hx275_4
      replace hx275_5:=(HB.out.cell (World.block_lt_of_cell? w _ hx275_5)).trans hx275_5
      replace hx275_6:=(HB.out.cell (World.block_lt_of_cell? w _ hx275_6)).trans hx275_6
      replace hx275_7:=(HB.out.cell (World.block_lt_of_cell? w _ hx275_7)).trans hx275_7
      replace hx275_8:=(HB.out.cell (World.block_lt_of_cell? w _ hx275_8)).trans hx275_8
      have HR275_3:=Aside0.mk hi275_3
      have HC275_3:=Aside0.mk hl275_3
      clear hi275_3 hl275_3
      have HR275_7:=Aside0.mk hi275_7
      have HC275_7:=Aside0.mk hl275_7
      clear hi275_7 hl275_7
      replace p275:=eq_true p275
      replace q275:=eq_true q275
      have p276 : 0 ≤ (x5_1 : Int):=of_decide_eq_true (by first|(with_reducible assumption)|assumption)
      have q276 : x5_1 < (l1.length : Int):=of_decide_eq_true (by first|(with_reducible assumption)|assumption)
      obtain ⟨ad276,A276_3,c276_3,A276_7,c276_7,e276,hx276_0,hx276_1,hx276_2,hx276_3,hx276_4,hx276_5,hx276_6,hx276_7,hx276_8,hl276_3,hi276_3,hl276_7,hi276_7⟩:=at_T48 HR1.out x5_1 p276 q276
      have hw276_8:=hx276_8
      have hw276_7:=hx276_7
      have hw276_6:=hx276_6
      have hw276_5:=hx276_5
      have hw276_4:=hx276_4
      have hw276_3:=hx276_3
      have hw276_2:=hx276_2
      have hw276_1:=hx276_1
      have hw276_0:=hx276_0
      cases e276
      replace hx276_0:=(HB.out.cell (World.block_lt_of_cell? w _ hx276_0)).trans hx276_0
      replace hx276_1:=(HB.out.cell (World.block_lt_of_cell? w _ hx276_1)).trans hx276_1
      replace hx276_2:=(HB.out.cell (World.block_lt_of_cell? w _ hx276_2)).trans hx276_2
      replace hx276_3:=(HB.out.cell (World.block_lt_of_cell? w _ hx276_3)).trans hx276_3
      replace hx276_4:=(HB.out.cell (World.block_lt_of_cell? w _ hx276_4)).trans hx276_4
      replace hx276_5:=(HB.out.cell (World.block_lt_of_cell? w _ hx276_5)).trans hx276_5
      replace hx276_6:=(HB.out.cell (World.block_lt_of_cell? w _ hx276_6)).trans hx276_6
      replace hx276_7:=(HB.out.cell (World.block_lt_of_cell? w _ hx276_7)).trans hx276_7
      replace hx276_8:=(HB.out.cell (World.block_lt_of_cell? w _ hx276_8)).trans hx276_8
      have HR276_3:=Aside0.mk hi276_3
      have HC276_3:=Aside0.mk hl276_3
      clear hi276_3 hl276_3
      have HR276_7:=Aside0.mk hi276_7
      have HC276_7:=Aside0.mk hl276_7
      clear hi276_7 hl276_7
      replace p276:=eq_true p276
      replace q276:=eq_true q276
      refine start_ (n:=10) (S:=fun w' => w'.cell? (ad275.add ((x5_1).toNat * 9)) = some (.int .i64 ((rd_T48 l0 x5_1).f0.f0)) ∧ w'.cell? ⟨(ad275.add ((x5_1).toNat * 9)).block,(ad275.add ((x5_1).toNat * 9)).off + 1,none⟩ = some (.string ((rd_T48 l0 x5_1).f0.f1)) ∧ w'.cell? ⟨(ad275.add ((x5_1).toNat * 9)).block,(ad275.add ((x5_1).toNat * 9)).off + 2,none⟩ = some (.int .i64 ((rd_T48 l0 x5_1).f0.f2)) ∧ w'.cell? ⟨(ad275.add ((x5_1).toNat * 9)).block,(ad275.add ((x5_1).toNat * 9)).off + 3,none⟩ = some (.slice A275_3 ((rd_T48 l0 x5_1).f0.f3).length c275_3) ∧ w'.cell? ⟨(ad275.add ((x5_1).toNat * 9)).block,(ad275.add ((x5_1).toNat * 9)).off + 4,none⟩ = some (.int .i64 ((rd_T48 l0 x5_1).f1.f0)) ∧ w'.cell? ⟨(ad275.add ((x5_1).toNat * 9)).block,(ad275.add ((x5_1).toNat * 9)).off + 5,none⟩ = some (.string ((rd_T48 l0 x5_1).f1.f1)) ∧ w'.cell? ⟨(ad275.add ((x5_1).toNat * 9)).block,(ad275.add ((x5_1).toNat * 9)).off + 6,none⟩ = some (.int .i64 ((rd_T48 l0 x5_1).f1.f2)) ∧ w'.cell? ⟨(ad275.add ((x5_1).toNat * 9)).block,(ad275.add ((x5_1).toNat * 9)).off + 7,none⟩ = some (.slice A275_7 ((rd_T48 l0 x5_1).f1.f3).length c275_7) ∧ w'.cell? ⟨(ad275.add ((x5_1).toNat * 9)).block,(ad275.add ((x5_1).toNat * 9)).off + 8,none⟩ = some (.string ((rd_T48 l0 x5_1).f2)) ∧ w'.cell? (ad276.add ((x5_1).toNat * 9)) = some (.int .i64 ((rd_T48 l1 x5_1).f0.f0)) ∧ w'.cell? ⟨(ad276.add ((x5_1).toNat * 9)).block,(ad276.add ((x5_1).toNat * 9)).off + 1,none⟩ = some (.string ((rd_T48 l1 x5_1).f0.f1)) ∧ w'.cell? ⟨(ad276.add ((x5_1).toNat * 9)).block,(ad276.add ((x5_1).toNat * 9)).off + 2,none⟩ = some (.int .i64 ((rd_T48 l1 x5_1).f0.f2)) ∧ w'.cell? ⟨(ad276.add ((x5_1).toNat * 9)).block,(ad276.add ((x5_1).toNat * 9)).off + 3,none⟩ = some (.slice A276_3 ((rd_T48 l1 x5_1).f0.f3).length c276_3) ∧ w'.cell? ⟨(ad276.add ((x5_1).toNat * 9)).block,(ad276.add ((x5_1).toNat * 9)).off + 4,none⟩ = some (.int .i64 ((rd_T48 l1 x5_1).f1.f0)) ∧ w'.cell? ⟨(ad276.add ((x5_1).toNat * 9)).block,(ad276.add ((x5_1).toNat * 9)).off + 5,none⟩ = some (.string ((rd_T48 l1 x5_1).f1.f1)) ∧ w'.cell? ⟨(ad276.add ((x5_1).toNat * 9)).block,(ad276.add ((x5_1).toNat * 9)).off + 6,none⟩ = some (.int .i64 ((rd_T48 l1 x5_1).f1.f2)) ∧ w'.cell? ⟨(ad276.add ((x5_1).toNat * 9)).block,(ad276.add ((x5_1).toNat * 9)).off + 7,none⟩ = some (.slice A276_7 ((rd_T48 l1 x5_1).f1.f3).length c276_7) ∧ w'.cell? ⟨(ad276.add ((x5_1).toNat * 9)).block,(ad276.add ((x5_1).toNat * 9)).off + 8,none⟩ = some (.string ((rd_T48 l1 x5_1).f2))) (ds:=[]) #[false,false,false,false,false,false,false,false,false,false] (by kernel_rfl) rfl rfl ⟨((HB.out.cell (World.block_lt_of_cell? w _ hw275_0)).trans hw275_0),((HB.out.cell (World.block_lt_of_cell? w _ hw275_1)).trans hw275_1),((HB.out.cell (World.block_lt_of_cell? w _ hw275_2)).trans hw275_2),((HB.out.cell (World.block_lt_of_cell? w _ hw275_3)).trans hw275_3),((HB.out.cell (World.block_lt_of_cell? w _ hw275_4)).trans hw275_4),((HB.out.cell (World.block_lt_of_cell? w _ hw275_5)).trans hw275_5),((HB.out.cell (World.block_lt_of_cell? w _ hw275_6)).trans hw275_6),((HB.out.cell (World.block_lt_of_cell? w _ hw275_7)).trans hw275_7),((HB.out.cell (World.block_lt_of_cell? w _ hw275_8)).trans hw275_8),((HB.out.cell (World.block_lt_of_cell? w _ hw276_0)).trans hw276_0),((HB.out.cell (World.block_lt_of_cell? w _ hw276_1)).trans hw276_1),((HB.out.cell (World.block_lt_of_cell? w _ hw276_2)).trans hw276_2),((HB.out.cell (World.block_lt_of_cell? w _ hw276_3)).trans hw276_3),((HB.out.cell (World.block_lt_of_cell? w _ hw276_4)).trans hw276_4),((HB.out.cell (World.block_lt_of_cell? w _ hw276_5)).trans hw276_5),((HB.out.cell (World.block_lt_of_cell? w _ hw276_6)).trans hw276_6),((HB.out.cell (World.block_lt_of_cell? w _ hw276_7)).trans hw276_7),((HB.out.cell (World.block_lt_of_cell? w _ hw276_8)).trans hw276_8)⟩ (fun hHeld => ?_);refine with_tabW laws_eqClauseS.tab6 laws_eqClauseS.bits6 (fun HT_ HW_ => ?_)
      generalize wr.drew = w11 at HB HR275_3 HR275_7 HR276_3 HR276_7 hx275_0 hx275_1 hx275_2 hx275_3 hx275_4 hx275_5 hx275_6 hx275_7 hx275_8 hx276_0 hx276_1 hx276_2 hx276_3 hx276_4 hx276_5 hx276_6 hx276_7 hx276_8 hHeld ⊢
      refine pure_ (i:=0) (N:=some 17) (v:=?_) (a':=?_) #[true,false,false,false,false,false,false,false,false,false] rfl rfl (any_of HT_.out (by kernel_rfl)) (fun _ _ _ h => h) (Or.inl ⟨by rfl,?_⟩) ?_ ?_
      rotate_left
      ·intro w'
       go_simp
       with_reducible rfl
      rotate_left
      ·simp only [Act.put,List.setIfInBounds_toArray,List.set_cons_zero,List.set_cons_succ,i64_w,i32_w]
       rfl
      refine pure_ (i:=1) (N:=some 18) (v:=?_) (a':=?_) #[true,true,false,false,false,false,false,false,false,false] rfl rfl (any_of HT_.out (by kernel_rfl)) (fun _ _ _ h => h) (Or.inl ⟨by rfl,?_⟩) ?_ ?_
      rotate_left
      ·intro w'
       go_simp
       with_reducible rfl
      rotate_left
      ·simp only [Act.put,List.setIfInBounds_toArray,List.set_cons_zero,List.set_cons_succ,i64_w,i32_w]
       rfl
      refine pure_ (i:=2) (N:=some 19) (v:=?_) (a':=?_) #[true,true,true,false,false,false,false,false,false,false] rfl rfl (any_of HT_.out (by kernel_rfl)) (fun _ _ _ h => h) (Or.inl ⟨by rfl,?_⟩) ?_ ?_
      rotate_left
      ·intro w'
       go_simp
       with_reducible rfl
      rotate_left
      ·simp only [Act.put,List.setIfInBounds_toArray,List.set_cons_zero,List.set_cons_succ,i64_w,i32_w]
       rfl
      refine pure_ (i:=4) (N:=some 21) (v:=?_) (a':=?_) #[true,true,true,false,true,false,false,false,false,false] rfl rfl (any_of HT_.out (by kernel_rfl)) (fun _ _ _ h => h) (Or.inl ⟨by rfl,?_⟩) ?_ ?_
      rotate_left
      ·intro w'
       go_simp
       with_reducible rfl
      rotate_left
      ·simp only [Act.put,List.setIfInBounds_toArray,List.set_cons_zero,List.set_cons_succ,i64_w,i32_w]
       rfl
      refine pure_ (i:=5) (N:=some 22) (v:=?_) (a':=?_) #[true,true,true,false,true,true,false,false,false,false] rfl rfl (any_of HT_.out (by kernel_rfl)) (fun _ _ _ h => h) (Or.inl ⟨by rfl,?_⟩) ?_ ?_
      rotate_left
      ·intro w'
       go_simp
       with_reducible rfl
      rotate_left
      ·simp only [Act.put,List.setIfInBounds_toArray,List.set_cons_zero,List.set_cons_succ,i64_w,i32_w]
       rfl
      refine pure_ (i:=6) (N:=some 23) (v:=?_) (a':=?_) #[true,true,true,false,true,true,true,false,false,false] rfl rfl (any_of HT_.out (by kernel_rfl)) (fun _ _ _ h => h) (Or.inl ⟨by rfl,?_⟩) ?_ ?_
      rotate_left
      ·intro w'
       go_simp
       with_reducible rfl
      rotate_left
      ·simp only [Act.put,List.setIfInBounds_toArray,List.set_cons_zero,List.set_cons_succ,i64_w,i32_w]
       rfl
      refine take_ (i:=3) (N:=some 20) (v:=?_) (a':=?_) #[true,true,true,true,true,true,true,false,false,false] rfl rfl (take_ofW HT_.out HW_.out (by kernel_rfl)) (fun _ _ _ h => h) (Or.inl ⟨by rfl,?_⟩) hHeld ?_ ?_
      rotate_left
      ·rintro w' ⟨s0,s1,s2,s3,s4,s5,s6,s7,s8,s9,s10,s11,s12,s13,s14,s15,s16,s17⟩
       go_simp
       with_reducible rfl
      rotate_left
      ·simp only [Act.put,List.setIfInBounds_toArray,List.set_cons_zero,List.set_cons_succ,i64_w,i32_w]
       rfl
      refine take_ (i:=7) (N:=some 24) (v:=?_) (a':=?_) #[true,true,true,true,true,true,true,true,false,false] rfl rfl (take_ofW HT_.out HW_.out (by kernel_rfl)) (fun _ _ _ h => h) (Or.inl ⟨by rfl,?_⟩) hHeld ?_ ?_
      rotate_left
      ·rintro w' ⟨s0,s1,s2,s3,s4,s5,s6,s7,s8,s9,s10,s11,s12,s13,s14,s15,s16,s17⟩
       go_simp
       with_reducible rfl
      rotate_left
      ·simp only [Act.put,List.setIfInBounds_toArray,List.set_cons_zero,List.set_cons_succ,i64_w,i32_w]
       rfl
      refine one_ (i:=8) (N:=some 25) #[true,true,true,true,true,true,true,true,true,false] rfl rfl (one_of HT_.out (by kernel_rfl)) (by decide) (fun K hK => ?_)
      refine goes_ Tryd.func24 (by kernel_rfl) rfl #[.agg #[.int .i64 ((rd_T48 l0 x5_1).f0.f0),.string ((rd_T48 l0 x5_1).f0.f1),.int .i64 ((rd_T48 l0 x5_1).f0.f2),.slice A275_3 ((rd_T48 l0 x5_1).f0.f3).length c275_3,.int .i64 ((rd_T48 l0 x5_1).f1.f0),.string ((rd_T48 l0 x5_1).f1.f1),.int .i64 ((rd_T48 l0 x5_1).f1.f2),.slice A275_7 ((rd_T48 l0 x5_1).f1.f3).length c275_7,.string ((rd_T48 l0 x5_1).f2)],.agg #[.int .i64 ((rd_T48 l1 x5_1).f0.f0),.string ((rd_T48 l1 x5_1).f0.f1),.int .i64 ((rd_T48 l1 x5_1).f0.f2),.slice A276_3 ((rd_T48 l1 x5_1).f0.f3).length c276_3,.int .i64 ((rd_T48 l1 x5_1).f1.f0),.string ((rd_T48 l1 x5_1).f1.f1),.int .i64 ((rd_T48 l1 x5_1).f1.f2),.slice A276_7 ((rd_T48 l1 x5_1).f1.f3).length c276_7,.string ((rd_T48 l1 x5_1).f2)]] (by rfl) rfl rfl (by (try simp only [List.map_toArray,List.map_cons,List.map_nil]);first|done|rfl|(simp only [List.length_drop,List.length_take];rfl)) ?_
      with_reducible refine (laws_eqClause.calls k1 ((rd_T48 l0 x5_1).f0.f0) ((rd_T48 l0 x5_1).f0.f1) ((rd_T48 l0 x5_1).f0.f2) _ _ ((rd_T48 l0 x5_1).f0.f3) ((rd_T48 l0 x5_1).f1.f0) ((rd_T48 l0 x5_1).f1.f1) ((rd_T48 l0 x5_1).f1.f2) _ _ ((rd_T48 l0 x5_1).f1.f3) ((rd_T48 l0 x5_1).f2) ((rd_T48 l1 x5_1).f0.f0) ((rd_T48 l1 x5_1).f0.f1) ((rd_T48 l1 x5_1).f0.f2) _ _ ((rd_T48 l1 x5_1).f0.f3) ((rd_T48 l1 x5_1).f1.f0) ((rd_T48 l1 x5_1).f1.f1) ((rd_T48 l1 x5_1).f1.f2) _ _ ((rd_T48 l1 x5_1).f1.f3) ((rd_T48 l1 x5_1).f2) false _ ?side1 ?side2 ?side3 ?side4 ?side5 ?side6 ?side7 ?side8 A7.out).mono ?_
      (case side1 => repeat (first|exact (Kd.C_below HR275_3.out HB.out)|(with_reducible refine Kd.C_alloc ?_ _)|(with_reducible refine Kd.C_drewN ?_ _)|(with_reducible refine Kd.C_drew ?_)))
      (case side2 => exact HC275_3.out)
      (case side3 => repeat (first|exact (Kd.C_below HR275_7.out HB.out)|(with_reducible refine Kd.C_alloc ?_ _)|(with_reducible refine Kd.C_drewN ?_ _)|(with_reducible refine Kd.C_drew ?_)))
      (case side4 => exact HC275_7.out)
      (case side5 => repeat (first|exact (Kd.C_below HR276_3.out HB.out)|(with_reducible refine Kd.C_alloc ?_ _)|(with_reducible refine Kd.C_drewN ?_ _)|(with_reducible refine Kd.C_drew ?_)))
      (case side6 => exact HC276_3.out)
      (case side7 => repeat (first|exact (Kd.C_below HR276_7.out HB.out)|(with_reducible refine Kd.C_alloc ?_ _)|(with_reducible refine Kd.C_drewN ?_ _)|(with_reducible refine Kd.C_drew ?_)))
      (case side8 => exact HC276_7.out)
      rintro e w12 ⟨rfl,hb⟩
      refine ⟨_,rfl,?_⟩
      have n0_:=Aside0.mk (below_step (by repeat (first|(with_reducible first|exact HB.out|apply below_alloc|apply pw_below_drewN|apply below_drew1)|exact HB.out)) hb)
      clear HB
      have HB:=n0_
      clear n0_
      (try clear hb)
      refine hK.out _ _ ⟨((HB.out.cell (World.block_lt_of_cell? w _ hw275_0)).trans hw275_0),((HB.out.cell (World.block_lt_of_cell? w _ hw275_1)).trans hw275_1),((HB.out.cell (World.block_lt_of_cell? w _ hw275_2)).trans hw275_2),((HB.out.cell (World.block_lt_of_cell? w _ hw275_3)).trans hw275_3),((HB.out.cell (World.block_lt_of_cell? w _ hw275_4)).trans hw275_4),((HB.out.cell (World.block_lt_of_cell? w _ hw275_5)).trans hw275_5),((HB.out.cell (World.block_lt_of_cell? w _ hw275_6)).trans hw275_6),((HB.out.cell (World.block_lt_of_cell? w _ hw275_7)).trans hw275_7),((HB.out.cell (World.block_lt_of_cell? w _ hw275_8)).trans hw275_8),((HB.out.cell (World.block_lt_of_cell? w _ hw276_0)).trans hw276_0),((HB.out.cell (World.block_lt_of_cell? w _ hw276_1)).trans hw276_1),((HB.out.cell (World.block_lt_of_cell? w _ hw276_2)).trans hw276_2),((HB.out.cell (World.block_lt_of_cell? w _ hw276_3)).trans hw276_3),((HB.out.cell (World.block_lt_of_cell? w _ hw276_4)).trans hw276_4),((HB.out.cell (World.block_lt_of_cell? w _ hw276_5)).trans hw276_5),((HB.out.cell (World.block_lt_of_cell? w _ hw276_6)).trans hw276_6),((HB.out.cell (World.block_lt_of_cell? w _ hw276_7)).trans hw276_7),((HB.out.cell (World.block_lt_of_cell? w _ hw276_8)).trans hw276_8)⟩ (fun hHeld => ?_)
      clear hK K
      refine norm_ (a':=?_) ?_ ?_
      rotate_left
      ·show Act.put _ (some 25) _ = _
       simp only [Act.put,List.setIfInBounds_toArray,List.set_cons_zero,List.set_cons_succ,i64_w,i32_w]
       rfl
      refine pure_ (i:=9) (N:=some 26) (v:=?_) (a':=?_) #[true,true,true,true,true,true,true,true,true,true] rfl rfl (any_of HT_.out (by kernel_rfl)) (fun _ _ _ h => h) (Or.inl ⟨by rfl,?_⟩) ?_ ?_
      rotate_left
      ·intro w'
       go_simp
       with_reducible rfl
      rotate_left
      ·simp only [Act.put,List.setIfInBounds_toArray,List.set_cons_zero,List.set_cons_succ,i64_w,i32_w]
       rfl
      refine done_ (done_of HT_.out (by kernel_rfl)) ?_
      try go_wp2
      go_ret
      exact ⟨by first|rfl|(simp [errW_none,errW_some] <;> rfl)|(simp [*,errW_none,errW_some] <;> rfl),by repeat (first|(with_reducible first|exact HB.out|apply below_alloc|apply pw_below_drewN|apply below_drew1)|exact HB.out)⟩
    ·rw [if_neg c4] at H
     have c4b0 : decide (x5_1 < (l0.length : Int)) = false:=decide_eq_false c4
     clear c4
     obtain rfl:=Option.some.inj H
     go_wp2
     go_ret
     exact ⟨by first|rfl|(simp [errW_none,errW_some] <;> rfl)|(simp [*,errW_none,errW_some] <;> rfl),by repeat (first|(with_reducible first|exact HB.out|apply below_alloc|apply pw_below_drewN|apply below_drew1)|exact HB.out)⟩
 ·rw [if_neg c3] at H
  have c3b0 : ((l0.length : Int) == (l1.length : Int)) = false:=beq_eq_false_iff_ne.mpr c3
  have c3b1 : ((l0.length : Int) != (l1.length : Int)) = true:=bne_iff_ne.mpr c3
  have c3b2 : (l0.length == l1.length) = false:=by first|simpa using c3|(simp at c3 ⊢;omega)
  obtain rfl:=Option.some.inj H
  go_enter Tryd.func30,Tryd.ntmps30
  go_wp2
  go_ret
  exact ⟨by first|rfl|(simp [errW_none,errW_some] <;> rfl)|(simp [*,errW_none,errW_some] <;> rfl),by repeat (first|(with_reducible first|exact HB.out|apply below_alloc|apply pw_below_drewN|apply below_drew1)|exact HB.out)⟩

/-! ### laws_eqStringS: function 54 -/
def laws_eqStringS.l0 : Nat → List ByteArray → List ByteArray → Int → Option (Bool)
 | 0,_,_,_ => none
 | k + 1,x0,x1,x5 => if x5 < (x0.length : Int) then (if 0 ≤ x5 then (if x5 < (x1.length : Int) then (if (rdOf ByteArray.empty x0 x5).toList = (rdOf ByteArray.empty x1 x5).toList then (laws_eqStringS.l0 k x0 x1 (wrap64 (x5 + 1))) else (some false)) else (none)) else (none)) else (some true)
def laws_eqStringS.f (k : Nat) (l0 : List ByteArray) (l1 : List ByteArray) : Option (Bool):=if (l0.length : Int) = (l1.length : Int) then (laws_eqStringS.l0 k l0 l1 0) else (some false)
theorem laws_eqStringS.mono_l : ∀ k,(∀ y0 y1 y2,LeO (laws_eqStringS.l0 k y0 y1 y2) (laws_eqStringS.l0 (k + 1) y0 y1 y2))
 | 0 => fun _ _ _ r h => by simp [laws_eqStringS.l0] at h
 | k + 1 => by
  have ih0:=laws_eqStringS.mono_l k
  ·intro y0 y1 y2
   unfold laws_eqStringS.l0
   repeat' first
   | (with_reducible exact ih0 _ _ _)
   | (with_reducible exact LeO.refl _)
   | (with_reducible exact LeO.none _)
   | (with_reducible refine LeO.ite ?_ ?_)
   | (with_reducible refine LeO.bind ?_ (fun _ => ?_))
   | exact ih0 _ _ _
   | exact LeO.none _
   | refine LeO.ite ?_ ?_
   | refine LeO.bind ?_ (fun _ => ?_)
theorem laws_eqStringS.mono : ∀ a0 a1 k,LeO (laws_eqStringS.f k a0 a1) (laws_eqStringS.f (k + 1) a0 a1):=by
 intro a0 a1 k
 have ih0:=laws_eqStringS.mono_l k
 unfold laws_eqStringS.f
 repeat' first
   | (with_reducible exact ih0 _ _ _)
   | (with_reducible exact LeO.refl _)
   | (with_reducible exact LeO.none _)
   | (with_reducible refine LeO.ite ?_ ?_)
   | (with_reducible refine LeO.bind ?_ (fun _ => ?_))
   | exact ih0 _ _ _
   | exact LeO.none _
   | refine LeO.ite ?_ ?_
   | refine LeO.bind ?_ (fun _ => ?_)
set_option maxHeartbeats 8000000 in
set_option maxRecDepth 100000 in
theorem laws_eqStringS.calls (k : Nat) (A0 : Option Addr) (c0 : Nat) (l0 : List ByteArray) (A1 : Option Addr) (c1 : Nat) (l1 : List ByteArray) (r : Bool) (w : World) (hr0 : Kd.C Kd.string w A0 l0.length l0) (hc0 : l0.length ≤ c0) (hr1 : Kd.C Kd.string w A1 l1.length l1) (hc1 : l1.length ≤ c1) (h : laws_eqStringS.f k l0 l1 = some r) :
  Calls Tryd.prog 54 #[.slice A0 l0.length c0,.slice A1 l1.length c1] w fun e w' => e = .returned (.bool r) ∧ Drawn0 w w':=by
 have HR0:=Aside0.mk hr0
 have HC0:=Aside0.mk hc0
 clear hr0 hc0
 have HR1:=Aside0.mk hr1
 have HC1:=Aside0.mk hc1
 clear hr1 hc1
 have H : (if (l0.length : Int) = (l1.length : Int) then (laws_eqStringS.l0 k l0 l1 0) else (some false)) = some r:=h
 clear h
 by_cases c3 : (l0.length : Int) = (l1.length : Int)
 ·rw [if_pos c3] at H
  have c3b0 : ((l0.length : Int) == (l1.length : Int)) = true:=beq_iff_eq.mpr c3
  have c3b1 : ((l0.length : Int) != (l1.length : Int)) = false:=bne_eq_false_iff_eq.mpr c3
  have c3b2 : (l0.length == l1.length) = true:=by first|simpa using c3|(simp at c3 ⊢;omega)
  clear c3
  have H':=Aside0.mk H
  clear H
  go_enter Tryd.func54,Tryd.ntmps54
  go_wp2
  repeat (go_quiet (fail);try go_wp2)
  go_loopg [5] k (fun kq v5 w' => ∃ (x5_1 : Int),v5 = .int .i64 x5_1 ∧ Aside0 (laws_eqStringS.l0 kq l0 l1 x5_1 = some r) ∧ Aside0 (kq ≤ k) ∧ Drawn0 w w')
  case atStart => exact ⟨(0),(by first|rfl|(simp;done)|(simp [*];done)),H',⟨Nat.le_refl _⟩,by repeat (first|exact Drawn0.refl _|apply Drawn0.step)⟩
  case round =>
   clear H'
   try clear c1
   try clear c3
   try clear c3b0
   try clear c3b1
   try clear c3b2
   obtain ⟨x5_1,rfl,HA,HK1,⟨m1,rfl⟩⟩:=hrel
   cases gk with
   | zero => exact absurd HA.out (by simp [laws_eqStringS.l0])
   | succ k1 =>
    have H:=HA.out
    clear HA
    simp only [laws_eqStringS.l0] at H
    by_cases c4 : x5_1 < (l0.length : Int)
    ·rw [if_pos c4] at H
     have c4b0 : decide (x5_1 < (l0.length : Int)) = true:=decide_eq_true c4
     clear c4
     by_cases c5 : 0 ≤ x5_1
     rotate_left
     ·rw [if_neg c5] at H
      exact absurd H (by simp)
     rw [if_pos c5] at H
     have c5b0 : decide (0 ≤ x5_1) = true:=decide_eq_true c5
     clear c5
     by_cases c6 : x5_1 < (l1.length : Int)
     rotate_left
     ·rw [if_neg c6] at H
      exact absurd H (by simp)
     rw [if_pos c6] at H
     have c6b0 : decide (x5_1 < (l1.length : Int)) = true:=decide_eq_true c6
     clear c6
     by_cases c7 : (rdOf ByteArray.empty l0 x5_1).toList = (rdOf ByteArray.empty l1 x5_1).toList
     ·rw [if_pos c7] at H
      have c7b0 : ((rdOf ByteArray.empty l0 x5_1).toList == (rdOf ByteArray.empty l1 x5_1).toList) = true:=beq_iff_eq.mpr c7
      have c7b1 : ((rdOf ByteArray.empty l0 x5_1).toList != (rdOf ByteArray.empty l1 x5_1).toList) = false:=bne_eq_false_iff_eq.mpr c7
      clear c7
      have H':=Aside0.mk H
      clear H
      have p278 : 0 ≤ (x5_1 : Int):=of_decide_eq_true (by first|(with_reducible assumption)|assumption)
      have q278 : x5_1 < (l0.length : Int):=of_decide_eq_true (by first|(with_reducible assumption)|assumption)
      obtain ⟨ad278,e278,hx278_0⟩:=Kd.at_string HR0.out x5_1 p278 q278
      cases e278
      replace p278:=eq_true p278
      replace q278:=eq_true q278
      have p279 : 0 ≤ (x5_1 : Int):=of_decide_eq_true (by first|(with_reducible assumption)|assumption)
      have q279 : x5_1 < (l1.length : Int):=of_decide_eq_true (by first|(with_reducible assumption)|assumption)
      obtain ⟨ad279,e279,hx279_0⟩:=Kd.at_string HR1.out x5_1 p279 q279
      cases e279
      replace p279:=eq_true p279
      replace q279:=eq_true q279
      go_wp2
      repeat (go_quiet (fail);try go_wp2)
      go_roundg k1
      case measure => have:=HK1.out;omega
      case rel => exact ⟨(wrap64 (x5_1 + 1)),(by first|rfl|(simp;done)|(simp [*];done)),H',⟨by have:=HK1.out;omega⟩,by repeat (first|exact Drawn0.refl _|apply Drawn0.step)⟩
     ·rw [if_neg c7] at H
      have c7b0 : ((rdOf ByteArray.empty l0 x5_1).toList == (rdOf ByteArray.empty l1 x5_1).toList) = false:=beq_eq_false_iff_ne.mpr c7
      have c7b1 : ((rdOf ByteArray.empty l0 x5_1).toList != (rdOf ByteArray.empty l1 x5_1).toList) = true:=bne_iff_ne.mpr c7
      obtain rfl:=Option.some.inj H
      have p278 : 0 ≤ (x5_1 : Int):=of_decide_eq_true (by first|(with_reducible assumption)|assumption)
      have q278 : x5_1 < (l0.length : Int):=of_decide_eq_true (by first|(with_reducible assumption)|assumption)
      obtain ⟨ad278,e278,hx278_0⟩:=Kd.at_string HR0.out x5_1 p278 q278
      cases e278
      replace p278:=eq_true p278
      replace q278:=eq_true q278
      have p279 : 0 ≤ (x5_1 : Int):=of_decide_eq_true (by first|(with_reducible assumption)|assumption)
      have q279 : x5_1 < (l1.length : Int):=of_decide_eq_true (by first|(with_reducible assumption)|assumption)
      obtain ⟨ad279,e279,hx279_0⟩:=Kd.at_string HR1.out x5_1 p279 q279
      cases e279
      replace p279:=eq_true p279
      replace q279:=eq_true q279
      go_wp2
      repeat (go_quiet (fail);try go_wp2)
      go_ret
      exact ⟨by first|rfl|(simp;done)|(simp [*];done),by repeat (first|exact Drawn0.refl _|apply Drawn0.step)⟩
    ·rw [if_neg c4] at H
     have c4b0 : decide (x5_1 < (l0.length : Int)) = false:=decide_eq_false c4
     clear c4
     obtain rfl:=Option.some.inj H
     go_wp2
     repeat (go_quiet (fail);try go_wp2)
     go_ret
     exact ⟨by first|rfl|(simp;done)|(simp [*];done),by repeat (first|exact Drawn0.refl _|apply Drawn0.step)⟩
 ·rw [if_neg c3] at H
  have c3b0 : ((l0.length : Int) == (l1.length : Int)) = false:=beq_eq_false_iff_ne.mpr c3
  have c3b1 : ((l0.length : Int) != (l1.length : Int)) = true:=bne_iff_ne.mpr c3
  have c3b2 : (l0.length == l1.length) = false:=by first|simpa using c3|(simp at c3 ⊢;omega)
  obtain rfl:=Option.some.inj H
  go_enter Tryd.func54,Tryd.ntmps54
  go_wp2
  repeat (go_quiet (fail);try go_wp2)
  go_ret
  exact ⟨by first|rfl|(simp;done)|(simp [*];done),by repeat (first|exact Drawn0.refl _|apply Drawn0.step)⟩

/-! ### laws_eqDb: function 19 -/
def laws_eqDb.f (k : Nat) (l0_0 : List (S48)) (l0_1 : List ByteArray) (l1_0 : List (S48)) (l1_1 : List ByteArray) : Option (Bool):=(laws_eqClauseS.f k l0_0 l1_0).bind fun t282 => (if t282 = true then ((laws_eqStringS.f k l0_1 l1_1).bind fun t283 => (if t283 = true then (some true) else (some false))) else (some false))
theorem laws_eqDb.mono : ∀ a0 a1 a2 a3 k,LeO (laws_eqDb.f k a0 a1 a2 a3) (laws_eqDb.f (k + 1) a0 a1 a2 a3):=by
 intro a0 a1 a2 a3 k
 unfold laws_eqDb.f
 repeat' first
   | (with_reducible exact laws_eqClauseS.mono _ _ _)
   | (with_reducible exact laws_eqStringS.mono _ _ _)
   | (with_reducible exact LeO.refl _)
   | (with_reducible exact LeO.none _)
   | (with_reducible refine LeO.ite ?_ ?_)
   | (with_reducible refine LeO.bind ?_ (fun _ => ?_))
   | exact laws_eqClauseS.mono _ _ _
   | exact laws_eqStringS.mono _ _ _
   | exact LeO.none _
   | refine LeO.ite ?_ ?_
   | refine LeO.bind ?_ (fun _ => ?_)
set_option maxHeartbeats 8000000 in
set_option maxRecDepth 100000 in
theorem laws_eqDb.calls (k : Nat) (A0_0 : Option Addr) (c0_0 : Nat) (l0_0 : List (S48)) (A0_1 : Option Addr) (c0_1 : Nat) (l0_1 : List ByteArray) (A1_0 : Option Addr) (c1_0 : Nat) (l1_0 : List (S48)) (A1_1 : Option Addr) (c1_1 : Nat) (l1_1 : List ByteArray) (r : Bool) (w : World) (hr0_0 : Kd.C k48 w A0_0 l0_0.length l0_0) (hc0_0 : l0_0.length ≤ c0_0) (hr0_1 : Kd.C Kd.string w A0_1 l0_1.length l0_1) (hc0_1 : l0_1.length ≤ c0_1) (hr1_0 : Kd.C k48 w A1_0 l1_0.length l1_0) (hc1_0 : l1_0.length ≤ c1_0) (hr1_1 : Kd.C Kd.string w A1_1 l1_1.length l1_1) (hc1_1 : l1_1.length ≤ c1_1) (h : laws_eqDb.f k l0_0 l0_1 l1_0 l1_1 = some r) :
  Calls Tryd.prog 19 #[.agg #[.slice A0_0 l0_0.length c0_0,.slice A0_1 l0_1.length c0_1],.agg #[.slice A1_0 l1_0.length c1_0,.slice A1_1 l1_1.length c1_1]] w fun e w' => e = .returned (.bool r) ∧ Below w.heap.size w w':=by
 have hu41:=Tryd.underlying41
 have HR0_0:=Aside0.mk hr0_0
 have HC0_0:=Aside0.mk hc0_0
 clear hr0_0 hc0_0
 have HR0_1:=Aside0.mk hr0_1
 have HC0_1:=Aside0.mk hc0_1
 clear hr0_1 hc0_1
 have HR1_0:=Aside0.mk hr1_0
 have HC1_0:=Aside0.mk hc1_0
 clear hr1_0 hc1_0
 have HR1_1:=Aside0.mk hr1_1
 have HC1_1:=Aside0.mk hc1_1
 clear hr1_1 hc1_1
 have HB:=Aside0.mk (Below.refl w.heap.size w)
 have H : ((laws_eqClauseS.f k l0_0 l1_0).bind fun t282 => (if t282 = true then ((laws_eqStringS.f k l0_1 l1_1).bind fun t283 => (if t283 = true then (some true) else (some false))) else (some false))) = some r:=h
 clear h
 replace H:=Option.bind_eq_some_iff.mp H
 obtain ⟨t282,A30,H⟩:=H
 replace H : (if t282 = true then ((laws_eqStringS.f k l0_1 l1_1).bind fun t283 => (if t283 = true then (some true) else (some false))) else (some false)) = some r:=H
 have A3:=Aside0.mk A30
 clear A30
 by_cases c4 : t282 = true
 ·subst c4
  have H1 : ((laws_eqStringS.f k l0_1 l1_1).bind fun t283 => (if t283 = true then (some true) else (some false))) = some r:=by rw [if_pos rfl] at H;exact H
  clear H
  have H:=H1
  clear H1
  replace H:=Option.bind_eq_some_iff.mp H
  obtain ⟨t283,A50,H⟩:=H
  replace H : (if t283 = true then (some true) else (some false)) = some r:=H
  have A5:=Aside0.mk A50
  clear A50
  by_cases c6 : t283 = true
  ·subst c6
   have H1 : (some true) = some r:=by rw [if_pos rfl] at H;exact H
   clear H
   have H:=H1
   clear H1
   obtain rfl:=Option.some.inj H
   go_enter Tryd.func19,Tryd.ntmps19
   go_wp2_with (first|((with_reducible refine gate_dst (N:=2) rfl ?_);refine box_event ?hg (N:=2) ?hd (cs:=#[.slice A0_0 l0_0.length c0_0,.slice A0_1 l0_1.length c0_1]) (t:=41) ?hr ?_;(case hd => rfl);(case hg => rfl);(case hr => first|(go_simp;done)|(go_simp;rfl));intro gb280 hg w7 hbox hb;have n0_:=Aside0.mk (below_step (by repeat (first|(with_reducible first|exact HB.out|apply below_alloc|apply pw_below_drewN|apply below_drew1)|exact HB.out)) hb);have n1_:=Aside0.mk (hbox);have n2_:=Aside0.mk ((by rw [hg];exact (below_size (by repeat (first|(with_reducible first|exact HB.out|apply below_alloc|apply pw_below_drewN|apply below_drew1)|exact HB.out))) : w.heap.size ≤ gb280));have n3_:=Aside0.mk ((by rw [hg];exact (below_size (by repeat (first|(with_reducible first|exact HB.out|apply below_alloc|apply pw_below_drewN|apply below_drew1)|exact HB.out))) : w.heap.size ≤ gb280));clear HB;have HB:=n0_;have BK280:=n1_;have GW280:=n2_;have GE280:=n3_;clear n0_ n1_ n2_ n3_;clear hb hbox hg)|((with_reducible refine gate_dst (N:=3) rfl ?_);refine box_event ?hg (N:=3) ?hd (cs:=#[.slice A1_0 l1_0.length c1_0,.slice A1_1 l1_1.length c1_1]) (t:=41) ?hr ?_;(case hd => rfl);(case hg => rfl);(case hr => first|(go_simp;done)|(go_simp;rfl));intro gb281 hg w8 hbox hb;have n0_:=Aside0.mk (blk_below (g:=gb280) (o:=.cells #[.slice A0_0 l0_0.length c0_0,.slice A0_1 l0_1.length c0_1] 41 (0,0)) (by (with_reducible repeat (first|refine blk_drewN ?_ _|refine blk_drew ?_|refine blk_alloc ?_ _));exact BK280.out) hb);have n1_:=Aside0.mk (below_step (by repeat (first|(with_reducible first|exact HB.out|apply below_alloc|apply pw_below_drewN|apply below_drew1|refine below_set ?_ GE280.out)|exact HB.out)) hb);have n2_:=Aside0.mk (hbox);have n3_:=Aside0.mk ((by rw [hg];exact (below_size (by repeat (first|(with_reducible first|exact HB.out|apply below_alloc|apply pw_below_drewN|apply below_drew1|refine below_set ?_ GE280.out)|exact HB.out))) : w.heap.size ≤ gb281));have n4_:=Aside0.mk ((by rw [hg];exact (below_size (by repeat (first|(with_reducible first|exact HB.out|apply below_alloc|apply pw_below_drewN|apply below_drew1|refine below_set ?_ GE280.out)|exact HB.out))) : w.heap.size ≤ gb281));have n5_:=Aside0.mk ((by rw [hg];exact Nat.ne_of_lt (blk_lt (g:=gb280) (o:=.cells #[.slice A0_0 l0_0.length c0_0,.slice A0_1 l0_1.length c0_1] 41 (0,0)) (by (with_reducible repeat (first|refine blk_drewN ?_ _|refine blk_drew ?_|refine blk_alloc ?_ _));exact BK280.out)) : gb280 ≠ gb281));have n6_:=Aside0.mk ((by rw [hg];exact Nat.ne_of_gt (blk_lt (g:=gb280) (o:=.cells #[.slice A0_0 l0_0.length c0_0,.slice A0_1 l0_1.length c0_1] 41 (0,0)) (by (with_reducible repeat (first|refine blk_drewN ?_ _|refine blk_drew ?_|refine blk_alloc ?_ _));exact BK280.out)) : gb281 ≠ gb280));clear BK280;clear HB;have BK280:=n0_;have HB:=n1_;have BK281:=n2_;have GW281:=n3_;have GE281:=n4_;have NB280_281:=n5_;have NB281_280:=n6_;clear n0_ n1_ n2_ n3_ n4_ n5_ n6_;clear hb hbox hg;have hnb9:=NB280_281.out;have hnc9:=NB281_280.out;have hcz10_0 : w8.cell? ⟨gb280,0,none⟩ = some (.slice A0_0 l0_0.length c0_0):=(blk_cell BK280.out 0).trans rfl;have hcz10_1 : w8.cell? ⟨gb280,1,none⟩ = some (.slice A0_1 l0_1.length c0_1):=(blk_cell BK280.out 1).trans rfl;have hfz10_0:=blk_frozen BK280.out 0;have hfz10_1:=blk_frozen BK280.out 1;have hcz11_0 : w8.cell? ⟨gb281,0,none⟩ = some (.slice A1_0 l1_0.length c1_0):=(blk_cell BK281.out 0).trans rfl;have hcz11_1 : w8.cell? ⟨gb281,1,none⟩ = some (.slice A1_1 l1_1.length c1_1):=(blk_cell BK281.out 1).trans rfl;have hfz11_0:=blk_frozen BK281.out 0;have hfz11_1:=blk_frozen BK281.out 1)|((with_reducible refine gate_callee (f:=30) rfl ?_);refine goesL_ (some 9) rfl rfl Tryd.func30 (by kernel_rfl) rfl #[.slice A0_0 l0_0.length c0_0,.slice A1_0 l1_0.length c1_0] rfl (by (try simp only [List.map_toArray,List.map_cons,List.map_nil]);first|done|rfl|(simp only [List.length_drop,List.length_take];rfl)) ?_;(with_reducible refine (laws_eqClauseS.calls k _ _ l0_0 _ _ l1_0 true _ ?side1 ?side2 ?side3 ?side4 A3.out).mono ?_);(case side1 => repeat (first|exact (Kd.C_below HR0_0.out HB.out)|(with_reducible refine Kd.C_alloc ?_ _)|(with_reducible refine Kd.C_drewN ?_ _)|(with_reducible refine Kd.C_drew ?_)));(case side2 => exact HC0_0.out);(case side3 => repeat (first|exact (Kd.C_below HR1_0.out HB.out)|(with_reducible refine Kd.C_alloc ?_ _)|(with_reducible refine Kd.C_drewN ?_ _)|(with_reducible refine Kd.C_drew ?_)));(case side4 => exact HC1_0.out);rintro e w12 ⟨rfl,hb⟩;refine ⟨_,rfl,?_⟩;have n0_:=Aside0.mk (blk_below (g:=gb280) (o:=.cells #[.slice A0_0 l0_0.length c0_0,.slice A0_1 l0_1.length c0_1] 41 (0,0)) (by (with_reducible repeat (first|refine blk_drewN ?_ _|refine blk_drew ?_|refine blk_alloc ?_ _));exact BK280.out) hb);have n1_:=Aside0.mk (blk_below (g:=gb281) (o:=.cells #[.slice A1_0 l1_0.length c1_0,.slice A1_1 l1_1.length c1_1] 41 (0,0)) (by (with_reducible repeat (first|refine blk_drewN ?_ _|refine blk_drew ?_|refine blk_alloc ?_ _));exact BK281.out) hb);have n2_:=Aside0.mk (below_step (by repeat (first|(with_reducible first|exact HB.out|apply below_alloc|apply pw_below_drewN|apply below_drew1|refine below_set ?_ GE280.out|refine below_set ?_ GE281.out)|exact HB.out)) hb);clear BK280;clear BK281;clear HB;have BK280:=n0_;have BK281:=n1_;have HB:=n2_;clear n0_ n1_ n2_;(try clear hb);(try clear hb2);(try clear hk);(try clear hi);have hcz13_0 : w12.cell? ⟨gb280,0,none⟩ = some (.slice A0_0 l0_0.length c0_0):=(blk_cell BK280.out 0).trans rfl;have hcz13_1 : w12.cell? ⟨gb280,1,none⟩ = some (.slice A0_1 l0_1.length c0_1):=(blk_cell BK280.out 1).trans rfl;have hfz13_0:=blk_frozen BK280.out 0;have hfz13_1:=blk_frozen BK280.out 1;have hcz14_0 : w12.cell? ⟨gb281,0,none⟩ = some (.slice A1_0 l1_0.length c1_0):=(blk_cell BK281.out 0).trans rfl;have hcz14_1 : w12.cell? ⟨gb281,1,none⟩ = some (.slice A1_1 l1_1.length c1_1):=(blk_cell BK281.out 1).trans rfl;have hfz14_0:=blk_frozen BK281.out 0;have hfz14_1:=blk_frozen BK281.out 1)|((with_reducible refine gate_callee (f:=54) rfl ?_);refine goesL_ (some 15) rfl rfl Tryd.func54 (by kernel_rfl) rfl #[.slice A0_1 l0_1.length c0_1,.slice A1_1 l1_1.length c1_1] rfl (by (try simp only [List.map_toArray,List.map_cons,List.map_nil]);first|done|rfl|(simp only [List.length_drop,List.length_take];rfl)) ?_;(with_reducible refine (laws_eqStringS.calls k _ _ l0_1 _ _ l1_1 true _ ?side1 ?side2 ?side3 ?side4 A5.out).mono ?_);(case side1 => repeat (first|exact (Kd.C_below HR0_1.out HB.out)|(with_reducible refine Kd.C_alloc ?_ _)|(with_reducible refine Kd.C_drewN ?_ _)|(with_reducible refine Kd.C_drew ?_)));(case side2 => exact HC0_1.out);(case side3 => repeat (first|exact (Kd.C_below HR1_1.out HB.out)|(with_reducible refine Kd.C_alloc ?_ _)|(with_reducible refine Kd.C_drewN ?_ _)|(with_reducible refine Kd.C_drew ?_)));(case side4 => exact HC1_1.out);rintro e w' ⟨rfl,⟨nd,rfl⟩⟩;refine ⟨_,rfl,?_⟩))
   go_ret
   exact ⟨by first|rfl|(simp [errW_none,errW_some] <;> rfl)|(simp [*,errW_none,errW_some] <;> rfl),by repeat (first|(with_reducible first|exact HB.out|apply below_alloc|apply pw_below_drewN|apply below_drew1|refine below_set ?_ GE280.out|refine below_set ?_ GE281.out)|exact HB.out)⟩
  ·replace c6:=Bool.eq_false_iff.mpr c6
   subst c6
   have H1 : (some false) = some r:=by rw [if_neg (show ¬ (false = true) by decide)] at H;exact H
   clear H
   have H:=H1
   clear H1
   obtain rfl:=Option.some.inj H
   go_enter Tryd.func19,Tryd.ntmps19
   go_wp2_with (first|((with_reducible refine gate_dst (N:=2) rfl ?_);refine box_event ?hg (N:=2) ?hd (cs:=#[.slice A0_0 l0_0.length c0_0,.slice A0_1 l0_1.length c0_1]) (t:=41) ?hr ?_;(case hd => rfl);(case hg => rfl);(case hr => first|(go_simp;done)|(go_simp;rfl));intro gb280 hg w15 hbox hb;have n0_:=Aside0.mk (below_step (by repeat (first|(with_reducible first|exact HB.out|apply below_alloc|apply pw_below_drewN|apply below_drew1)|exact HB.out)) hb);have n1_:=Aside0.mk (hbox);have n2_:=Aside0.mk ((by rw [hg];exact (below_size (by repeat (first|(with_reducible first|exact HB.out|apply below_alloc|apply pw_below_drewN|apply below_drew1)|exact HB.out))) : w.heap.size ≤ gb280));have n3_:=Aside0.mk ((by rw [hg];exact (below_size (by repeat (first|(with_reducible first|exact HB.out|apply below_alloc|apply pw_below_drewN|apply below_drew1)|exact HB.out))) : w.heap.size ≤ gb280));clear HB;have HB:=n0_;have BK280:=n1_;have GW280:=n2_;have GE280:=n3_;clear n0_ n1_ n2_ n3_;clear hb hbox hg)|((with_reducible refine gate_dst (N:=3) rfl ?_);refine box_event ?hg (N:=3) ?hd (cs:=#[.slice A1_0 l1_0.length c1_0,.slice A1_1 l1_1.length c1_1]) (t:=41) ?hr ?_;(case hd => rfl);(case hg => rfl);(case hr => first|(go_simp;done)|(go_simp;rfl));intro gb281 hg w16 hbox hb;have n0_:=Aside0.mk (blk_below (g:=gb280) (o:=.cells #[.slice A0_0 l0_0.length c0_0,.slice A0_1 l0_1.length c0_1] 41 (0,0)) (by (with_reducible repeat (first|refine blk_drewN ?_ _|refine blk_drew ?_|refine blk_alloc ?_ _));exact BK280.out) hb);have n1_:=Aside0.mk (below_step (by repeat (first|(with_reducible first|exact HB.out|apply below_alloc|apply pw_below_drewN|apply below_drew1|refine below_set ?_ GE280.out)|exact HB.out)) hb);have n2_:=Aside0.mk (hbox);have n3_:=Aside0.mk ((by rw [hg];exact (below_size (by repeat (first|(with_reducible first|exact HB.out|apply below_alloc|apply pw_below_drewN|apply below_drew1|refine below_set ?_ GE280.out)|exact HB.out))) : w.heap.size ≤ gb281));have n4_:=Aside0.mk ((by rw [hg];exact (below_size (by repeat (first|(with_reducible first|exact HB.out|apply below_alloc|apply pw_below_drewN|apply below_drew1|refine below_set ?_ GE280.out)|exact HB.out))) : w.heap.size ≤ gb281));have n5_:=Aside0.mk ((by rw [hg];exact Nat.ne_of_lt (blk_lt (g:=gb280) (o:=.cells #[.slice A0_0 l0_0.length c0_0,.slice A0_1 l0_1.length c0_1] 41 (0,0)) (by (with_reducible repeat (first|refine blk_drewN ?_ _|refine blk_drew ?_|refine blk_alloc ?_ _));exact BK280.out)) : gb280 ≠ gb281));have n6_:=Aside0.mk ((by rw [hg];exact Nat.ne_of_gt (blk_lt (g:=gb280) (o:=.cells #[.slice A0_0 l0_0.length c0_0,.slice A0_1 l0_1.length c0_1] 41 (0,0)) (by (with_reducible repeat (first|refine blk_drewN ?_ _|refine blk_drew ?_|refine blk_alloc ?_ _));exact BK280.out)) : gb281 ≠ gb280));clear BK280;clear HB;have BK280:=n0_;have HB:=n1_;have BK281:=n2_;have GW281:=n3_;have GE281:=n4_;have NB280_281:=n5_;have NB281_280:=n6_;clear n0_ n1_ n2_ n3_ n4_ n5_ n6_;clear hb hbox hg;have hnb17:=NB280_281.out;have hnc17:=NB281_280.out;have hcz18_0 : w16.cell? ⟨gb280,0,none⟩ = some (.slice A0_0 l0_0.length c0_0):=(blk_cell BK280.out 0).trans rfl;have hcz18_1 : w16.cell? ⟨gb280,1,none⟩ = some (.slice A0_1 l0_1.length c0_1):=(blk_cell BK280.out 1).trans rfl;have hfz18_0:=blk_frozen BK280.out 0;have hfz18_1:=blk_frozen BK280.out 1;have hcz19_0 : w16.cell? ⟨gb281,0,none⟩ = some (.slice A1_0 l1_0.length c1_0):=(blk_cell BK281.out 0).trans rfl;have hcz19_1 : w16.cell? ⟨gb281,1,none⟩ = some (.slice A1_1 l1_1.length c1_1):=(blk_cell BK281.out 1).trans rfl;have hfz19_0:=blk_frozen BK281.out 0;have hfz19_1:=blk_frozen BK281.out 1)|((with_reducible refine gate_callee (f:=30) rfl ?_);refine goesL_ (some 9) rfl rfl Tryd.func30 (by kernel_rfl) rfl #[.slice A0_0 l0_0.length c0_0,.slice A1_0 l1_0.length c1_0] rfl (by (try simp only [List.map_toArray,List.map_cons,List.map_nil]);first|done|rfl|(simp only [List.length_drop,List.length_take];rfl)) ?_;(with_reducible refine (laws_eqClauseS.calls k _ _ l0_0 _ _ l1_0 true _ ?side1 ?side2 ?side3 ?side4 A3.out).mono ?_);(case side1 => repeat (first|exact (Kd.C_below HR0_0.out HB.out)|(with_reducible refine Kd.C_alloc ?_ _)|(with_reducible refine Kd.C_drewN ?_ _)|(with_reducible refine Kd.C_drew ?_)));(case side2 => exact HC0_0.out);(case side3 => repeat (first|exact (Kd.C_below HR1_0.out HB.out)|(with_reducible refine Kd.C_alloc ?_ _)|(with_reducible refine Kd.C_drewN ?_ _)|(with_reducible refine Kd.C_drew ?_)));(case side4 => exact HC1_0.out);rintro e w20 ⟨rfl,hb⟩;refine ⟨_,rfl,?_⟩;have n0_:=Aside0.mk (blk_below (g:=gb280) (o:=.cells #[.slice A0_0 l0_0.length c0_0,.slice A0_1 l0_1.length c0_1] 41 (0,0)) (by (with_reducible repeat (first|refine blk_drewN ?_ _|refine blk_drew ?_|refine blk_alloc ?_ _));exact BK280.out) hb);have n1_:=Aside0.mk (blk_below (g:=gb281) (o:=.cells #[.slice A1_0 l1_0.length c1_0,.slice A1_1 l1_1.length c1_1] 41 (0,0)) (by (with_reducible repeat (first|refine blk_drewN ?_ _|refine blk_drew ?_|refine blk_alloc ?_ _));exact BK281.out) hb);have n2_:=Aside0.mk (below_step (by repeat (first|(with_reducible first|exact HB.out|apply below_alloc|apply pw_below_drewN|apply below_drew1|refine below_set ?_ GE280.out|refine below_set ?_ GE281.out)|exact HB.out)) hb);clear BK280;clear BK281;clear HB;have BK280:=n0_;have BK281:=n1_;have HB:=n2_;clear n0_ n1_ n2_;(try clear hb);(try clear hb2);(try clear hk);(try clear hi);have hcz21_0 : w20.cell? ⟨gb280,0,none⟩ = some (.slice A0_0 l0_0.length c0_0):=(blk_cell BK280.out 0).trans rfl;have hcz21_1 : w20.cell? ⟨gb280,1,none⟩ = some (.slice A0_1 l0_1.length c0_1):=(blk_cell BK280.out 1).trans rfl;have hfz21_0:=blk_frozen BK280.out 0;have hfz21_1:=blk_frozen BK280.out 1;have hcz22_0 : w20.cell? ⟨gb281,0,none⟩ = some (.slice A1_0 l1_0.length c1_0):=(blk_cell BK281.out 0).trans rfl;have hcz22_1 : w20.cell? ⟨gb281,1,none⟩ = some (.slice A1_1 l1_1.length c1_1):=(blk_cell BK281.out 1).trans rfl;have hfz22_0:=blk_frozen BK281.out 0;have hfz22_1:=blk_frozen BK281.out 1)|((with_reducible refine gate_callee (f:=54) rfl ?_);refine goesL_ (some 15) rfl rfl Tryd.func54 (by kernel_rfl) rfl #[.slice A0_1 l0_1.length c0_1,.slice A1_1 l1_1.length c1_1] rfl (by (try simp only [List.map_toArray,List.map_cons,List.map_nil]);first|done|rfl|(simp only [List.length_drop,List.length_take];rfl)) ?_;(with_reducible refine (laws_eqStringS.calls k _ _ l0_1 _ _ l1_1 false _ ?side1 ?side2 ?side3 ?side4 A5.out).mono ?_);(case side1 => repeat (first|exact (Kd.C_below HR0_1.out HB.out)|(with_reducible refine Kd.C_alloc ?_ _)|(with_reducible refine Kd.C_drewN ?_ _)|(with_reducible refine Kd.C_drew ?_)));(case side2 => exact HC0_1.out);(case side3 => repeat (first|exact (Kd.C_below HR1_1.out HB.out)|(with_reducible refine Kd.C_alloc ?_ _)|(with_reducible refine Kd.C_drewN ?_ _)|(with_reducible refine Kd.C_drew ?_)));(case side4 => exact HC1_1.out);rintro e w' ⟨rfl,⟨nd,rfl⟩⟩;refine ⟨_,rfl,?_⟩))
   go_ret
   exact ⟨by first|rfl|(simp [errW_none,errW_some] <;> rfl)|(simp [*,errW_none,errW_some] <;> rfl),by repeat (first|(with_reducible first|exact HB.out|apply below_alloc|apply pw_below_drewN|apply below_drew1|refine below_set ?_ GE280.out|refine below_set ?_ GE281.out)|exact HB.out)⟩
 ·replace c4:=Bool.eq_false_iff.mpr c4
  subst c4
  have H1 : (some false) = some r:=by rw [if_neg (show ¬ (false = true) by decide)] at H;exact H
  clear H
  have H:=H1
  clear H1
  obtain rfl:=Option.some.inj H
  go_enter Tryd.func19,Tryd.ntmps19
  go_wp2_with (first|((with_reducible refine gate_dst (N:=2) rfl ?_);refine box_event ?hg (N:=2) ?hd (cs:=#[.slice A0_0 l0_0.length c0_0,.slice A0_1 l0_1.length c0_1]) (t:=41) ?hr ?_;(case hd => rfl);(case hg => rfl);(case hr => first|(go_simp;done)|(go_simp;rfl));intro gb280 hg w23 hbox hb;have n0_:=Aside0.mk (below_step (by repeat (first|(with_reducible first|exact HB.out|apply below_alloc|apply pw_below_drewN|apply below_drew1)|exact HB.out)) hb);have n1_:=Aside0.mk (hbox);have n2_:=Aside0.mk ((by rw [hg];exact (below_size (by repeat (first|(with_reducible first|exact HB.out|apply below_alloc|apply pw_below_drewN|apply below_drew1)|exact HB.out))) : w.heap.size ≤ gb280));have n3_:=Aside0.mk ((by rw [hg];exact (below_size (by repeat (first|(with_reducible first|exact HB.out|apply below_alloc|apply pw_below_drewN|apply below_drew1)|exact HB.out))) : w.heap.size ≤ gb280));clear HB;have HB:=n0_;have BK280:=n1_;have GW280:=n2_;have GE280:=n3_;clear n0_ n1_ n2_ n3_;clear hb hbox hg)|((with_reducible refine gate_dst (N:=3) rfl ?_);refine box_event ?hg (N:=3) ?hd (cs:=#[.slice A1_0 l1_0.length c1_0,.slice A1_1 l1_1.length c1_1]) (t:=41) ?hr ?_;(case hd => rfl);(case hg => rfl);(case hr => first|(go_simp;done)|(go_simp;rfl));intro gb281 hg w24 hbox hb;have n0_:=Aside0.mk (blk_below (g:=gb280) (o:=.cells #[.slice A0_0 l0_0.length c0_0,.slice A0_1 l0_1.length c0_1] 41 (0,0)) (by (with_reducible repeat (first|refine blk_drewN ?_ _|refine blk_drew ?_|refine blk_alloc ?_ _));exact BK280.out) hb);have n1_:=Aside0.mk (below_step (by repeat (first|(with_reducible first|exact HB.out|apply below_alloc|apply pw_below_drewN|apply below_drew1|refine below_set ?_ GE280.out)|exact HB.out)) hb);have n2_:=Aside0.mk (hbox);have n3_:=Aside0.mk ((by rw [hg];exact (below_size (by repeat (first|(with_reducible first|exact HB.out|apply below_alloc|apply pw_below_drewN|apply below_drew1|refine below_set ?_ GE280.out)|exact HB.out))) : w.heap.size ≤ gb281));have n4_:=Aside0.mk ((by rw [hg];exact (below_size (by repeat (first|(with_reducible first|exact HB.out|apply below_alloc|apply pw_below_drewN|apply below_drew1|refine below_set ?_ GE280.out)|exact HB.out))) : w.heap.size ≤ gb281));have n5_:=Aside0.mk ((by rw [hg];exact Nat.ne_of_lt (blk_lt (g:=gb280) (o:=.cells #[.slice A0_0 l0_0.length c0_0,.slice A0_1 l0_1.length c0_1] 41 (0,0)) (by (with_reducible repeat (first|refine blk_drewN ?_ _|refine blk_drew ?_|refine blk_alloc ?_ _));exact BK280.out)) : gb280 ≠ gb281));have n6_:=Aside0.mk ((by rw [hg];exact Nat.ne_of_gt (blk_lt (g:=gb280) (o:=.cells #[.slice A0_0 l0_0.length c0_0,.slice A0_1 l0_1.length c0_1] 41 (0,0)) (by (with_reducible repeat (first|refine blk_drewN ?_ _|refine blk_drew ?_|refine blk_alloc ?_ _));exact BK280.out)) : gb281 ≠ gb280));clear BK280;clear HB;have BK280:=n0_;have HB:=n1_;have BK281:=n2_;have GW281:=n3_;have GE281:=n4_;have NB280_281:=n5_;have NB281_280:=n6_;clear n0_ n1_ n2_ n3_ n4_ n5_ n6_;clear hb hbox hg;have hnb25:=NB280_281.out;have hnc25:=NB281_280.out;have hcz26_0 : w24.cell? ⟨gb280,0,none⟩ = some (.slice A0_0 l0_0.length c0_0):=(blk_cell BK280.out 0).trans rfl;have hcz26_1 : w24.cell? ⟨gb280,1,none⟩ = some (.slice A0_1 l0_1.length c0_1):=(blk_cell BK280.out 1).trans rfl;have hfz26_0:=blk_frozen BK280.out 0;have hfz26_1:=blk_frozen BK280.out 1;have hcz27_0 : w24.cell? ⟨gb281,0,none⟩ = some (.slice A1_0 l1_0.length c1_0):=(blk_cell BK281.out 0).trans rfl;have hcz27_1 : w24.cell? ⟨gb281,1,none⟩ = some (.slice A1_1 l1_1.length c1_1):=(blk_cell BK281.out 1).trans rfl;have hfz27_0:=blk_frozen BK281.out 0;have hfz27_1:=blk_frozen BK281.out 1)|((with_reducible refine gate_callee (f:=30) rfl ?_);refine goesL_ (some 9) rfl rfl Tryd.func30 (by kernel_rfl) rfl #[.slice A0_0 l0_0.length c0_0,.slice A1_0 l1_0.length c1_0] rfl (by (try simp only [List.map_toArray,List.map_cons,List.map_nil]);first|done|rfl|(simp only [List.length_drop,List.length_take];rfl)) ?_;(with_reducible refine (laws_eqClauseS.calls k _ _ l0_0 _ _ l1_0 false _ ?side1 ?side2 ?side3 ?side4 A3.out).mono ?_);(case side1 => repeat (first|exact (Kd.C_below HR0_0.out HB.out)|(with_reducible refine Kd.C_alloc ?_ _)|(with_reducible refine Kd.C_drewN ?_ _)|(with_reducible refine Kd.C_drew ?_)));(case side2 => exact HC0_0.out);(case side3 => repeat (first|exact (Kd.C_below HR1_0.out HB.out)|(with_reducible refine Kd.C_alloc ?_ _)|(with_reducible refine Kd.C_drewN ?_ _)|(with_reducible refine Kd.C_drew ?_)));(case side4 => exact HC1_0.out);rintro e w28 ⟨rfl,hb⟩;refine ⟨_,rfl,?_⟩;have n0_:=Aside0.mk (blk_below (g:=gb280) (o:=.cells #[.slice A0_0 l0_0.length c0_0,.slice A0_1 l0_1.length c0_1] 41 (0,0)) (by (with_reducible repeat (first|refine blk_drewN ?_ _|refine blk_drew ?_|refine blk_alloc ?_ _));exact BK280.out) hb);have n1_:=Aside0.mk (blk_below (g:=gb281) (o:=.cells #[.slice A1_0 l1_0.length c1_0,.slice A1_1 l1_1.length c1_1] 41 (0,0)) (by (with_reducible repeat (first|refine blk_drewN ?_ _|refine blk_drew ?_|refine blk_alloc ?_ _));exact BK281.out) hb);have n2_:=Aside0.mk (below_step (by repeat (first|(with_reducible first|exact HB.out|apply below_alloc|apply pw_below_drewN|apply below_drew1|refine below_set ?_ GE280.out|refine below_set ?_ GE281.out)|exact HB.out)) hb);clear BK280;clear BK281;clear HB;have BK280:=n0_;have BK281:=n1_;have HB:=n2_;clear n0_ n1_ n2_;(try clear hb)))
  go_ret
  exact ⟨by first|rfl|(simp [errW_none,errW_some] <;> rfl)|(simp [*,errW_none,errW_some] <;> rfl),by repeat (first|(with_reducible first|exact HB.out|apply below_alloc|apply pw_below_drewN|apply below_drew1|refine below_set ?_ GE280.out|refine below_set ?_ GE281.out)|exact HB.out)⟩

end Go.Proofs.YtojedbogbodkiaaDoor.KKn
