/- Contracts of functions of the program and of the reference, each a Lean function and the proof that Go comes to its answer. Written by wip/pp/pp.py out of the kit's print, for this claim; nothing of it is trusted: Lean checks it. -/
import Derived.Test.YtojedbogbodkiaaKShx0
import Derived.Test.YtojedbogbodkiaaKShx3
namespace Go.Proofs.Ytojedbogbodkiaa.KSh
open Go.RowKit Go.Proofs.YtojedbogbodkiaaW.PrintWords Go.Proofs.YtojedbogbodkiaaW.PrintLast Go.Proofs.YtojedbogbodkiaaW.PrintMore
attribute [local go_sem] max2_int min2_int max_two min_two max_three min_three max_four min_four   -- for this text's walks alone
set_option linter.unusedVariables false
set_option linter.unusedSimpArgs false

set_option linter.unusedSectionVars false
variable [fk_laws_szTerm] [fk_laws_toTerm] [fk_laws_eqTerm] [fk_spec_l34Term] [fk_impl_copyTerm_1]
/-! ### spec_l03Right: function 75 -/
mutual
def spec_l03Right.j0 : Nat → Int → Bool → Int → ByteArray → Int → List (S29) → Option (Bool)
 | 0,_,_,_,_,_,_ => none
 | k + 1,x1,x12,x169000,x169001,x169002,x169003 => if x12 = true then (some false) else (spec_l03Right.l0 k x1 0 x169000 x169001 x169002 x169003)
def spec_l03Right.l0 : Nat → Int → Int → Int → ByteArray → Int → List (S29) → Option (Bool)
 | 0,_,_,_,_,_,_ => none
 | k + 1,x1,x5,x169000,x169001,x169002,x169003 => if x5 < (x169003.length : Int) then (if 0 ≤ x5 then ((spec_l03Right.f k ((rd_T29 x169003 x5).f0) ((rd_T29 x169003 x5).f1) ((rd_T29 x169003 x5).f2) ((rd_T29 x169003 x5).f3) (wrap64 (x1 + 1))).bind fun t171 => (if t171 = true then (spec_l03Right.l0 k x1 (wrap64 (x5 + 1)) x169000 x169001 x169002 x169003) else (some false))) else (none)) else (some true)
def spec_l03Right.f : Nat → Int → ByteArray → Int → List (S29) → Int → Option (Bool)
 | 0,_,_,_,_,_ => none
 | k + 1,a0_0,a0_1,a0_2,l0_3,a1 => if a1 > 40 then (spec_l03Right.j0 k a1 true a0_0 a0_1 a0_2 l0_3) else ((spec_l03One.f k a0_0 a0_1 a0_2 l0_3).bind fun t169 => (spec_l03Right.j0 k a1 (!t169) a0_0 a0_1 a0_2 l0_3))
end
theorem spec_l03Right.mono_l : ∀ k,(∀ y0 y1 y2 y3 y4,LeO (spec_l03Right.f k y0 y1 y2 y3 y4) (spec_l03Right.f (k + 1) y0 y1 y2 y3 y4)) ∧ (∀ y0 y1 y2 y3 y4 y5,LeO (spec_l03Right.j0 k y0 y1 y2 y3 y4 y5) (spec_l03Right.j0 (k + 1) y0 y1 y2 y3 y4 y5)) ∧ (∀ y0 y1 y2 y3 y4 y5,LeO (spec_l03Right.l0 k y0 y1 y2 y3 y4 y5) (spec_l03Right.l0 (k + 1) y0 y1 y2 y3 y4 y5))
 | 0 => ⟨fun _ _ _ _ _ r h => by simp [spec_l03Right.f] at h,fun _ _ _ _ _ _ r h => by simp [spec_l03Right.j0] at h,fun _ _ _ _ _ _ r h => by simp [spec_l03Right.l0] at h⟩
 | k + 1 => by
  obtain ⟨ih0,ih1,ih2⟩:=spec_l03Right.mono_l k
  refine ⟨?_,?_,?_⟩
  ·intro y0 y1 y2 y3 y4
   unfold spec_l03Right.f
   repeat' first
   | (with_reducible exact ih0 _ _ _ _ _)
   | (with_reducible exact ih1 _ _ _ _ _ _)
   | (with_reducible exact ih2 _ _ _ _ _ _)
   | (with_reducible exact spec_l03One.mono _ _ _ _ _)
   | (with_reducible exact LeO.refl _)
   | (with_reducible exact LeO.none _)
   | (with_reducible refine LeO.ite ?_ ?_)
   | (with_reducible refine LeO.bind ?_ (fun _ => ?_))
   | exact ih0 _ _ _ _ _
   | exact ih1 _ _ _ _ _ _
   | exact ih2 _ _ _ _ _ _
   | exact spec_l03One.mono _ _ _ _ _
   | exact LeO.none _
   | refine LeO.ite ?_ ?_
   | refine LeO.bind ?_ (fun _ => ?_)
  ·intro y0 y1 y2 y3 y4 y5
   unfold spec_l03Right.j0
   repeat' first
   | (with_reducible exact ih0 _ _ _ _ _)
   | (with_reducible exact ih1 _ _ _ _ _ _)
   | (with_reducible exact ih2 _ _ _ _ _ _)
   | (with_reducible exact spec_l03One.mono _ _ _ _ _)
   | (with_reducible exact LeO.refl _)
   | (with_reducible exact LeO.none _)
   | (with_reducible refine LeO.ite ?_ ?_)
   | (with_reducible refine LeO.bind ?_ (fun _ => ?_))
   | exact ih0 _ _ _ _ _
   | exact ih1 _ _ _ _ _ _
   | exact ih2 _ _ _ _ _ _
   | exact spec_l03One.mono _ _ _ _ _
   | exact LeO.none _
   | refine LeO.ite ?_ ?_
   | refine LeO.bind ?_ (fun _ => ?_)
  ·intro y0 y1 y2 y3 y4 y5
   unfold spec_l03Right.l0
   repeat' first
   | (with_reducible exact ih0 _ _ _ _ _)
   | (with_reducible exact ih1 _ _ _ _ _ _)
   | (with_reducible exact ih2 _ _ _ _ _ _)
   | (with_reducible exact spec_l03One.mono _ _ _ _ _)
   | (with_reducible exact LeO.refl _)
   | (with_reducible exact LeO.none _)
   | (with_reducible refine LeO.ite ?_ ?_)
   | (with_reducible refine LeO.bind ?_ (fun _ => ?_))
   | exact ih0 _ _ _ _ _
   | exact ih1 _ _ _ _ _ _
   | exact ih2 _ _ _ _ _ _
   | exact spec_l03One.mono _ _ _ _ _
   | exact LeO.none _
   | refine LeO.ite ?_ ?_
   | refine LeO.bind ?_ (fun _ => ?_)
theorem spec_l03Right.mono : ∀ a0 a1 a2 a3 a4 k,LeO (spec_l03Right.f k a0 a1 a2 a3 a4) (spec_l03Right.f (k + 1) a0 a1 a2 a3 a4):=by
 intro a0 a1 a2 a3 a4 k
 obtain ⟨ih0,ih1,ih2⟩:=spec_l03Right.mono_l k
 exact ih0 a0 a1 a2 a3 a4
set_option maxHeartbeats 8000000 in
set_option maxRecDepth 100000 in
theorem spec_l03Right.calls (k : Nat) : ∀ (a0_0 : Int) (a0_1 : ByteArray) (a0_2 : Int) (A0_3 : Option Addr) (c0_3 : Nat) (l0_3 : List (S29)) (a1 : Int) (r : Bool) (w : World) (hr0_3 : Kd.C k29 w A0_3 l0_3.length l0_3) (hc0_3 : l0_3.length ≤ c0_3) (h : spec_l03Right.f k a0_0 a0_1 a0_2 l0_3 a1 = some r),
  Calls Try.prog 75 #[.agg #[.int .i64 a0_0,.string a0_1,.int .i64 a0_2,.slice A0_3 l0_3.length c0_3],.int .i64 a1] w fun e w' => e = .returned (.bool r) ∧ Below w.heap.size w w':=by
 induction k using Nat.strongRecOn with
 | _ k ih =>
 intro a0_0 a0_1 a0_2 A0_3 c0_3 l0_3 a1 r w hr0_3 hc0_3 h
 cases k with
 | zero => exact absurd h (by simp [spec_l03Right.f])
 | succ k =>
 simp only [spec_l03Right.f] at h
 have hu29:=Try.underlying29
 have HR0_3:=Aside0.mk hr0_3
 have HC0_3:=Aside0.mk hc0_3
 clear hr0_3 hc0_3
 have HB:=Aside0.mk (Below.refl w.heap.size w)
 have H : (if a1 > 40 then (spec_l03Right.j0 k a1 true a0_0 a0_1 a0_2 l0_3) else ((spec_l03One.f k a0_0 a0_1 a0_2 l0_3).bind fun t169 => (spec_l03Right.j0 k a1 (!t169) a0_0 a0_1 a0_2 l0_3))) = some r:=h
 clear h
 have HC3:=Aside0.mk H
 clear H
 go_enter Try.func75,Try.ntmps75
 go_upto_region 1 with (first|((with_reducible refine gate_dst (N:=2) rfl ?_);refine box_event ?hg (N:=2) ?hd (cs:=#[.int .i64 a0_0,.string a0_1,.int .i64 a0_2,.slice A0_3 l0_3.length c0_3]) (t:=29) ?hr ?_;(case hd => rfl);(case hg => rfl);(case hr => first|(go_simp;done)|(go_simp;rfl));intro gb168 hg w4 hbox hb;have n0_:=Aside0.mk (below_step (by repeat (first|(with_reducible first|exact HB.out|apply below_alloc|apply pw_below_drewN|apply below_drew1)|exact HB.out)) hb);have n1_:=Aside0.mk (hbox);have n2_:=Aside0.mk ((by rw [hg];exact (below_size (by repeat (first|(with_reducible first|exact HB.out|apply below_alloc|apply pw_below_drewN|apply below_drew1)|exact HB.out))) : w.heap.size ≤ gb168));have n3_:=Aside0.mk ((by rw [hg];exact (below_size (by repeat (first|(with_reducible first|exact HB.out|apply below_alloc|apply pw_below_drewN|apply below_drew1)|exact HB.out))) : w.heap.size ≤ gb168));clear HB;have HB:=n0_;have BK168:=n1_;have GW168:=n2_;have GE168:=n3_;clear n0_ n1_ n2_ n3_;clear hb hbox hg))
 (try simp only [Act.put,List.setIfInBounds_toArray,List.set_cons_zero,List.set_cons_succ])
 go_cut [12] (fun v12 wc => ∃ (kq : Nat) (x12_2 : Bool),v12 = .bool x12_2 ∧ Aside0 (spec_l03Right.j0 kq a1 x12_2 a0_0 a0_1 a0_2 l0_3 = some r) ∧ Aside0 (kq ≤ k) ∧ Aside0 (wc.heap[gb168]? = some (.cells #[.int .i64 a0_0,.string a0_1,.int .i64 a0_2,(.slice A0_3 l0_3.length c0_3)] 29 (0,0))) ∧ Aside0 (Below w.heap.size w wc))
 case first =>
  have H:=HC3.out
  clear HC3
  by_cases c5 : a1 > 40
  ·rw [if_pos c5] at H
   have c5b0 : decide (40 < a1) = true:=decide_eq_true c5
   clear c5
   (first|rw [c5b0]|(simp only [i64_w,i32_w];rw [c5b0])|skip)
   have H':=Aside0.mk H
   clear H
   go_wp2
   go_meet
   case rel => exact ⟨_,(true),(by first|rfl|(simp;done)|(simp [*];done)),H',⟨by first|omega|exact Nat.le_refl _⟩,⟨by (with_reducible repeat (first|refine blk_drewN ?_ _|refine blk_drew ?_|refine blk_alloc ?_ _));exact BK168.out⟩,⟨by repeat (first|(with_reducible first|exact HB.out|apply below_alloc|apply pw_below_drewN|apply below_drew1|refine below_set ?_ GE168.out)|exact HB.out)⟩⟩
  ·rw [if_neg c5] at H
   have c5b0 : decide (40 < a1) = false:=decide_eq_false c5
   clear c5
   (first|rw [c5b0]|(simp only [i64_w,i32_w];rw [c5b0])|skip)
   replace H:=Option.bind_eq_some_iff.mp H
   obtain ⟨t169,A60,H⟩:=H
   replace H : (spec_l03Right.j0 k a1 (!t169) a0_0 a0_1 a0_2 l0_3) = some r:=H
   have A6:=Aside0.mk A60
   clear A60
   have H':=Aside0.mk H
   clear H
   have hcz7_0 : w4.cell? ⟨gb168,0,none⟩ = some (.int .i64 a0_0):=(blk_cell BK168.out 0).trans rfl
   have hcz7_1 : w4.cell? ⟨gb168,1,none⟩ = some (.string a0_1):=(blk_cell BK168.out 1).trans rfl
   have hcz7_2 : w4.cell? ⟨gb168,2,none⟩ = some (.int .i64 a0_2):=(blk_cell BK168.out 2).trans rfl
   have hcz7_3 : w4.cell? ⟨gb168,3,none⟩ = some (.slice A0_3 l0_3.length c0_3):=(blk_cell BK168.out 3).trans rfl
   have hfz7_0:=blk_frozen BK168.out 0
   have hfz7_1:=blk_frozen BK168.out 1
   have hfz7_2:=blk_frozen BK168.out 2
   have hfz7_3:=blk_frozen BK168.out 3
   go_wp2_with (first|(go_at_call 107;(with_reducible refine (spec_l03One.calls k a0_0 a0_1 a0_2 _ _ l0_3 t169 _ ?side1 ?side2 A6.out).mono ?_);(case side1 => repeat (first|exact (Kd.C_below HR0_3.out HB.out)|(with_reducible refine Kd.C_alloc ?_ _)|(with_reducible refine Kd.C_drewN ?_ _)|(with_reducible refine Kd.C_drew ?_)));(case side2 => exact HC0_3.out);rintro e w8 ⟨rfl,hb⟩;have n0_:=Aside0.mk (blk_below (g:=gb168) (o:=.cells #[.int .i64 a0_0,.string a0_1,.int .i64 a0_2,.slice A0_3 l0_3.length c0_3] 29 (0,0)) (by (with_reducible repeat (first|refine blk_drewN ?_ _|refine blk_drew ?_|refine blk_alloc ?_ _));exact BK168.out) hb);have n1_:=Aside0.mk (below_step (by repeat (first|(with_reducible first|exact HB.out|apply below_alloc|apply pw_below_drewN|apply below_drew1|refine below_set ?_ GE168.out)|exact HB.out)) hb);clear BK168;clear HB;have BK168:=n0_;have HB:=n1_;clear n0_ n1_;(try clear hb)))
   go_meet
   case rel => exact ⟨_,(!t169),(by first|rfl|(simp;done)|(simp [*];done)),H',⟨by first|omega|exact Nat.le_refl _⟩,⟨by (with_reducible repeat (first|refine blk_drewN ?_ _|refine blk_drew ?_|refine blk_alloc ?_ _));exact BK168.out⟩,⟨by repeat (first|(with_reducible first|exact HB.out|apply below_alloc|apply pw_below_drewN|apply below_drew1|refine below_set ?_ GE168.out)|exact HB.out)⟩⟩
 case rest =>
  clear HC3
  try clear c5
  try clear c5b0
  try clear hcz7_0
  try clear hcz7_1
  try clear hcz7_2
  try clear hcz7_3
  try clear hfz7_0
  try clear hfz7_1
  try clear hfz7_2
  try clear hfz7_3
  try clear BK168
  obtain ⟨kq,x12_2,rfl,HA,HJ2,BK168,HB⟩:=hcut
  cases kq with
  | zero => exact absurd HA.out (by simp [spec_l03Right.j0])
  | succ kj2 =>
   have H:=HA.out
   clear HA
   simp only [spec_l03Right.j0] at H
   by_cases c9 : x12_2 = true
   ·subst c9
    have H1 : (some false) = some r:=by rw [if_pos rfl] at H;exact H
    clear H
    have H:=H1
    clear H1
    obtain rfl:=Option.some.inj H
    go_wp2
    go_ret
    exact ⟨by first|rfl|(simp [errW_none,errW_some] <;> rfl)|(simp [*,errW_none,errW_some] <;> rfl),by repeat (first|(with_reducible first|exact HB.out|apply below_alloc|apply pw_below_drewN|apply below_drew1|refine below_set ?_ GE168.out)|exact HB.out)⟩
   ·replace c9:=Bool.eq_false_iff.mpr c9
    subst c9
    have H1 : (spec_l03Right.l0 kj2 a1 0 a0_0 a0_1 a0_2 l0_3) = some r:=by rw [if_neg (show ¬ (false = true) by decide)] at H;exact H
    clear H
    have H:=H1
    clear H1
    have H':=Aside0.mk H
    clear H
    go_wp2
    go_loopg [5] kj2 (fun kq v5 w' => ∃ (x5_2 : Int),v5 = .int .i64 x5_2 ∧ Aside0 (spec_l03Right.l0 kq a1 x5_2 a0_0 a0_1 a0_2 l0_3 = some r) ∧ Aside0 (kq ≤ kj2) ∧ Aside0 (w'.heap[gb168]? = some (.cells #[.int .i64 a0_0,.string a0_1,.int .i64 a0_2,(.slice A0_3 l0_3.length c0_3)] 29 (0,0))) ∧ Aside0 (Below w.heap.size w w'))
    case atStart => exact ⟨(0),(by first|rfl|(simp;done)|(simp [*];done)),H',⟨Nat.le_refl _⟩,⟨by (with_reducible repeat (first|refine blk_drewN ?_ _|refine blk_drew ?_|refine blk_alloc ?_ _));exact BK168.out⟩,⟨by repeat (first|(with_reducible first|exact HB.out|apply below_alloc|apply pw_below_drewN|apply below_drew1|refine below_set ?_ GE168.out)|exact HB.out)⟩⟩
    case round =>
     clear H'
     try clear c5
     try clear c5b0
     try clear c9
     try clear hcz7_0
     try clear hcz7_1
     try clear hcz7_2
     try clear hcz7_3
     try clear hfz7_0
     try clear hfz7_1
     try clear hfz7_2
     try clear hfz7_3
     try clear BK168
     obtain ⟨x5_2,rfl,HA,HK2,BK168,HB⟩:=hrel
     cases gk with
     | zero => exact absurd HA.out (by simp [spec_l03Right.l0])
     | succ k2 =>
      have H:=HA.out
      clear HA
      simp only [spec_l03Right.l0] at H
      by_cases c10 : x5_2 < (l0_3.length : Int)
      ·rw [if_pos c10] at H
       have c10b0 : decide (x5_2 < (l0_3.length : Int)) = true:=decide_eq_true c10
       clear c10
       by_cases c11 : 0 ≤ x5_2
       rotate_left
       ·rw [if_neg c11] at H
        exact absurd H (by simp)
       rw [if_pos c11] at H
       have c11b0 : decide (0 ≤ x5_2) = true:=decide_eq_true c11
       clear c11
       replace H:=Option.bind_eq_some_iff.mp H
       obtain ⟨t171,A120,H⟩:=H
       replace H : (if t171 = true then (spec_l03Right.l0 k2 a1 (wrap64 (x5_2 + 1)) a0_0 a0_1 a0_2 l0_3) else (some false)) = some r:=H
       have A12:=Aside0.mk A120
       clear A120
       by_cases c13 : t171 = true
       ·subst c13
        have H1 : (spec_l03Right.l0 k2 a1 (wrap64 (x5_2 + 1)) a0_0 a0_1 a0_2 l0_3) = some r:=by rw [if_pos rfl] at H;exact H
        clear H
        have H:=H1
        clear H1
        have H':=Aside0.mk H
        clear H
        have hcz14_0 : wr.cell? ⟨gb168,0,none⟩ = some (.int .i64 a0_0):=(blk_cell BK168.out 0).trans rfl
        have hcz14_1 : wr.cell? ⟨gb168,1,none⟩ = some (.string a0_1):=(blk_cell BK168.out 1).trans rfl
        have hcz14_2 : wr.cell? ⟨gb168,2,none⟩ = some (.int .i64 a0_2):=(blk_cell BK168.out 2).trans rfl
        have hcz14_3 : wr.cell? ⟨gb168,3,none⟩ = some (.slice A0_3 l0_3.length c0_3):=(blk_cell BK168.out 3).trans rfl
        have hfz14_0:=blk_frozen BK168.out 0
        have hfz14_1:=blk_frozen BK168.out 1
        have hfz14_2:=blk_frozen BK168.out 2
        have hfz14_3:=blk_frozen BK168.out 3
        have p170 : 0 ≤ (x5_2 : Int):=of_decide_eq_true (by first|(with_reducible assumption)|assumption)
        have q170 : x5_2 < (l0_3.length : Int):=of_decide_eq_true (by first|(with_reducible assumption)|assumption)
        obtain ⟨ad170,A170_3,c170_3,e170,hx170_0,hx170_1,hx170_2,hx170_3,hl170_3,hi170_3⟩:=at_T29 HR0_3.out x5_2 p170 q170
        cases e170
        replace hx170_0:=(HB.out.cell (World.block_lt_of_cell? w _ hx170_0)).trans hx170_0
        replace hx170_1:=(HB.out.cell (World.block_lt_of_cell? w _ hx170_1)).trans hx170_1
        replace hx170_2:=(HB.out.cell (World.block_lt_of_cell? w _ hx170_2)).trans hx170_2
        replace hx170_3:=(HB.out.cell (World.block_lt_of_cell? w _ hx170_3)).trans hx170_3
        have HR170_3:=Aside0.mk hi170_3
        have HC170_3:=Aside0.mk hl170_3
        clear hi170_3 hl170_3
        replace p170:=eq_true p170
        replace q170:=eq_true q170
        go_wp2_with (first|((with_reducible refine gate_callee (f:=75) rfl ?_);refine goesL_ (some 27) rfl rfl Try.func75 (by kernel_rfl) rfl #[.agg #[.int .i64 ((rd_T29 l0_3 x5_2).f0),.string ((rd_T29 l0_3 x5_2).f1),.int .i64 ((rd_T29 l0_3 x5_2).f2),.slice A170_3 ((rd_T29 l0_3 x5_2).f3).length c170_3],.int .i64 (wrap64 (a1 + 1))] rfl (by (try simp only [List.map_toArray,List.map_cons,List.map_nil]);first|done|rfl|(simp only [List.length_drop,List.length_take];rfl)) ?_;(with_reducible refine (ih k2 (by have:=HJ2.out;have:=HK2.out;omega) ((rd_T29 l0_3 x5_2).f0) ((rd_T29 l0_3 x5_2).f1) ((rd_T29 l0_3 x5_2).f2) _ _ ((rd_T29 l0_3 x5_2).f3) (wrap64 (a1 + 1)) true _ ?side1 ?side2 A12.out).mono ?_);(case side1 => repeat (first|exact (Kd.C_below HR170_3.out HB.out)|(with_reducible refine Kd.C_alloc ?_ _)|(with_reducible refine Kd.C_drewN ?_ _)|(with_reducible refine Kd.C_drew ?_)));(case side2 => exact HC170_3.out);rintro e w15 ⟨rfl,hb⟩;refine ⟨_,rfl,?_⟩;have n0_:=Aside0.mk (blk_below (g:=gb168) (o:=.cells #[.int .i64 a0_0,.string a0_1,.int .i64 a0_2,.slice (some ad170) l0_3.length c0_3] 29 (0,0)) (by (with_reducible repeat (first|refine blk_drewN ?_ _|refine blk_drew ?_|refine blk_alloc ?_ _));exact BK168.out) hb);have n1_:=Aside0.mk (below_step (by repeat (first|(with_reducible first|exact HB.out|apply below_alloc|apply pw_below_drewN|apply below_drew1|refine below_set ?_ GE168.out)|exact HB.out)) hb);clear BK168;clear HB;have BK168:=n0_;have HB:=n1_;clear n0_ n1_;(try clear hb)))
        go_roundg k2
        case measure => have:=HJ2.out;have:=HK2.out;omega
        case rel => exact ⟨(wrap64 (x5_2 + 1)),(by first|rfl|(simp;done)|(simp [*];done)),H',⟨by have:=HJ2.out;have:=HK2.out;omega⟩,⟨by (with_reducible repeat (first|refine blk_drewN ?_ _|refine blk_drew ?_|refine blk_alloc ?_ _));exact BK168.out⟩,⟨by repeat (first|(with_reducible first|exact HB.out|apply below_alloc|apply pw_below_drewN|apply below_drew1|refine below_set ?_ GE168.out)|exact HB.out)⟩⟩
       ·replace c13:=Bool.eq_false_iff.mpr c13
        subst c13
        have H1 : (some false) = some r:=by rw [if_neg (show ¬ (false = true) by decide)] at H;exact H
        clear H
        have H:=H1
        clear H1
        obtain rfl:=Option.some.inj H
        have hcz16_0 : wr.cell? ⟨gb168,0,none⟩ = some (.int .i64 a0_0):=(blk_cell BK168.out 0).trans rfl
        have hcz16_1 : wr.cell? ⟨gb168,1,none⟩ = some (.string a0_1):=(blk_cell BK168.out 1).trans rfl
        have hcz16_2 : wr.cell? ⟨gb168,2,none⟩ = some (.int .i64 a0_2):=(blk_cell BK168.out 2).trans rfl
        have hcz16_3 : wr.cell? ⟨gb168,3,none⟩ = some (.slice A0_3 l0_3.length c0_3):=(blk_cell BK168.out 3).trans rfl
        have hfz16_0:=blk_frozen BK168.out 0
        have hfz16_1:=blk_frozen BK168.out 1
        have hfz16_2:=blk_frozen BK168.out 2
        have hfz16_3:=blk_frozen BK168.out 3
        have p170 : 0 ≤ (x5_2 : Int):=of_decide_eq_true (by first|(with_reducible assumption)|assumption)
        have q170 : x5_2 < (l0_3.length : Int):=of_decide_eq_true (by first|(with_reducible assumption)|assumption)
        obtain ⟨ad170,A170_3,c170_3,e170,hx170_0,hx170_1,hx170_2,hx170_3,hl170_3,hi170_3⟩:=at_T29 HR0_3.out x5_2 p170 q170
        cases e170
        replace hx170_0:=(HB.out.cell (World.block_lt_of_cell? w _ hx170_0)).trans hx170_0
        replace hx170_1:=(HB.out.cell (World.block_lt_of_cell? w _ hx170_1)).trans hx170_1
        replace hx170_2:=(HB.out.cell (World.block_lt_of_cell? w _ hx170_2)).trans hx170_2
        replace hx170_3:=(HB.out.cell (World.block_lt_of_cell? w _ hx170_3)).trans hx170_3
        have HR170_3:=Aside0.mk hi170_3
        have HC170_3:=Aside0.mk hl170_3
        clear hi170_3 hl170_3
        replace p170:=eq_true p170
        replace q170:=eq_true q170
        go_wp2_with (first|((with_reducible refine gate_callee (f:=75) rfl ?_);refine goesL_ (some 27) rfl rfl Try.func75 (by kernel_rfl) rfl #[.agg #[.int .i64 ((rd_T29 l0_3 x5_2).f0),.string ((rd_T29 l0_3 x5_2).f1),.int .i64 ((rd_T29 l0_3 x5_2).f2),.slice A170_3 ((rd_T29 l0_3 x5_2).f3).length c170_3],.int .i64 (wrap64 (a1 + 1))] rfl (by (try simp only [List.map_toArray,List.map_cons,List.map_nil]);first|done|rfl|(simp only [List.length_drop,List.length_take];rfl)) ?_;(with_reducible refine (ih k2 (by have:=HJ2.out;have:=HK2.out;omega) ((rd_T29 l0_3 x5_2).f0) ((rd_T29 l0_3 x5_2).f1) ((rd_T29 l0_3 x5_2).f2) _ _ ((rd_T29 l0_3 x5_2).f3) (wrap64 (a1 + 1)) false _ ?side1 ?side2 A12.out).mono ?_);(case side1 => repeat (first|exact (Kd.C_below HR170_3.out HB.out)|(with_reducible refine Kd.C_alloc ?_ _)|(with_reducible refine Kd.C_drewN ?_ _)|(with_reducible refine Kd.C_drew ?_)));(case side2 => exact HC170_3.out);rintro e w17 ⟨rfl,hb⟩;refine ⟨_,rfl,?_⟩;have n0_:=Aside0.mk (blk_below (g:=gb168) (o:=.cells #[.int .i64 a0_0,.string a0_1,.int .i64 a0_2,.slice (some ad170) l0_3.length c0_3] 29 (0,0)) (by (with_reducible repeat (first|refine blk_drewN ?_ _|refine blk_drew ?_|refine blk_alloc ?_ _));exact BK168.out) hb);have n1_:=Aside0.mk (below_step (by repeat (first|(with_reducible first|exact HB.out|apply below_alloc|apply pw_below_drewN|apply below_drew1|refine below_set ?_ GE168.out)|exact HB.out)) hb);clear BK168;clear HB;have BK168:=n0_;have HB:=n1_;clear n0_ n1_;(try clear hb)))
        go_ret
        exact ⟨by first|rfl|(simp [errW_none,errW_some] <;> rfl)|(simp [*,errW_none,errW_some] <;> rfl),by repeat (first|(with_reducible first|exact HB.out|apply below_alloc|apply pw_below_drewN|apply below_drew1|refine below_set ?_ GE168.out)|exact HB.out)⟩
      ·rw [if_neg c10] at H
       have c10b0 : decide (x5_2 < (l0_3.length : Int)) = false:=decide_eq_false c10
       clear c10
       obtain rfl:=Option.some.inj H
       have hcz18_0 : wr.cell? ⟨gb168,0,none⟩ = some (.int .i64 a0_0):=(blk_cell BK168.out 0).trans rfl
       have hcz18_1 : wr.cell? ⟨gb168,1,none⟩ = some (.string a0_1):=(blk_cell BK168.out 1).trans rfl
       have hcz18_2 : wr.cell? ⟨gb168,2,none⟩ = some (.int .i64 a0_2):=(blk_cell BK168.out 2).trans rfl
       have hcz18_3 : wr.cell? ⟨gb168,3,none⟩ = some (.slice A0_3 l0_3.length c0_3):=(blk_cell BK168.out 3).trans rfl
       have hfz18_0:=blk_frozen BK168.out 0
       have hfz18_1:=blk_frozen BK168.out 1
       have hfz18_2:=blk_frozen BK168.out 2
       have hfz18_3:=blk_frozen BK168.out 3
       go_wp2
       go_ret
       exact ⟨by first|rfl|(simp [errW_none,errW_some] <;> rfl)|(simp [*,errW_none,errW_some] <;> rfl),by repeat (first|(with_reducible first|exact HB.out|apply below_alloc|apply pw_below_drewN|apply below_drew1|refine below_set ?_ GE168.out)|exact HB.out)⟩

/-! ### spec_TermOk: function 31 -/
def spec_TermOk.f (k : Nat) (a0_0 : Int) (a0_1 : ByteArray) (a0_2 : Int) (l0_3 : List (S29)) : Option (Bool):=(spec_l03Count.f k a0_0 a0_1 a0_2 l0_3 400).bind fun t173 => (if t173 ≥ 0 then ((spec_l03Right.f k a0_0 a0_1 a0_2 l0_3 1).bind fun t174 => (some t174)) else (some false))
theorem spec_TermOk.mono : ∀ a0 a1 a2 a3 k,LeO (spec_TermOk.f k a0 a1 a2 a3) (spec_TermOk.f (k + 1) a0 a1 a2 a3):=by
 intro a0 a1 a2 a3 k
 unfold spec_TermOk.f
 repeat' first
   | (with_reducible exact spec_l03Count.mono _ _ _ _ _ _)
   | (with_reducible exact spec_l03Right.mono _ _ _ _ _ _)
   | (with_reducible exact LeO.refl _)
   | (with_reducible exact LeO.none _)
   | (with_reducible refine LeO.ite ?_ ?_)
   | (with_reducible refine LeO.bind ?_ (fun _ => ?_))
   | exact spec_l03Count.mono _ _ _ _ _ _
   | exact spec_l03Right.mono _ _ _ _ _ _
   | exact LeO.none _
   | refine LeO.ite ?_ ?_
   | refine LeO.bind ?_ (fun _ => ?_)
set_option maxHeartbeats 8000000 in
set_option maxRecDepth 100000 in
theorem spec_TermOk.calls (k : Nat) (a0_0 : Int) (a0_1 : ByteArray) (a0_2 : Int) (A0_3 : Option Addr) (c0_3 : Nat) (l0_3 : List (S29)) (r : Bool) (w : World) (hr0_3 : Kd.C k29 w A0_3 l0_3.length l0_3) (hc0_3 : l0_3.length ≤ c0_3) (h : spec_TermOk.f k a0_0 a0_1 a0_2 l0_3 = some r) :
  Calls Try.prog 31 #[.agg #[.int .i64 a0_0,.string a0_1,.int .i64 a0_2,.slice A0_3 l0_3.length c0_3]] w fun e w' => e = .returned (.bool r) ∧ Below w.heap.size w w':=by
 have hu29:=Try.underlying29
 have HR0_3:=Aside0.mk hr0_3
 have HC0_3:=Aside0.mk hc0_3
 clear hr0_3 hc0_3
 have HB:=Aside0.mk (Below.refl w.heap.size w)
 have H : ((spec_l03Count.f k a0_0 a0_1 a0_2 l0_3 400).bind fun t173 => (if t173 ≥ 0 then ((spec_l03Right.f k a0_0 a0_1 a0_2 l0_3 1).bind fun t174 => (some t174)) else (some false))) = some r:=h
 clear h
 replace H:=Option.bind_eq_some_iff.mp H
 obtain ⟨t173,A20,H⟩:=H
 replace H : (if t173 ≥ 0 then ((spec_l03Right.f k a0_0 a0_1 a0_2 l0_3 1).bind fun t174 => (some t174)) else (some false)) = some r:=H
 have A2:=Aside0.mk A20
 clear A20
 by_cases c3 : t173 ≥ 0
 ·rw [if_pos c3] at H
  have c3b0 : decide (0 ≤ t173) = true:=decide_eq_true c3
  clear c3
  replace H:=Option.bind_eq_some_iff.mp H
  obtain ⟨t174,A40,H⟩:=H
  replace H : (some t174) = some r:=H
  have A4:=Aside0.mk A40
  clear A40
  obtain rfl:=Option.some.inj H
  go_enter Try.func31,Try.ntmps31
  go_wp2_with (first|((with_reducible refine gate_dst (N:=1) rfl ?_);refine box_event ?hg (N:=1) ?hd (cs:=#[.int .i64 a0_0,.string a0_1,.int .i64 a0_2,.slice A0_3 l0_3.length c0_3]) (t:=29) ?hr ?_;(case hd => rfl);(case hg => rfl);(case hr => first|(go_simp;done)|(go_simp;rfl));intro gb172 hg w5 hbox hb;have n0_:=Aside0.mk (below_step (by repeat (first|(with_reducible first|exact HB.out|apply below_alloc|apply pw_below_drewN|apply below_drew1)|exact HB.out)) hb);have n1_:=Aside0.mk (hbox);have n2_:=Aside0.mk ((by rw [hg];exact (below_size (by repeat (first|(with_reducible first|exact HB.out|apply below_alloc|apply pw_below_drewN|apply below_drew1)|exact HB.out))) : w.heap.size ≤ gb172));have n3_:=Aside0.mk ((by rw [hg];exact (below_size (by repeat (first|(with_reducible first|exact HB.out|apply below_alloc|apply pw_below_drewN|apply below_drew1)|exact HB.out))) : w.heap.size ≤ gb172));clear HB;have HB:=n0_;have BK172:=n1_;have GW172:=n2_;have GE172:=n3_;clear n0_ n1_ n2_ n3_;clear hb hbox hg;have hcz6_0 : w5.cell? ⟨gb172,0,none⟩ = some (.int .i64 a0_0):=(blk_cell BK172.out 0).trans rfl;have hcz6_1 : w5.cell? ⟨gb172,1,none⟩ = some (.string a0_1):=(blk_cell BK172.out 1).trans rfl;have hcz6_2 : w5.cell? ⟨gb172,2,none⟩ = some (.int .i64 a0_2):=(blk_cell BK172.out 2).trans rfl;have hcz6_3 : w5.cell? ⟨gb172,3,none⟩ = some (.slice A0_3 l0_3.length c0_3):=(blk_cell BK172.out 3).trans rfl;have hfz6_0:=blk_frozen BK172.out 0;have hfz6_1:=blk_frozen BK172.out 1;have hfz6_2:=blk_frozen BK172.out 2;have hfz6_3:=blk_frozen BK172.out 3)|((with_reducible refine gate_callee (f:=62) rfl ?_);refine goesL_ (some 4) rfl rfl Try.func62 (by kernel_rfl) rfl #[.agg #[.int .i64 a0_0,.string a0_1,.int .i64 a0_2,.slice A0_3 l0_3.length c0_3],.int .i64 400] rfl (by (try simp only [List.map_toArray,List.map_cons,List.map_nil]);first|done|rfl|(simp only [List.length_drop,List.length_take];rfl)) ?_;(with_reducible refine (spec_l03Count.calls k a0_0 a0_1 a0_2 _ _ l0_3 400 t173 _ ?side1 ?side2 A2.out).mono ?_);(case side1 => repeat (first|exact (Kd.C_below HR0_3.out HB.out)|(with_reducible refine Kd.C_alloc ?_ _)|(with_reducible refine Kd.C_drewN ?_ _)|(with_reducible refine Kd.C_drew ?_)));(case side2 => exact HC0_3.out);rintro e w7 ⟨rfl,hb⟩;refine ⟨_,rfl,?_⟩;have n0_:=Aside0.mk (blk_below (g:=gb172) (o:=.cells #[.int .i64 a0_0,.string a0_1,.int .i64 a0_2,.slice A0_3 l0_3.length c0_3] 29 (0,0)) (by (with_reducible repeat (first|refine blk_drewN ?_ _|refine blk_drew ?_|refine blk_alloc ?_ _));exact BK172.out) hb);have n1_:=Aside0.mk (below_step (by repeat (first|(with_reducible first|exact HB.out|apply below_alloc|apply pw_below_drewN|apply below_drew1|refine below_set ?_ GE172.out)|exact HB.out)) hb);clear BK172;clear HB;have BK172:=n0_;have HB:=n1_;clear n0_ n1_;(try clear hb);(try clear hb2);(try clear hk);(try clear hi);have hcz8_0 : w7.cell? ⟨gb172,0,none⟩ = some (.int .i64 a0_0):=(blk_cell BK172.out 0).trans rfl;have hcz8_1 : w7.cell? ⟨gb172,1,none⟩ = some (.string a0_1):=(blk_cell BK172.out 1).trans rfl;have hcz8_2 : w7.cell? ⟨gb172,2,none⟩ = some (.int .i64 a0_2):=(blk_cell BK172.out 2).trans rfl;have hcz8_3 : w7.cell? ⟨gb172,3,none⟩ = some (.slice A0_3 l0_3.length c0_3):=(blk_cell BK172.out 3).trans rfl;have hfz8_0:=blk_frozen BK172.out 0;have hfz8_1:=blk_frozen BK172.out 1;have hfz8_2:=blk_frozen BK172.out 2;have hfz8_3:=blk_frozen BK172.out 3)|(go_at_call 75;(with_reducible refine (spec_l03Right.calls k a0_0 a0_1 a0_2 _ _ l0_3 1 t174 _ ?side1 ?side2 A4.out).mono ?_);(case side1 => repeat (first|exact (Kd.C_below HR0_3.out HB.out)|(with_reducible refine Kd.C_alloc ?_ _)|(with_reducible refine Kd.C_drewN ?_ _)|(with_reducible refine Kd.C_drew ?_)));(case side2 => exact HC0_3.out);rintro e w9 ⟨rfl,hb⟩;have n0_:=Aside0.mk (blk_below (g:=gb172) (o:=.cells #[.int .i64 a0_0,.string a0_1,.int .i64 a0_2,.slice A0_3 l0_3.length c0_3] 29 (0,0)) (by (with_reducible repeat (first|refine blk_drewN ?_ _|refine blk_drew ?_|refine blk_alloc ?_ _));exact BK172.out) hb);have n1_:=Aside0.mk (below_step (by repeat (first|(with_reducible first|exact HB.out|apply below_alloc|apply pw_below_drewN|apply below_drew1|refine below_set ?_ GE172.out)|exact HB.out)) hb);clear BK172;clear HB;have BK172:=n0_;have HB:=n1_;clear n0_ n1_;(try clear hb)))
  go_ret
  exact ⟨by first|rfl|(simp [errW_none,errW_some] <;> rfl)|(simp [*,errW_none,errW_some] <;> rfl),by repeat (first|(with_reducible first|exact HB.out|apply below_alloc|apply pw_below_drewN|apply below_drew1|refine below_set ?_ GE172.out)|exact HB.out)⟩
 ·rw [if_neg c3] at H
  have c3b0 : decide (0 ≤ t173) = false:=decide_eq_false c3
  clear c3
  obtain rfl:=Option.some.inj H
  go_enter Try.func31,Try.ntmps31
  go_wp2_with (first|((with_reducible refine gate_dst (N:=1) rfl ?_);refine box_event ?hg (N:=1) ?hd (cs:=#[.int .i64 a0_0,.string a0_1,.int .i64 a0_2,.slice A0_3 l0_3.length c0_3]) (t:=29) ?hr ?_;(case hd => rfl);(case hg => rfl);(case hr => first|(go_simp;done)|(go_simp;rfl));intro gb172 hg w10 hbox hb;have n0_:=Aside0.mk (below_step (by repeat (first|(with_reducible first|exact HB.out|apply below_alloc|apply pw_below_drewN|apply below_drew1)|exact HB.out)) hb);have n1_:=Aside0.mk (hbox);have n2_:=Aside0.mk ((by rw [hg];exact (below_size (by repeat (first|(with_reducible first|exact HB.out|apply below_alloc|apply pw_below_drewN|apply below_drew1)|exact HB.out))) : w.heap.size ≤ gb172));have n3_:=Aside0.mk ((by rw [hg];exact (below_size (by repeat (first|(with_reducible first|exact HB.out|apply below_alloc|apply pw_below_drewN|apply below_drew1)|exact HB.out))) : w.heap.size ≤ gb172));clear HB;have HB:=n0_;have BK172:=n1_;have GW172:=n2_;have GE172:=n3_;clear n0_ n1_ n2_ n3_;clear hb hbox hg;have hcz11_0 : w10.cell? ⟨gb172,0,none⟩ = some (.int .i64 a0_0):=(blk_cell BK172.out 0).trans rfl;have hcz11_1 : w10.cell? ⟨gb172,1,none⟩ = some (.string a0_1):=(blk_cell BK172.out 1).trans rfl;have hcz11_2 : w10.cell? ⟨gb172,2,none⟩ = some (.int .i64 a0_2):=(blk_cell BK172.out 2).trans rfl;have hcz11_3 : w10.cell? ⟨gb172,3,none⟩ = some (.slice A0_3 l0_3.length c0_3):=(blk_cell BK172.out 3).trans rfl;have hfz11_0:=blk_frozen BK172.out 0;have hfz11_1:=blk_frozen BK172.out 1;have hfz11_2:=blk_frozen BK172.out 2;have hfz11_3:=blk_frozen BK172.out 3)|((with_reducible refine gate_callee (f:=62) rfl ?_);refine goesL_ (some 4) rfl rfl Try.func62 (by kernel_rfl) rfl #[.agg #[.int .i64 a0_0,.string a0_1,.int .i64 a0_2,.slice A0_3 l0_3.length c0_3],.int .i64 400] rfl (by (try simp only [List.map_toArray,List.map_cons,List.map_nil]);first|done|rfl|(simp only [List.length_drop,List.length_take];rfl)) ?_;(with_reducible refine (spec_l03Count.calls k a0_0 a0_1 a0_2 _ _ l0_3 400 t173 _ ?side1 ?side2 A2.out).mono ?_);(case side1 => repeat (first|exact (Kd.C_below HR0_3.out HB.out)|(with_reducible refine Kd.C_alloc ?_ _)|(with_reducible refine Kd.C_drewN ?_ _)|(with_reducible refine Kd.C_drew ?_)));(case side2 => exact HC0_3.out);rintro e w12 ⟨rfl,hb⟩;refine ⟨_,rfl,?_⟩;have n0_:=Aside0.mk (blk_below (g:=gb172) (o:=.cells #[.int .i64 a0_0,.string a0_1,.int .i64 a0_2,.slice A0_3 l0_3.length c0_3] 29 (0,0)) (by (with_reducible repeat (first|refine blk_drewN ?_ _|refine blk_drew ?_|refine blk_alloc ?_ _));exact BK172.out) hb);have n1_:=Aside0.mk (below_step (by repeat (first|(with_reducible first|exact HB.out|apply below_alloc|apply pw_below_drewN|apply below_drew1|refine below_set ?_ GE172.out)|exact HB.out)) hb);clear BK172;clear HB;have BK172:=n0_;have HB:=n1_;clear n0_ n1_;(try clear hb)))
  go_ret
  exact ⟨by first|rfl|(simp [errW_none,errW_some] <;> rfl)|(simp [*,errW_none,errW_some] <;> rfl),by repeat (first|(with_reducible first|exact HB.out|apply below_alloc|apply pw_below_drewN|apply below_drew1|refine below_set ?_ GE172.out)|exact HB.out)⟩

end Go.Proofs.Ytojedbogbodkiaa.KSh
