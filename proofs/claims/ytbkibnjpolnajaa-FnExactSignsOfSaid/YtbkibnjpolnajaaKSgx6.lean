/- Contracts of functions of the program and of the reference, each a Lean function and the proof that Go comes to its answer. Written by wip/pp/pp.py out of the kit's print, for this claim; nothing of it is trusted: Lean checks it. -/
import Derived.Test.YtbkibnjpolnajaaKSgx0
import Derived.Test.YtbkibnjpolnajaaKSgx5
namespace Go.Proofs.Ytbkibnjpolnajaa.KSg
open Go.RowKit Go.Proofs.YtbkibnjpolnajaaW.PrintWords Go.Proofs.YtbkibnjpolnajaaW.PrintLast Go.Proofs.YtbkibnjpolnajaaW.PrintMore
attribute [local go_sem] max2_int min2_int max_two min_two max_three min_three max_four min_four   -- for this text's walks alone
set_option linter.unusedVariables false
set_option linter.unusedSimpArgs false

set_option linter.unusedSectionVars false
variable [fk_impl_run] [fk_strings_IndexByte] [fk_spec_SymbolByte]
/-! ### impl_SignsOf: function 32 -/
mutual
def impl_SignsOf.l0 : Nat → ByteArray → List (S46) → Int → Option ((List (S46)) × Bool)
 | 0,_,_,_ => none
 | k + 1,x0,x4,x5 => if x5 < (x0.size : Int) then (if 0 ≤ x5 then (if (bt x0 x5) = 32 then (impl_SignsOf.j1 k x0 x4 x5 (bt x0 x5) ((bt x0 x5) == 32)) else (if (bt x0 x5) = 9 then (impl_SignsOf.j1 k x0 x4 x5 (bt x0 x5) ((bt x0 x5) == 9)) else (impl_SignsOf.j1 k x0 x4 x5 (bt x0 x5) ((bt x0 x5) == 10)))) else (none)) else (some (x4,true))
def impl_SignsOf.j1 : Nat → ByteArray → List (S46) → Int → Int → Bool → Option ((List (S46)) × Bool)
 | 0,_,_,_,_,_ => none
 | k + 1,x0,x4,x5,x17,x18 => if x18 = true then (impl_SignsOf.l0 k x0 x4 (wrap64 (x5 + 1))) else (if x17 = 37 then ((fk_impl_run.f k x0 x5 56).bind fun t160 => (impl_SignsOf.l0 k x0 x4 t160)) else ((impl_nextSign.f k x0 x5).bind fun bt161 => (if bt161.2.2.2.2.2 < (x0.size : Int) then (if 0 ≤ bt161.2.2.2.2.2 then (if x4.length < 2932031007402 then (impl_SignsOf.l0 k x0 (x4 ++ [(⟨bt161.1,bt161.2.1,bt161.2.2.1,bt161.2.2.2.1,((bt x0 bt161.2.2.2.2.2) == 40)⟩ : S46)]) bt161.2.2.2.2.2) else (none)) else (none)) else (if x4.length < 2932031007402 then (impl_SignsOf.l0 k x0 (x4 ++ [(⟨bt161.1,bt161.2.1,bt161.2.2.1,bt161.2.2.2.1,false⟩ : S46)]) bt161.2.2.2.2.2) else (none)))))
end
def impl_SignsOf.f (k : Nat) (a0 : ByteArray) : Option ((List (S46)) × Bool):=if (a0.size : Int) > 3000 then (some (([] : List (S46)),false)) else (impl_SignsOf.l0 k a0 ([] : List (S46)) 0)
theorem impl_SignsOf.mono_l : ∀ k,(∀ y0 y1 y2,LeO (impl_SignsOf.l0 k y0 y1 y2) (impl_SignsOf.l0 (k + 1) y0 y1 y2)) ∧ (∀ y0 y1 y2 y3 y4,LeO (impl_SignsOf.j1 k y0 y1 y2 y3 y4) (impl_SignsOf.j1 (k + 1) y0 y1 y2 y3 y4))
 | 0 => ⟨fun _ _ _ r h => by simp [impl_SignsOf.l0] at h,fun _ _ _ _ _ r h => by simp [impl_SignsOf.j1] at h⟩
 | k + 1 => by
  obtain ⟨ih0,ih1⟩:=impl_SignsOf.mono_l k
  refine ⟨?_,?_⟩
  ·intro y0 y1 y2
   unfold impl_SignsOf.l0
   repeat' first
   | (with_reducible exact ih0 _ _ _)
   | (with_reducible exact ih1 _ _ _ _ _)
   | (with_reducible exact fk_impl_run.mono _ _ _ _)
   | (with_reducible exact impl_nextSign.mono _ _ _)
   | (with_reducible exact LeO.refl _)
   | (with_reducible exact LeO.none _)
   | (with_reducible refine LeO.ite ?_ ?_)
   | (with_reducible refine LeO.bind ?_ (fun _ => ?_))
   | exact ih0 _ _ _
   | exact ih1 _ _ _ _ _
   | exact fk_impl_run.mono _ _ _ _
   | exact impl_nextSign.mono _ _ _
   | exact LeO.none _
   | refine LeO.ite ?_ ?_
   | refine LeO.bind ?_ (fun _ => ?_)
  ·intro y0 y1 y2 y3 y4
   unfold impl_SignsOf.j1
   repeat' first
   | (with_reducible exact ih0 _ _ _)
   | (with_reducible exact ih1 _ _ _ _ _)
   | (with_reducible exact fk_impl_run.mono _ _ _ _)
   | (with_reducible exact impl_nextSign.mono _ _ _)
   | (with_reducible exact LeO.refl _)
   | (with_reducible exact LeO.none _)
   | (with_reducible refine LeO.ite ?_ ?_)
   | (with_reducible refine LeO.bind ?_ (fun _ => ?_))
   | exact ih0 _ _ _
   | exact ih1 _ _ _ _ _
   | exact fk_impl_run.mono _ _ _ _
   | exact impl_nextSign.mono _ _ _
   | exact LeO.none _
   | refine LeO.ite ?_ ?_
   | refine LeO.bind ?_ (fun _ => ?_)
theorem impl_SignsOf.mono : ∀ a0 k,LeO (impl_SignsOf.f k a0) (impl_SignsOf.f (k + 1) a0):=by
 intro a0 k
 obtain ⟨ih0,ih1⟩:=impl_SignsOf.mono_l k
 unfold impl_SignsOf.f
 repeat' first
   | (with_reducible exact ih0 _ _ _)
   | (with_reducible exact ih1 _ _ _ _ _)
   | (with_reducible exact fk_impl_run.mono _ _ _ _)
   | (with_reducible exact impl_nextSign.mono _ _ _)
   | (with_reducible exact LeO.refl _)
   | (with_reducible exact LeO.none _)
   | (with_reducible refine LeO.ite ?_ ?_)
   | (with_reducible refine LeO.bind ?_ (fun _ => ?_))
   | exact ih0 _ _ _
   | exact ih1 _ _ _ _ _
   | exact fk_impl_run.mono _ _ _ _
   | exact impl_nextSign.mono _ _ _
   | exact LeO.none _
   | refine LeO.ite ?_ ?_
   | refine LeO.bind ?_ (fun _ => ?_)
set_option maxHeartbeats 8000000 in
set_option maxRecDepth 100000 in
theorem impl_SignsOf.calls (k : Nat) (a0 : ByteArray) (r1 : List (S46)) (r2 : Bool) (w : World) (h : impl_SignsOf.f k a0 = some (r1,r2)) :
  Calls Try.prog 32 #[.string a0] w fun e w' => ∃ v0_ : Value,e = .returned (.tuple #[v0_,.bool r2]) ∧ Kd.R k46 46 w' w.heap.size (fun _ => True) v0_ r1 ∧ Below w.heap.size w w':=by
 have hu46:=Try.underlying46
 have HB:=Aside0.mk (Below.refl w.heap.size w)
 have H : (if (a0.size : Int) > 3000 then (some (([] : List (S46)),false)) else (impl_SignsOf.l0 k a0 ([] : List (S46)) 0)) = some (r1,r2):=h
 clear h
 by_cases c2 : (a0.size : Int) > 3000
 ·rw [if_pos c2] at H
  have c2b0 : decide (3000 < (a0.size : Int)) = true:=decide_eq_true c2
  have c2b1 : decide (3000 < a0.size) = true:=decide_eq_true (by omega)
  clear c2
  simp only [Option.some.injEq,Prod.mk.injEq] at H
  obtain ⟨rfl,rfl⟩:=H
  go_enter Try.func32,Try.ntmps32
  go_wp2
  go_ret2
  exact ⟨_,by first|rfl|(simp [errW_none,errW_some] <;> rfl)|(simp [*,errW_none,errW_some] <;> rfl),by first|exact Kd.R_nil _ _ _ _ _|exact Kd.N_nil _ _ _ _ _|exact Kd.V_nil _ _ _ _ _|exact Kd.Q_nil _ _ _ _ _|exact Kd.S_nil _ _ _ _ _,by repeat (first|(with_reducible first|exact HB.out|apply below_alloc|apply pw_below_drewN|apply below_drew1)|exact HB.out)⟩
 ·rw [if_neg c2] at H
  have c2b0 : decide (3000 < (a0.size : Int)) = false:=decide_eq_false c2
  have c2b1 : decide (3000 < a0.size) = false:=decide_eq_false (by omega)
  clear c2
  have H':=Aside0.mk H
  clear H
  go_enter Try.func32,Try.ntmps32
  go_wp2
  go_loopg [4,5] k (fun kq v4 v5 w' => ∃ (x4_1 : List (S46)) (x5_1 : Int),v5 = .int .i64 x5_1 ∧ Aside0 (impl_SignsOf.l0 kq a0 x4_1 x5_1 = some (r1,r2)) ∧ Aside0 (kq ≤ k) ∧ Aside0 (Kd.R k46 46 w' w.heap.size (fun _ => True) v4 x4_1) ∧ Aside0 (Below w.heap.size w w'))
  case atStart => exact ⟨(([] : List (S46))),(0),(by first|rfl|(simp;done)|(simp [*];done)),H',⟨Nat.le_refl _⟩,⟨by first|exact Kd.R_nil _ _ _ _ _|exact Kd.N_nil _ _ _ _ _|exact Kd.V_nil _ _ _ _ _|exact Kd.Q_nil _ _ _ _ _|exact Kd.S_nil _ _ _ _ _⟩,⟨by repeat (first|(with_reducible first|exact HB.out|apply below_alloc|apply pw_below_drewN|apply below_drew1)|exact HB.out)⟩⟩
  case round =>
   clear H'
   try clear c2
   try clear c2b0
   try clear c2b1
   obtain ⟨x4_1,x5_1,rfl,HA,HK1,HO_4,HB⟩:=hrel
   cases gk with
   | zero => exact absurd HA.out (by simp [impl_SignsOf.l0])
   | succ k1 =>
    have H:=HA.out
    clear HA
    simp only [impl_SignsOf.l0] at H
    by_cases c3 : x5_1 < (a0.size : Int)
    ·rw [if_pos c3] at H
     have c3b0 : decide (x5_1 < (a0.size : Int)) = true:=decide_eq_true c3
     clear c3
     by_cases c4 : 0 ≤ x5_1
     rotate_left
     ·rw [if_neg c4] at H
      exact absurd H (by simp)
     rw [if_pos c4] at H
     have c4b0 : decide (0 ≤ x5_1) = true:=decide_eq_true c4
     clear c4
     have HC6:=Aside0.mk H
     clear H
     have p5 : 0 ≤ (x5_1 : Int):=of_decide_eq_true (by first|(with_reducible assumption)|assumption)
     have q5 : x5_1 < (a0.size : Int):=of_decide_eq_true (by first|(with_reducible assumption)|assumption)
     have hx5:=bt_at a0 x5_1
     replace p5:=eq_true p5
     replace q5:=eq_true q5
     go_upto_if 18 with (fail)
     go_cut [18] (fun v18 wc => ∃ (kq : Nat) (x18_5 : Bool),v18 = .bool x18_5 ∧ Aside0 (impl_SignsOf.j1 kq a0 x4_1 x5_1 (bt a0 x5_1) x18_5 = some (r1,r2)) ∧ Aside0 (kq ≤ k1) ∧ Aside0 (Kd.R k46 46 wc w.heap.size (fun _ => True) u4 x4_1) ∧ Aside0 (Below w.heap.size w wc))
     case first =>
      have H:=HC6.out
      clear HC6
      by_cases c7 : (bt a0 x5_1) = 32
      ·rw [if_pos c7] at H
       have c7b0 : ((bt a0 x5_1) == 32) = true:=beq_iff_eq.mpr c7
       have c7b1 : ((bt a0 x5_1) != 32) = false:=bne_eq_false_iff_eq.mpr c7
       clear c7
       (first|rw [c7b0]|(simp only [i64_w,i32_w];rw [c7b0])|skip)
       have H':=Aside0.mk H
       clear H
       go_wp2
       go_meet
       case rel => exact ⟨_,(((bt a0 x5_1) == 32)),(by first|rfl|(simp;done)|(simp [*];done)),H',⟨by have:=HK1.out;first|omega|exact Nat.le_refl _⟩,⟨by (with_reducible repeat (first|apply Kd.R_alloc|apply Kd.R_drewN|apply Kd.R_drew));exact HO_4.out⟩,⟨by repeat (first|(with_reducible first|exact HB.out|apply below_alloc|apply pw_below_drewN|apply below_drew1)|exact HB.out)⟩⟩
      ·rw [if_neg c7] at H
       have c7b0 : ((bt a0 x5_1) == 32) = false:=beq_eq_false_iff_ne.mpr c7
       have c7b1 : ((bt a0 x5_1) != 32) = true:=bne_iff_ne.mpr c7
       (first|rw [c7b0]|(simp only [i64_w,i32_w];rw [c7b0])|skip)
       by_cases c8 : (bt a0 x5_1) = 9
       ·rw [if_pos c8] at H
        have c8b0 : ((bt a0 x5_1) == 9) = true:=beq_iff_eq.mpr c8
        have c8b1 : ((bt a0 x5_1) != 9) = false:=bne_eq_false_iff_eq.mpr c8
        clear c8
        have H':=Aside0.mk H
        clear H
        go_wp2
        go_meet
        case rel => exact ⟨_,(((bt a0 x5_1) == 9)),(by first|rfl|(simp;done)|(simp [*];done)),H',⟨by have:=HK1.out;first|omega|exact Nat.le_refl _⟩,⟨by (with_reducible repeat (first|apply Kd.R_alloc|apply Kd.R_drewN|apply Kd.R_drew));exact HO_4.out⟩,⟨by repeat (first|(with_reducible first|exact HB.out|apply below_alloc|apply pw_below_drewN|apply below_drew1)|exact HB.out)⟩⟩
       ·rw [if_neg c8] at H
        have c8b0 : ((bt a0 x5_1) == 9) = false:=beq_eq_false_iff_ne.mpr c8
        have c8b1 : ((bt a0 x5_1) != 9) = true:=bne_iff_ne.mpr c8
        have H':=Aside0.mk H
        clear H
        go_wp2
        go_meet
        case rel => exact ⟨_,(((bt a0 x5_1) == 10)),(by first|rfl|(simp;done)|(simp [*];done)),H',⟨by have:=HK1.out;first|omega|exact Nat.le_refl _⟩,⟨by (with_reducible repeat (first|apply Kd.R_alloc|apply Kd.R_drewN|apply Kd.R_drew));exact HO_4.out⟩,⟨by repeat (first|(with_reducible first|exact HB.out|apply below_alloc|apply pw_below_drewN|apply below_drew1)|exact HB.out)⟩⟩
     case rest =>
      clear HC6
      try clear c2
      try clear c2b0
      try clear c2b1
      try clear c3
      try clear c3b0
      try clear c4
      try clear c4b0
      try clear p5
      try clear q5
      try clear hx5
      try clear c7
      try clear c7b0
      try clear c7b1
      try clear c8
      try clear c8b0
      try clear c8b1
      try clear p5
      try clear q5
      obtain ⟨kq,x18_5,rfl,HA,HJ5,HO_4,HB⟩:=hcut
      cases kq with
      | zero => exact absurd HA.out (by simp [impl_SignsOf.j1])
      | succ kj5 =>
       have H:=HA.out
       clear HA
       simp only [impl_SignsOf.j1] at H
       by_cases c9 : x18_5 = true
       ·subst c9
        have H1 : (impl_SignsOf.l0 kj5 a0 x4_1 (wrap64 (x5_1 + 1))) = some (r1,r2):=by rw [if_pos rfl] at H;exact H
        clear H
        have H:=H1
        clear H1
        have H':=Aside0.mk H
        clear H
        go_wp2
        go_roundg kj5
        case measure => have:=HK1.out;have:=HJ5.out;omega
        case rel => exact ⟨(x4_1),(wrap64 (x5_1 + 1)),(by first|rfl|(simp;done)|(simp [*];done)),H',⟨by have:=HK1.out;have:=HJ5.out;omega⟩,⟨by (with_reducible repeat (first|apply Kd.R_alloc|apply Kd.R_drewN|apply Kd.R_drew));exact HO_4.out⟩,⟨by repeat (first|(with_reducible first|exact HB.out|apply below_alloc|apply pw_below_drewN|apply below_drew1)|exact HB.out)⟩⟩
       ·replace c9:=Bool.eq_false_iff.mpr c9
        subst c9
        have H1 : (if (bt a0 x5_1) = 37 then ((fk_impl_run.f kj5 a0 x5_1 56).bind fun t160 => (impl_SignsOf.l0 kj5 a0 x4_1 t160)) else ((impl_nextSign.f kj5 a0 x5_1).bind fun bt161 => (if bt161.2.2.2.2.2 < (a0.size : Int) then (if 0 ≤ bt161.2.2.2.2.2 then (if x4_1.length < 2932031007402 then (impl_SignsOf.l0 kj5 a0 (x4_1 ++ [(⟨bt161.1,bt161.2.1,bt161.2.2.1,bt161.2.2.2.1,((bt a0 bt161.2.2.2.2.2) == 40)⟩ : S46)]) bt161.2.2.2.2.2) else (none)) else (none)) else (if x4_1.length < 2932031007402 then (impl_SignsOf.l0 kj5 a0 (x4_1 ++ [(⟨bt161.1,bt161.2.1,bt161.2.2.1,bt161.2.2.2.1,false⟩ : S46)]) bt161.2.2.2.2.2) else (none))))) = some (r1,r2):=by rw [if_neg (show ¬ (false = true) by decide)] at H;exact H
        clear H
        have H:=H1
        clear H1
        by_cases c10 : (bt a0 x5_1) = 37
        ·rw [if_pos c10] at H
         have c10b0 : ((bt a0 x5_1) == 37) = true:=beq_iff_eq.mpr c10
         have c10b1 : ((bt a0 x5_1) != 37) = false:=bne_eq_false_iff_eq.mpr c10
         clear c10
         replace H:=Option.bind_eq_some_iff.mp H
         obtain ⟨t160,A110,H⟩:=H
         replace H : (impl_SignsOf.l0 kj5 a0 x4_1 t160) = some (r1,r2):=H
         have A11:=Aside0.mk A110
         clear A110
         have H':=Aside0.mk H
         clear H
         go_wp2_with (first|((with_reducible refine gate_callee (f:=55) rfl ?_);refine goesL_ (some 28) rfl rfl Try.func55 (by kernel_rfl) rfl #[.string a0,.int .i64 x5_1,.func (.func 56) #[] #[]] rfl (by (try simp only [List.map_toArray,List.map_cons,List.map_nil]);first|done|rfl|(simp only [List.length_drop,List.length_take];rfl)) ?_;(with_reducible refine (fk_impl_run.calls_56 kj5 a0 x5_1 t160 _ A11.out).mono ?_);rintro e w12 ⟨rfl,hb⟩;refine ⟨_,rfl,?_⟩;have n0_:=Aside0.mk (Kd.R_below (by (with_reducible repeat (first|apply Kd.R_alloc|apply Kd.R_drewN|apply Kd.R_drew));exact HO_4.out) hb);have n1_:=Aside0.mk (below_step (by repeat (first|(with_reducible first|exact HB.out|apply below_alloc|apply pw_below_drewN|apply below_drew1)|exact HB.out)) hb);clear HO_4;clear HB;have HO_4:=n0_;have HB:=n1_;clear n0_ n1_;(try clear hb);(try clear hb2);(try clear hk);(try clear hi)))
         go_roundg kj5
         case measure => have:=HK1.out;have:=HJ5.out;omega
         case rel => exact ⟨(x4_1),(t160),(by first|rfl|(simp;done)|(simp [*];done)),H',⟨by have:=HK1.out;have:=HJ5.out;omega⟩,⟨by (with_reducible repeat (first|apply Kd.R_alloc|apply Kd.R_drewN|apply Kd.R_drew));exact HO_4.out⟩,⟨by repeat (first|(with_reducible first|exact HB.out|apply below_alloc|apply pw_below_drewN|apply below_drew1)|exact HB.out)⟩⟩
        ·rw [if_neg c10] at H
         have c10b0 : ((bt a0 x5_1) == 37) = false:=beq_eq_false_iff_ne.mpr c10
         have c10b1 : ((bt a0 x5_1) != 37) = true:=bne_iff_ne.mpr c10
         replace H:=Option.bind_eq_some_iff.mp H
         obtain ⟨⟨t161,t162,t163,t164,t165,t166⟩,A130,H⟩:=H
         replace H : (if t166 < (a0.size : Int) then (if 0 ≤ t166 then (if x4_1.length < 2932031007402 then (impl_SignsOf.l0 kj5 a0 (x4_1 ++ [(⟨t161,t162,t163,t164,((bt a0 t166) == 40)⟩ : S46)]) t166) else (none)) else (none)) else (if x4_1.length < 2932031007402 then (impl_SignsOf.l0 kj5 a0 (x4_1 ++ [(⟨t161,t162,t163,t164,false⟩ : S46)]) t166) else (none))) = some (r1,r2):=H
         have A13:=Aside0.mk A130
         clear A130
         by_cases c14 : t166 < (a0.size : Int)
         ·rw [if_pos c14] at H
          have c14b0 : decide (t166 < (a0.size : Int)) = true:=decide_eq_true c14
          clear c14
          by_cases c15 : 0 ≤ t166
          rotate_left
          ·rw [if_neg c15] at H
           exact absurd H (by simp)
          rw [if_pos c15] at H
          have c15b0 : decide (0 ≤ t166) = true:=decide_eq_true c15
          clear c15
          by_cases c17 : x4_1.length < 2932031007402
          rotate_left
          ·rw [if_neg c17] at H
           exact absurd H (by simp)
          rw [if_pos c17] at H
          have LMc17:=Aside0.mk c17
          clear c17
          obtain ⟨y168,hy168⟩ : ∃ y_ : List (S46),y_ = (x4_1 ++ [(⟨t161,t162,t163,t164,((bt a0 t166) == 40)⟩ : S46)]):=⟨_,rfl⟩
          replace H : (impl_SignsOf.l0 kj5 a0 y168 t166) = some (r1,r2):=by first|(rw [hy168];with_reducible exact H)|(have H2_:=(Option.bind_some _ _).symm.trans H;rw [hy168];with_reducible exact H2_)|(have H2_:=(Option.bind_some _ _).symm.trans H;with_reducible exact H2_)|with_reducible exact H|(rw [hy168];exact H)|exact H
          have Ny168:=Aside0.mk hy168
          clear hy168
          have H':=Aside0.mk H
          clear H
          go_upto_region 15 with (first|((with_reducible refine gate_callee (f:=57) rfl ?_);refine goesL_ (some 32) rfl rfl Try.func57 (by kernel_rfl) rfl #[.string a0,.int .i64 x5_1] rfl (by (try simp only [List.map_toArray,List.map_cons,List.map_nil]);first|done|rfl|(simp only [List.length_drop,List.length_take];rfl)) ?_;(with_reducible refine (impl_nextSign.calls kj5 a0 x5_1 t161 t162 t163 t164 t165 t166 _ A13.out).mono ?_);rintro e w18 ⟨rfl,hb⟩;refine ⟨_,rfl,?_⟩;have n0_:=Aside0.mk (Kd.R_below (by (with_reducible repeat (first|apply Kd.R_alloc|apply Kd.R_drewN|apply Kd.R_drew));exact HO_4.out) hb);have n1_:=Aside0.mk (below_step (by repeat (first|(with_reducible first|exact HB.out|apply below_alloc|apply pw_below_drewN|apply below_drew1)|exact HB.out)) hb);clear HO_4;clear HB;have HO_4:=n0_;have HB:=n1_;clear n0_ n1_;(try clear hb);(try clear hb2);(try clear hk);(try clear hi))|((with_reducible refine gate_dst (N:=6) rfl ?_);refine box_event ?hg (N:=6) ?hd (cs:=#[.int .i64 0,.string (⟨#[]⟩ : ByteArray),.int .i64 0,.int .i64 0,.bool false]) (t:=46) ?hr ?_;(case hd => rfl);(case hg => rfl);(case hr => first|(go_simp;done)|(go_simp;rfl));intro gb167 hg w19 hbox hb;have n0_:=Aside0.mk (Kd.R_below (Kd.R_elderB (by (with_reducible repeat (first|apply Kd.R_alloc|apply Kd.R_drewN|apply Kd.R_drew));exact HO_4.out) gb167 (Nat.le_of_eq hg.symm)) hb);have n1_:=Aside0.mk (below_step (by repeat (first|(with_reducible first|exact HB.out|apply below_alloc|apply pw_below_drewN|apply below_drew1)|exact HB.out)) hb);have n2_:=Aside0.mk (hbox);have n3_:=Aside0.mk ((by rw [hg];exact (below_size (by repeat (first|(with_reducible first|exact HB.out|apply below_alloc|apply pw_below_drewN|apply below_drew1)|exact HB.out))) : w.heap.size ≤ gb167));have n4_:=Aside0.mk ((by rw [hg];exact (below_size (by repeat (first|(with_reducible first|exact HB.out|apply below_alloc|apply pw_below_drewN|apply below_drew1)|exact HB.out))) : w.heap.size ≤ gb167));clear HO_4;clear HB;have HO_4:=n0_;have HB:=n1_;have BK167:=n2_;have GW167:=n3_;have GE167:=n4_;clear n0_ n1_ n2_ n3_ n4_;clear hb hbox hg;have hcz20_0 : w19.cell? ⟨gb167,0,none⟩ = some (.int .i64 0):=(blk_cell BK167.out 0).trans rfl;have hcz20_1 : w19.cell? ⟨gb167,1,none⟩ = some (.string (⟨#[]⟩ : ByteArray)):=(blk_cell BK167.out 1).trans rfl;have hcz20_2 : w19.cell? ⟨gb167,2,none⟩ = some (.int .i64 0):=(blk_cell BK167.out 2).trans rfl;have hcz20_3 : w19.cell? ⟨gb167,3,none⟩ = some (.int .i64 0):=(blk_cell BK167.out 3).trans rfl;have hcz20_4 : w19.cell? ⟨gb167,4,none⟩ = some (.bool false):=(blk_cell BK167.out 4).trans rfl;have hfz20_0:=blk_frozen BK167.out 0;have hfz20_1:=blk_frozen BK167.out 1;have hfz20_2:=blk_frozen BK167.out 2;have hfz20_3:=blk_frozen BK167.out 3;have hfz20_4:=blk_frozen BK167.out 4;have p16 : 0 ≤ (t166 : Int):=of_decide_eq_true (by first|(with_reducible assumption)|assumption);have q16 : t166 < (a0.size : Int):=of_decide_eq_true (by first|(with_reducible assumption)|assumption);have hx16:=bt_at a0 t166;replace p16:=eq_true p16;replace q16:=eq_true q16))
          generalize hW_ : World.setCell _ _ _ = w901
          have n0_ : Aside0 (w901.heap[gb167]? = some (.cells #[.int .i64 t161,.string t162,.int .i64 t163,.int .i64 t164,.bool ((bt a0 t166) == 40)] 46 (0,0))):=⟨by rw [← hW_];exact (by (with_reducible repeat (first|refine blk_drewN ?_ _|refine blk_drew ?_|refine blk_alloc ?_ _));refine blk_put (cs:=#[.int .i64 t161,.string t162,.int .i64 t163,.int .i64 t164,.bool t165]) ?_ 4 _ rfl;(with_reducible repeat (first|refine blk_drewN ?_ _|refine blk_drew ?_|refine blk_alloc ?_ _));refine blk_put (cs:=#[.int .i64 t161,.string t162,.int .i64 t163,.int .i64 t164,.bool false]) ?_ 4 _ rfl;(with_reducible repeat (first|refine blk_drewN ?_ _|refine blk_drew ?_|refine blk_alloc ?_ _));refine blk_put (cs:=#[.int .i64 t161,.string t162,.int .i64 t163,.int .i64 0,.bool false]) ?_ 3 _ rfl;(with_reducible repeat (first|refine blk_drewN ?_ _|refine blk_drew ?_|refine blk_alloc ?_ _));refine blk_put (cs:=#[.int .i64 t161,.string t162,.int .i64 0,.int .i64 0,.bool false]) ?_ 2 _ rfl;(with_reducible repeat (first|refine blk_drewN ?_ _|refine blk_drew ?_|refine blk_alloc ?_ _));refine blk_put (cs:=#[.int .i64 t161,.string (⟨#[]⟩ : ByteArray),.int .i64 0,.int .i64 0,.bool false]) ?_ 1 _ rfl;(with_reducible repeat (first|refine blk_drewN ?_ _|refine blk_drew ?_|refine blk_alloc ?_ _));refine blk_put (cs:=#[.int .i64 0,.string (⟨#[]⟩ : ByteArray),.int .i64 0,.int .i64 0,.bool false]) ?_ 0 _ rfl;(with_reducible repeat (first|refine blk_drewN ?_ _|refine blk_drew ?_|refine blk_alloc ?_ _));exact BK167.out)⟩
          have n1_ : Aside0 (Below w.heap.size w w901):=⟨by rw [← hW_];exact (by repeat (first|(with_reducible first|exact HB.out|apply below_alloc|apply pw_below_drewN|apply below_drew1|refine below_set ?_ GE167.out)|exact HB.out))⟩
          have n2_ : Aside0 (Kd.R k46 46 w901 w.heap.size (fun k_ => k_ ≠ gb167) u4 x4_1):=⟨by rw [← hW_];exact (by (with_reducible repeat (first|apply Kd.R_alloc|apply Kd.R_drewN|apply Kd.R_drew));exact Kd.R_mono (Kd.R_far (p:=⟨gb167,4,none⟩) (Kd.R_far (p:=⟨gb167,4,none⟩) (Kd.R_far (p:=⟨gb167,3,none⟩) (Kd.R_far (p:=⟨gb167,2,none⟩) (Kd.R_far (p:=⟨gb167,1,none⟩) (Kd.R_far (p:=⟨gb167,0,none⟩) (Kd.R_mono HO_4.out (fun k_ hk => (⟨hk,hk.2⟩ : _ ∧ k_ ≠ gb167))) (fun _ hk => hk.2) (.int .i64 t161)) (fun _ hk => hk.2) (.string t162)) (fun _ hk => hk.2) (.int .i64 t163)) (fun _ hk => hk.2) (.int .i64 t164)) (fun _ hk => hk.2) (.bool t165)) (fun _ hk => hk.2) (.bool ((bt a0 t166) == 40))) (fun _ hk => hk.1.2))⟩
          clear hW_ BK167 HB HO_4
          have BK167:=n0_
          have HB:=n1_
          have HO_4:=n2_
          clear n0_ n1_ n2_
          have hsz_0 : w901.cell? ⟨gb167,0,none⟩ = some (.int .i64 t161):=(blk_cell BK167.out 0).trans rfl
          have hsz_1 : w901.cell? ⟨gb167,1,none⟩ = some (.string t162):=(blk_cell BK167.out 1).trans rfl
          have hsz_2 : w901.cell? ⟨gb167,2,none⟩ = some (.int .i64 t163):=(blk_cell BK167.out 2).trans rfl
          have hsz_3 : w901.cell? ⟨gb167,3,none⟩ = some (.int .i64 t164):=(blk_cell BK167.out 3).trans rfl
          have hsz_4 : w901.cell? ⟨gb167,4,none⟩ = some (.bool ((bt a0 t166) == 40)):=(blk_cell BK167.out 4).trans rfl
          have hsf_0:=blk_frozen BK167.out 0
          have hsf_1:=blk_frozen BK167.out 1
          have hsf_2:=blk_frozen BK167.out 2
          have hsf_3:=blk_frozen BK167.out 3
          have hsf_4:=blk_frozen BK167.out 4
          go_wp2_with (first|((with_reducible refine gate_builtin (b:=.append) (xs:=#[.tmp 46,.tmp 48]) rfl ?_);at_builtin;refine Kd.R_append k46 (w0:=w) w.heap.size rfl (.tmp 46) (.tmp 48) 39 46 (.agg #[(.int .i64 0),(.string ⟨#[]⟩),(.int .i64 0),(.int .i64 0),(.bool false)]) 48 rfl Try.underlying39 info46 rfl (by decide) (by omega) u4 x4_1 (⟨t161,t162,t163,t164,((bt a0 t166) == 40)⟩ : S46) [.int .i64 t161,.string t162,.int .i64 t163,.int .i64 t164,.bool ((bt a0 t166) == 40)] (fun k_ => k_ ≠ gb167) (fun _ => False) rfl (by first|(go_simp;done)|(go_simp;rfl)) ?aP (fun _ hk => hk.elim) ?aF ?aO ?aB ?aS ?aL ?_;(case aP => exact k46_mkM _ _ _ (⟨t161,t162,t163,t164,((bt a0 t166) == 40)⟩ : S46));(case aB => exact (by repeat (first|(with_reducible first|exact HB.out|apply below_alloc|apply pw_below_drewN|apply below_drew1|refine below_set ?_ GE167.out)|exact HB.out)));(case aF => exact (fun k_ hk => Kd.freshB (g:=gb167) (o:=.cells #[.int .i64 t161,.string t162,.int .i64 t163,.int .i64 t164,.bool ((bt a0 t166) == 40)] 46 (0,0)) (by (with_reducible repeat (first|refine blk_drewN ?_ _|refine blk_drew ?_|refine blk_alloc ?_ _));exact BK167.out) k_ hk));(case aO => exact (by (with_reducible repeat (first|apply Kd.R_alloc|apply Kd.R_drewN|apply Kd.R_drew));exact HO_4.out));(case aS => exact (below_size (by repeat (first|(with_reducible first|exact HB.out|apply below_alloc|apply pw_below_drewN|apply below_drew1|refine below_set ?_ GE167.out)|exact HB.out))));(case aL => have:=LMc17.out;omega);intro v169 w21 ho hb hg hat;rw [← Ny168.out] at ho;have n0_:=Aside0.mk (blk_grown (g:=gb167) (o:=.cells #[.int .i64 t161,.string t162,.int .i64 t163,.int .i64 t164,.bool ((bt a0 t166) == 40)] 46 (0,0)) (by (with_reducible repeat (first|refine blk_drewN ?_ _|refine blk_drew ?_|refine blk_alloc ?_ _));exact BK167.out) hg (Kd.R_away HO_4.out (fun _ hk => hk)));have n1_:=Aside0.mk (hb);have n2_:=Aside0.mk (ho);clear BK167;clear HB;clear HO_4;have BK167:=n0_;have HB:=n1_;have HO170:=n2_;clear n0_ n1_ n2_;clear ho hb hg hat))
          go_roundg kj5
          case measure => have:=HK1.out;have:=HJ5.out;omega
          case rel => exact ⟨(y168),(t166),(by first|rfl|(simp;done)|(simp [*];done)),H',⟨by have:=HK1.out;have:=HJ5.out;omega⟩,⟨by (with_reducible repeat (first|apply Kd.R_alloc|apply Kd.R_drewN|apply Kd.R_drew));exact Kd.R_mono HO170.out (fun _ hk => trivial)⟩,⟨by repeat (first|(with_reducible first|exact HB.out|apply below_alloc|apply pw_below_drewN|apply below_drew1|refine below_set ?_ GE167.out)|exact HB.out)⟩⟩
         ·rw [if_neg c14] at H
          have c14b0 : decide (t166 < (a0.size : Int)) = false:=decide_eq_false c14
          clear c14
          by_cases c22 : x4_1.length < 2932031007402
          rotate_left
          ·rw [if_neg c22] at H
           exact absurd H (by simp)
          rw [if_pos c22] at H
          have LMc22:=Aside0.mk c22
          clear c22
          obtain ⟨y171,hy171⟩ : ∃ y_ : List (S46),y_ = (x4_1 ++ [(⟨t161,t162,t163,t164,false⟩ : S46)]):=⟨_,rfl⟩
          replace H : (impl_SignsOf.l0 kj5 a0 y171 t166) = some (r1,r2):=by first|(rw [hy171];with_reducible exact H)|(have H2_:=(Option.bind_some _ _).symm.trans H;rw [hy171];with_reducible exact H2_)|(have H2_:=(Option.bind_some _ _).symm.trans H;with_reducible exact H2_)|with_reducible exact H|(rw [hy171];exact H)|exact H
          have Ny171:=Aside0.mk hy171
          clear hy171
          have H':=Aside0.mk H
          clear H
          go_upto_region 15 with (first|((with_reducible refine gate_callee (f:=57) rfl ?_);refine goesL_ (some 32) rfl rfl Try.func57 (by kernel_rfl) rfl #[.string a0,.int .i64 x5_1] rfl (by (try simp only [List.map_toArray,List.map_cons,List.map_nil]);first|done|rfl|(simp only [List.length_drop,List.length_take];rfl)) ?_;(with_reducible refine (impl_nextSign.calls kj5 a0 x5_1 t161 t162 t163 t164 t165 t166 _ A13.out).mono ?_);rintro e w23 ⟨rfl,hb⟩;refine ⟨_,rfl,?_⟩;have n0_:=Aside0.mk (Kd.R_below (by (with_reducible repeat (first|apply Kd.R_alloc|apply Kd.R_drewN|apply Kd.R_drew));exact HO_4.out) hb);have n1_:=Aside0.mk (below_step (by repeat (first|(with_reducible first|exact HB.out|apply below_alloc|apply pw_below_drewN|apply below_drew1)|exact HB.out)) hb);clear HO_4;clear HB;have HO_4:=n0_;have HB:=n1_;clear n0_ n1_;(try clear hb);(try clear hb2);(try clear hk);(try clear hi))|((with_reducible refine gate_dst (N:=6) rfl ?_);refine box_event ?hg (N:=6) ?hd (cs:=#[.int .i64 0,.string (⟨#[]⟩ : ByteArray),.int .i64 0,.int .i64 0,.bool false]) (t:=46) ?hr ?_;(case hd => rfl);(case hg => rfl);(case hr => first|(go_simp;done)|(go_simp;rfl));intro gb167 hg w24 hbox hb;have n0_:=Aside0.mk (Kd.R_below (Kd.R_elderB (by (with_reducible repeat (first|apply Kd.R_alloc|apply Kd.R_drewN|apply Kd.R_drew));exact HO_4.out) gb167 (Nat.le_of_eq hg.symm)) hb);have n1_:=Aside0.mk (below_step (by repeat (first|(with_reducible first|exact HB.out|apply below_alloc|apply pw_below_drewN|apply below_drew1)|exact HB.out)) hb);have n2_:=Aside0.mk (hbox);have n3_:=Aside0.mk ((by rw [hg];exact (below_size (by repeat (first|(with_reducible first|exact HB.out|apply below_alloc|apply pw_below_drewN|apply below_drew1)|exact HB.out))) : w.heap.size ≤ gb167));have n4_:=Aside0.mk ((by rw [hg];exact (below_size (by repeat (first|(with_reducible first|exact HB.out|apply below_alloc|apply pw_below_drewN|apply below_drew1)|exact HB.out))) : w.heap.size ≤ gb167));clear HO_4;clear HB;have HO_4:=n0_;have HB:=n1_;have BK167:=n2_;have GW167:=n3_;have GE167:=n4_;clear n0_ n1_ n2_ n3_ n4_;clear hb hbox hg;have hcz25_0 : w24.cell? ⟨gb167,0,none⟩ = some (.int .i64 0):=(blk_cell BK167.out 0).trans rfl;have hcz25_1 : w24.cell? ⟨gb167,1,none⟩ = some (.string (⟨#[]⟩ : ByteArray)):=(blk_cell BK167.out 1).trans rfl;have hcz25_2 : w24.cell? ⟨gb167,2,none⟩ = some (.int .i64 0):=(blk_cell BK167.out 2).trans rfl;have hcz25_3 : w24.cell? ⟨gb167,3,none⟩ = some (.int .i64 0):=(blk_cell BK167.out 3).trans rfl;have hcz25_4 : w24.cell? ⟨gb167,4,none⟩ = some (.bool false):=(blk_cell BK167.out 4).trans rfl;have hfz25_0:=blk_frozen BK167.out 0;have hfz25_1:=blk_frozen BK167.out 1;have hfz25_2:=blk_frozen BK167.out 2;have hfz25_3:=blk_frozen BK167.out 3;have hfz25_4:=blk_frozen BK167.out 4))
          generalize hW_ : World.setCell _ _ _ = w902
          have n0_ : Aside0 (w902.heap[gb167]? = some (.cells #[.int .i64 t161,.string t162,.int .i64 t163,.int .i64 t164,.bool false] 46 (0,0))):=⟨by rw [← hW_];exact (by (with_reducible repeat (first|refine blk_drewN ?_ _|refine blk_drew ?_|refine blk_alloc ?_ _));refine blk_put (cs:=#[.int .i64 t161,.string t162,.int .i64 t163,.int .i64 t164,.bool t165]) ?_ 4 _ rfl;(with_reducible repeat (first|refine blk_drewN ?_ _|refine blk_drew ?_|refine blk_alloc ?_ _));refine blk_put (cs:=#[.int .i64 t161,.string t162,.int .i64 t163,.int .i64 t164,.bool false]) ?_ 4 _ rfl;(with_reducible repeat (first|refine blk_drewN ?_ _|refine blk_drew ?_|refine blk_alloc ?_ _));refine blk_put (cs:=#[.int .i64 t161,.string t162,.int .i64 t163,.int .i64 0,.bool false]) ?_ 3 _ rfl;(with_reducible repeat (first|refine blk_drewN ?_ _|refine blk_drew ?_|refine blk_alloc ?_ _));refine blk_put (cs:=#[.int .i64 t161,.string t162,.int .i64 0,.int .i64 0,.bool false]) ?_ 2 _ rfl;(with_reducible repeat (first|refine blk_drewN ?_ _|refine blk_drew ?_|refine blk_alloc ?_ _));refine blk_put (cs:=#[.int .i64 t161,.string (⟨#[]⟩ : ByteArray),.int .i64 0,.int .i64 0,.bool false]) ?_ 1 _ rfl;(with_reducible repeat (first|refine blk_drewN ?_ _|refine blk_drew ?_|refine blk_alloc ?_ _));refine blk_put (cs:=#[.int .i64 0,.string (⟨#[]⟩ : ByteArray),.int .i64 0,.int .i64 0,.bool false]) ?_ 0 _ rfl;(with_reducible repeat (first|refine blk_drewN ?_ _|refine blk_drew ?_|refine blk_alloc ?_ _));exact BK167.out)⟩
          have n1_ : Aside0 (Below w.heap.size w w902):=⟨by rw [← hW_];exact (by repeat (first|(with_reducible first|exact HB.out|apply below_alloc|apply pw_below_drewN|apply below_drew1|refine below_set ?_ GE167.out)|exact HB.out))⟩
          have n2_ : Aside0 (Kd.R k46 46 w902 w.heap.size (fun k_ => k_ ≠ gb167) u4 x4_1):=⟨by rw [← hW_];exact (by (with_reducible repeat (first|apply Kd.R_alloc|apply Kd.R_drewN|apply Kd.R_drew));exact Kd.R_mono (Kd.R_far (p:=⟨gb167,4,none⟩) (Kd.R_far (p:=⟨gb167,4,none⟩) (Kd.R_far (p:=⟨gb167,3,none⟩) (Kd.R_far (p:=⟨gb167,2,none⟩) (Kd.R_far (p:=⟨gb167,1,none⟩) (Kd.R_far (p:=⟨gb167,0,none⟩) (Kd.R_mono HO_4.out (fun k_ hk => (⟨hk,hk.2⟩ : _ ∧ k_ ≠ gb167))) (fun _ hk => hk.2) (.int .i64 t161)) (fun _ hk => hk.2) (.string t162)) (fun _ hk => hk.2) (.int .i64 t163)) (fun _ hk => hk.2) (.int .i64 t164)) (fun _ hk => hk.2) (.bool t165)) (fun _ hk => hk.2) (.bool false)) (fun _ hk => hk.1.2))⟩
          clear hW_ BK167 HB HO_4
          have BK167:=n0_
          have HB:=n1_
          have HO_4:=n2_
          clear n0_ n1_ n2_
          have hsz_0 : w902.cell? ⟨gb167,0,none⟩ = some (.int .i64 t161):=(blk_cell BK167.out 0).trans rfl
          have hsz_1 : w902.cell? ⟨gb167,1,none⟩ = some (.string t162):=(blk_cell BK167.out 1).trans rfl
          have hsz_2 : w902.cell? ⟨gb167,2,none⟩ = some (.int .i64 t163):=(blk_cell BK167.out 2).trans rfl
          have hsz_3 : w902.cell? ⟨gb167,3,none⟩ = some (.int .i64 t164):=(blk_cell BK167.out 3).trans rfl
          have hsz_4 : w902.cell? ⟨gb167,4,none⟩ = some (.bool false):=(blk_cell BK167.out 4).trans rfl
          have hsf_0:=blk_frozen BK167.out 0
          have hsf_1:=blk_frozen BK167.out 1
          have hsf_2:=blk_frozen BK167.out 2
          have hsf_3:=blk_frozen BK167.out 3
          have hsf_4:=blk_frozen BK167.out 4
          go_wp2_with (first|((with_reducible refine gate_builtin (b:=.append) (xs:=#[.tmp 46,.tmp 48]) rfl ?_);at_builtin;refine Kd.R_append k46 (w0:=w) w.heap.size rfl (.tmp 46) (.tmp 48) 39 46 (.agg #[(.int .i64 0),(.string ⟨#[]⟩),(.int .i64 0),(.int .i64 0),(.bool false)]) 48 rfl Try.underlying39 info46 rfl (by decide) (by omega) u4 x4_1 (⟨t161,t162,t163,t164,false⟩ : S46) [.int .i64 t161,.string t162,.int .i64 t163,.int .i64 t164,.bool false] (fun k_ => k_ ≠ gb167) (fun _ => False) rfl (by first|(go_simp;done)|(go_simp;rfl)) ?aP (fun _ hk => hk.elim) ?aF ?aO ?aB ?aS ?aL ?_;(case aP => exact k46_mkM _ _ _ (⟨t161,t162,t163,t164,false⟩ : S46));(case aB => exact (by repeat (first|(with_reducible first|exact HB.out|apply below_alloc|apply pw_below_drewN|apply below_drew1|refine below_set ?_ GE167.out)|exact HB.out)));(case aF => exact (fun k_ hk => Kd.freshB (g:=gb167) (o:=.cells #[.int .i64 t161,.string t162,.int .i64 t163,.int .i64 t164,.bool false] 46 (0,0)) (by (with_reducible repeat (first|refine blk_drewN ?_ _|refine blk_drew ?_|refine blk_alloc ?_ _));exact BK167.out) k_ hk));(case aO => exact (by (with_reducible repeat (first|apply Kd.R_alloc|apply Kd.R_drewN|apply Kd.R_drew));exact HO_4.out));(case aS => exact (below_size (by repeat (first|(with_reducible first|exact HB.out|apply below_alloc|apply pw_below_drewN|apply below_drew1|refine below_set ?_ GE167.out)|exact HB.out))));(case aL => have:=LMc22.out;omega);intro v172 w26 ho hb hg hat;rw [← Ny171.out] at ho;have n0_:=Aside0.mk (blk_grown (g:=gb167) (o:=.cells #[.int .i64 t161,.string t162,.int .i64 t163,.int .i64 t164,.bool false] 46 (0,0)) (by (with_reducible repeat (first|refine blk_drewN ?_ _|refine blk_drew ?_|refine blk_alloc ?_ _));exact BK167.out) hg (Kd.R_away HO_4.out (fun _ hk => hk)));have n1_:=Aside0.mk (hb);have n2_:=Aside0.mk (ho);clear BK167;clear HB;clear HO_4;have BK167:=n0_;have HB:=n1_;have HO173:=n2_;clear n0_ n1_ n2_;clear ho hb hg hat))
          go_roundg kj5
          case measure => have:=HK1.out;have:=HJ5.out;omega
          case rel => exact ⟨(y171),(t166),(by first|rfl|(simp;done)|(simp [*];done)),H',⟨by have:=HK1.out;have:=HJ5.out;omega⟩,⟨by (with_reducible repeat (first|apply Kd.R_alloc|apply Kd.R_drewN|apply Kd.R_drew));exact Kd.R_mono HO173.out (fun _ hk => trivial)⟩,⟨by repeat (first|(with_reducible first|exact HB.out|apply below_alloc|apply pw_below_drewN|apply below_drew1|refine below_set ?_ GE167.out)|exact HB.out)⟩⟩
    ·rw [if_neg c3] at H
     have c3b0 : decide (x5_1 < (a0.size : Int)) = false:=decide_eq_false c3
     clear c3
     simp only [Option.some.injEq,Prod.mk.injEq] at H
     obtain ⟨rfl,rfl⟩:=H
     go_wp2
     go_ret2
     exact ⟨_,by first|rfl|(simp [errW_none,errW_some] <;> rfl)|(simp [*,errW_none,errW_some] <;> rfl),by (with_reducible repeat (first|apply Kd.R_alloc|apply Kd.R_drewN|apply Kd.R_drew));exact HO_4.out,by repeat (first|(with_reducible first|exact HB.out|apply below_alloc|apply pw_below_drewN|apply below_drew1)|exact HB.out)⟩

/-! ### laws_eqSign: function 58 -/
def laws_eqSign.f (a0_0 : Int) (a0_1 : ByteArray) (a0_2 : Int) (a0_3 : Int) (a0_4 : Bool) (a1_0 : Int) (a1_1 : ByteArray) (a1_2 : Int) (a1_3 : Int) (a1_4 : Bool) : Option (Bool):=if a0_0 = a1_0 then (if a0_1.toList = a1_1.toList then (if a0_2 = a1_2 then (if a0_3 = a1_3 then (if (a0_4 != a1_4) = true then (some false) else (some true)) else (some false)) else (some false)) else (some false)) else (some false)
set_option maxHeartbeats 8000000 in
set_option maxRecDepth 100000 in
theorem laws_eqSign.calls (a0_0 : Int) (a0_1 : ByteArray) (a0_2 : Int) (a0_3 : Int) (a0_4 : Bool) (a1_0 : Int) (a1_1 : ByteArray) (a1_2 : Int) (a1_3 : Int) (a1_4 : Bool) (r : Bool) (w : World) (h : laws_eqSign.f a0_0 a0_1 a0_2 a0_3 a0_4 a1_0 a1_1 a1_2 a1_3 a1_4 = some r) :
  Calls Try.prog 58 #[.agg #[.int .i64 a0_0,.string a0_1,.int .i64 a0_2,.int .i64 a0_3,.bool a0_4],.agg #[.int .i64 a1_0,.string a1_1,.int .i64 a1_2,.int .i64 a1_3,.bool a1_4]] w fun e w' => e = .returned (.bool r) ∧ Below w.heap.size w w':=by
 have hu46:=Try.underlying46
 have HB:=Aside0.mk (Below.refl w.heap.size w)
 have H : (if a0_0 = a1_0 then (if a0_1.toList = a1_1.toList then (if a0_2 = a1_2 then (if a0_3 = a1_3 then (if (a0_4 != a1_4) = true then (some false) else (some true)) else (some false)) else (some false)) else (some false)) else (some false)) = some r:=h
 clear h
 by_cases c3 : a0_0 = a1_0
 ·rw [if_pos c3] at H
  have c3b0 : (a0_0 == a1_0) = true:=beq_iff_eq.mpr c3
  have c3b1 : (a0_0 != a1_0) = false:=bne_eq_false_iff_eq.mpr c3
  clear c3
  by_cases c4 : a0_1.toList = a1_1.toList
  ·rw [if_pos c4] at H
   have c4b0 : (a0_1.toList == a1_1.toList) = true:=beq_iff_eq.mpr c4
   have c4b1 : (a0_1.toList != a1_1.toList) = false:=bne_eq_false_iff_eq.mpr c4
   clear c4
   by_cases c5 : a0_2 = a1_2
   ·rw [if_pos c5] at H
    have c5b0 : (a0_2 == a1_2) = true:=beq_iff_eq.mpr c5
    have c5b1 : (a0_2 != a1_2) = false:=bne_eq_false_iff_eq.mpr c5
    clear c5
    by_cases c6 : a0_3 = a1_3
    ·rw [if_pos c6] at H
     have c6b0 : (a0_3 == a1_3) = true:=beq_iff_eq.mpr c6
     have c6b1 : (a0_3 != a1_3) = false:=bne_eq_false_iff_eq.mpr c6
     clear c6
     by_cases c7 : (a0_4 != a1_4) = true
     ·rw [if_pos c7] at H
      have c7b0 : (a0_4 != a1_4) = true:=c7
      (try (have c7b1 : decide (a0_4 = a1_4) = false:=by simpa using c7))
      (try (have c7b2 : (a0_4 == a1_4) = false:=by simpa using c7))
      (try (have c7b3 : ¬ (a0_4 = a1_4):=by simpa using c7))
      clear c7
      obtain rfl:=Option.some.inj H
      go_enter Try.func58,Try.ntmps58
      go_wp2_with (first|((with_reducible refine gate_dst (N:=2) rfl ?_);refine box_event ?hg (N:=2) ?hd (cs:=#[.int .i64 a0_0,.string a0_1,.int .i64 a0_2,.int .i64 a0_3,.bool a0_4]) (t:=46) ?hr ?_;(case hd => rfl);(case hg => rfl);(case hr => first|(go_simp;done)|(go_simp;rfl));intro gb174 hg w8 hbox hb;have n0_:=Aside0.mk (below_step (by repeat (first|(with_reducible first|exact HB.out|apply below_alloc|apply pw_below_drewN|apply below_drew1)|exact HB.out)) hb);have n1_:=Aside0.mk (hbox);have n2_:=Aside0.mk ((by rw [hg];exact (below_size (by repeat (first|(with_reducible first|exact HB.out|apply below_alloc|apply pw_below_drewN|apply below_drew1)|exact HB.out))) : w.heap.size ≤ gb174));have n3_:=Aside0.mk ((by rw [hg];exact (below_size (by repeat (first|(with_reducible first|exact HB.out|apply below_alloc|apply pw_below_drewN|apply below_drew1)|exact HB.out))) : w.heap.size ≤ gb174));clear HB;have HB:=n0_;have BK174:=n1_;have GW174:=n2_;have GE174:=n3_;clear n0_ n1_ n2_ n3_;clear hb hbox hg)|((with_reducible refine gate_dst (N:=3) rfl ?_);refine box_event ?hg (N:=3) ?hd (cs:=#[.int .i64 a1_0,.string a1_1,.int .i64 a1_2,.int .i64 a1_3,.bool a1_4]) (t:=46) ?hr ?_;(case hd => rfl);(case hg => rfl);(case hr => first|(go_simp;done)|(go_simp;rfl));intro gb175 hg w9 hbox hb;have n0_:=Aside0.mk (blk_below (g:=gb174) (o:=.cells #[.int .i64 a0_0,.string a0_1,.int .i64 a0_2,.int .i64 a0_3,.bool a0_4] 46 (0,0)) (by (with_reducible repeat (first|refine blk_drewN ?_ _|refine blk_drew ?_|refine blk_alloc ?_ _));exact BK174.out) hb);have n1_:=Aside0.mk (below_step (by repeat (first|(with_reducible first|exact HB.out|apply below_alloc|apply pw_below_drewN|apply below_drew1|refine below_set ?_ GE174.out)|exact HB.out)) hb);have n2_:=Aside0.mk (hbox);have n3_:=Aside0.mk ((by rw [hg];exact (below_size (by repeat (first|(with_reducible first|exact HB.out|apply below_alloc|apply pw_below_drewN|apply below_drew1|refine below_set ?_ GE174.out)|exact HB.out))) : w.heap.size ≤ gb175));have n4_:=Aside0.mk ((by rw [hg];exact (below_size (by repeat (first|(with_reducible first|exact HB.out|apply below_alloc|apply pw_below_drewN|apply below_drew1|refine below_set ?_ GE174.out)|exact HB.out))) : w.heap.size ≤ gb175));have n5_:=Aside0.mk ((by rw [hg];exact Nat.ne_of_lt (blk_lt (g:=gb174) (o:=.cells #[.int .i64 a0_0,.string a0_1,.int .i64 a0_2,.int .i64 a0_3,.bool a0_4] 46 (0,0)) (by (with_reducible repeat (first|refine blk_drewN ?_ _|refine blk_drew ?_|refine blk_alloc ?_ _));exact BK174.out)) : gb174 ≠ gb175));have n6_:=Aside0.mk ((by rw [hg];exact Nat.ne_of_gt (blk_lt (g:=gb174) (o:=.cells #[.int .i64 a0_0,.string a0_1,.int .i64 a0_2,.int .i64 a0_3,.bool a0_4] 46 (0,0)) (by (with_reducible repeat (first|refine blk_drewN ?_ _|refine blk_drew ?_|refine blk_alloc ?_ _));exact BK174.out)) : gb175 ≠ gb174));clear BK174;clear HB;have BK174:=n0_;have HB:=n1_;have BK175:=n2_;have GW175:=n3_;have GE175:=n4_;have NB174_175:=n5_;have NB175_174:=n6_;clear n0_ n1_ n2_ n3_ n4_ n5_ n6_;clear hb hbox hg;have hnb10:=NB174_175.out;have hnc10:=NB175_174.out;have hcz11_0 : w9.cell? ⟨gb174,0,none⟩ = some (.int .i64 a0_0):=(blk_cell BK174.out 0).trans rfl;have hcz11_1 : w9.cell? ⟨gb174,1,none⟩ = some (.string a0_1):=(blk_cell BK174.out 1).trans rfl;have hcz11_2 : w9.cell? ⟨gb174,2,none⟩ = some (.int .i64 a0_2):=(blk_cell BK174.out 2).trans rfl;have hcz11_3 : w9.cell? ⟨gb174,3,none⟩ = some (.int .i64 a0_3):=(blk_cell BK174.out 3).trans rfl;have hcz11_4 : w9.cell? ⟨gb174,4,none⟩ = some (.bool a0_4):=(blk_cell BK174.out 4).trans rfl;have hfz11_0:=blk_frozen BK174.out 0;have hfz11_1:=blk_frozen BK174.out 1;have hfz11_2:=blk_frozen BK174.out 2;have hfz11_3:=blk_frozen BK174.out 3;have hfz11_4:=blk_frozen BK174.out 4;have hcz12_0 : w9.cell? ⟨gb175,0,none⟩ = some (.int .i64 a1_0):=(blk_cell BK175.out 0).trans rfl;have hcz12_1 : w9.cell? ⟨gb175,1,none⟩ = some (.string a1_1):=(blk_cell BK175.out 1).trans rfl;have hcz12_2 : w9.cell? ⟨gb175,2,none⟩ = some (.int .i64 a1_2):=(blk_cell BK175.out 2).trans rfl;have hcz12_3 : w9.cell? ⟨gb175,3,none⟩ = some (.int .i64 a1_3):=(blk_cell BK175.out 3).trans rfl;have hcz12_4 : w9.cell? ⟨gb175,4,none⟩ = some (.bool a1_4):=(blk_cell BK175.out 4).trans rfl;have hfz12_0:=blk_frozen BK175.out 0;have hfz12_1:=blk_frozen BK175.out 1;have hfz12_2:=blk_frozen BK175.out 2;have hfz12_3:=blk_frozen BK175.out 3;have hfz12_4:=blk_frozen BK175.out 4))
      go_ret
      exact ⟨by first|rfl|(simp [errW_none,errW_some] <;> rfl)|(simp [*,errW_none,errW_some] <;> rfl),by repeat (first|(with_reducible first|exact HB.out|apply below_alloc|apply pw_below_drewN|apply below_drew1|refine below_set ?_ GE174.out|refine below_set ?_ GE175.out)|exact HB.out)⟩
     ·rw [if_neg c7] at H
      have c7b0 : (a0_4 != a1_4) = false:=by simpa using c7
      (try (have c7b1 : decide (a0_4 = a1_4) = true:=by simpa using c7))
      (try (have c7b2 : (a0_4 == a1_4) = true:=by simpa using c7))
      clear c7
      obtain rfl:=Option.some.inj H
      go_enter Try.func58,Try.ntmps58
      go_wp2_with (first|((with_reducible refine gate_dst (N:=2) rfl ?_);refine box_event ?hg (N:=2) ?hd (cs:=#[.int .i64 a0_0,.string a0_1,.int .i64 a0_2,.int .i64 a0_3,.bool a0_4]) (t:=46) ?hr ?_;(case hd => rfl);(case hg => rfl);(case hr => first|(go_simp;done)|(go_simp;rfl));intro gb174 hg w13 hbox hb;have n0_:=Aside0.mk (below_step (by repeat (first|(with_reducible first|exact HB.out|apply below_alloc|apply pw_below_drewN|apply below_drew1)|exact HB.out)) hb);have n1_:=Aside0.mk (hbox);have n2_:=Aside0.mk ((by rw [hg];exact (below_size (by repeat (first|(with_reducible first|exact HB.out|apply below_alloc|apply pw_below_drewN|apply below_drew1)|exact HB.out))) : w.heap.size ≤ gb174));have n3_:=Aside0.mk ((by rw [hg];exact (below_size (by repeat (first|(with_reducible first|exact HB.out|apply below_alloc|apply pw_below_drewN|apply below_drew1)|exact HB.out))) : w.heap.size ≤ gb174));clear HB;have HB:=n0_;have BK174:=n1_;have GW174:=n2_;have GE174:=n3_;clear n0_ n1_ n2_ n3_;clear hb hbox hg)|((with_reducible refine gate_dst (N:=3) rfl ?_);refine box_event ?hg (N:=3) ?hd (cs:=#[.int .i64 a1_0,.string a1_1,.int .i64 a1_2,.int .i64 a1_3,.bool a1_4]) (t:=46) ?hr ?_;(case hd => rfl);(case hg => rfl);(case hr => first|(go_simp;done)|(go_simp;rfl));intro gb175 hg w14 hbox hb;have n0_:=Aside0.mk (blk_below (g:=gb174) (o:=.cells #[.int .i64 a0_0,.string a0_1,.int .i64 a0_2,.int .i64 a0_3,.bool a0_4] 46 (0,0)) (by (with_reducible repeat (first|refine blk_drewN ?_ _|refine blk_drew ?_|refine blk_alloc ?_ _));exact BK174.out) hb);have n1_:=Aside0.mk (below_step (by repeat (first|(with_reducible first|exact HB.out|apply below_alloc|apply pw_below_drewN|apply below_drew1|refine below_set ?_ GE174.out)|exact HB.out)) hb);have n2_:=Aside0.mk (hbox);have n3_:=Aside0.mk ((by rw [hg];exact (below_size (by repeat (first|(with_reducible first|exact HB.out|apply below_alloc|apply pw_below_drewN|apply below_drew1|refine below_set ?_ GE174.out)|exact HB.out))) : w.heap.size ≤ gb175));have n4_:=Aside0.mk ((by rw [hg];exact (below_size (by repeat (first|(with_reducible first|exact HB.out|apply below_alloc|apply pw_below_drewN|apply below_drew1|refine below_set ?_ GE174.out)|exact HB.out))) : w.heap.size ≤ gb175));have n5_:=Aside0.mk ((by rw [hg];exact Nat.ne_of_lt (blk_lt (g:=gb174) (o:=.cells #[.int .i64 a0_0,.string a0_1,.int .i64 a0_2,.int .i64 a0_3,.bool a0_4] 46 (0,0)) (by (with_reducible repeat (first|refine blk_drewN ?_ _|refine blk_drew ?_|refine blk_alloc ?_ _));exact BK174.out)) : gb174 ≠ gb175));have n6_:=Aside0.mk ((by rw [hg];exact Nat.ne_of_gt (blk_lt (g:=gb174) (o:=.cells #[.int .i64 a0_0,.string a0_1,.int .i64 a0_2,.int .i64 a0_3,.bool a0_4] 46 (0,0)) (by (with_reducible repeat (first|refine blk_drewN ?_ _|refine blk_drew ?_|refine blk_alloc ?_ _));exact BK174.out)) : gb175 ≠ gb174));clear BK174;clear HB;have BK174:=n0_;have HB:=n1_;have BK175:=n2_;have GW175:=n3_;have GE175:=n4_;have NB174_175:=n5_;have NB175_174:=n6_;clear n0_ n1_ n2_ n3_ n4_ n5_ n6_;clear hb hbox hg;have hnb15:=NB174_175.out;have hnc15:=NB175_174.out;have hcz16_0 : w14.cell? ⟨gb174,0,none⟩ = some (.int .i64 a0_0):=(blk_cell BK174.out 0).trans rfl;have hcz16_1 : w14.cell? ⟨gb174,1,none⟩ = some (.string a0_1):=(blk_cell BK174.out 1).trans rfl;have hcz16_2 : w14.cell? ⟨gb174,2,none⟩ = some (.int .i64 a0_2):=(blk_cell BK174.out 2).trans rfl;have hcz16_3 : w14.cell? ⟨gb174,3,none⟩ = some (.int .i64 a0_3):=(blk_cell BK174.out 3).trans rfl;have hcz16_4 : w14.cell? ⟨gb174,4,none⟩ = some (.bool a0_4):=(blk_cell BK174.out 4).trans rfl;have hfz16_0:=blk_frozen BK174.out 0;have hfz16_1:=blk_frozen BK174.out 1;have hfz16_2:=blk_frozen BK174.out 2;have hfz16_3:=blk_frozen BK174.out 3;have hfz16_4:=blk_frozen BK174.out 4;have hcz17_0 : w14.cell? ⟨gb175,0,none⟩ = some (.int .i64 a1_0):=(blk_cell BK175.out 0).trans rfl;have hcz17_1 : w14.cell? ⟨gb175,1,none⟩ = some (.string a1_1):=(blk_cell BK175.out 1).trans rfl;have hcz17_2 : w14.cell? ⟨gb175,2,none⟩ = some (.int .i64 a1_2):=(blk_cell BK175.out 2).trans rfl;have hcz17_3 : w14.cell? ⟨gb175,3,none⟩ = some (.int .i64 a1_3):=(blk_cell BK175.out 3).trans rfl;have hcz17_4 : w14.cell? ⟨gb175,4,none⟩ = some (.bool a1_4):=(blk_cell BK175.out 4).trans rfl;have hfz17_0:=blk_frozen BK175.out 0;have hfz17_1:=blk_frozen BK175.out 1;have hfz17_2:=blk_frozen BK175.out 2;have hfz17_3:=blk_frozen BK175.out 3;have hfz17_4:=blk_frozen BK175.out 4))
      go_ret
      exact ⟨by first|rfl|(simp [errW_none,errW_some] <;> rfl)|(simp [*,errW_none,errW_some] <;> rfl),by repeat (first|(with_reducible first|exact HB.out|apply below_alloc|apply pw_below_drewN|apply below_drew1|refine below_set ?_ GE174.out|refine below_set ?_ GE175.out)|exact HB.out)⟩
    ·rw [if_neg c6] at H
     have c6b0 : (a0_3 == a1_3) = false:=beq_eq_false_iff_ne.mpr c6
     have c6b1 : (a0_3 != a1_3) = true:=bne_iff_ne.mpr c6
     obtain rfl:=Option.some.inj H
     go_enter Try.func58,Try.ntmps58
     go_wp2_with (first|((with_reducible refine gate_dst (N:=2) rfl ?_);refine box_event ?hg (N:=2) ?hd (cs:=#[.int .i64 a0_0,.string a0_1,.int .i64 a0_2,.int .i64 a0_3,.bool a0_4]) (t:=46) ?hr ?_;(case hd => rfl);(case hg => rfl);(case hr => first|(go_simp;done)|(go_simp;rfl));intro gb174 hg w18 hbox hb;have n0_:=Aside0.mk (below_step (by repeat (first|(with_reducible first|exact HB.out|apply below_alloc|apply pw_below_drewN|apply below_drew1)|exact HB.out)) hb);have n1_:=Aside0.mk (hbox);have n2_:=Aside0.mk ((by rw [hg];exact (below_size (by repeat (first|(with_reducible first|exact HB.out|apply below_alloc|apply pw_below_drewN|apply below_drew1)|exact HB.out))) : w.heap.size ≤ gb174));have n3_:=Aside0.mk ((by rw [hg];exact (below_size (by repeat (first|(with_reducible first|exact HB.out|apply below_alloc|apply pw_below_drewN|apply below_drew1)|exact HB.out))) : w.heap.size ≤ gb174));clear HB;have HB:=n0_;have BK174:=n1_;have GW174:=n2_;have GE174:=n3_;clear n0_ n1_ n2_ n3_;clear hb hbox hg)|((with_reducible refine gate_dst (N:=3) rfl ?_);refine box_event ?hg (N:=3) ?hd (cs:=#[.int .i64 a1_0,.string a1_1,.int .i64 a1_2,.int .i64 a1_3,.bool a1_4]) (t:=46) ?hr ?_;(case hd => rfl);(case hg => rfl);(case hr => first|(go_simp;done)|(go_simp;rfl));intro gb175 hg w19 hbox hb;have n0_:=Aside0.mk (blk_below (g:=gb174) (o:=.cells #[.int .i64 a0_0,.string a0_1,.int .i64 a0_2,.int .i64 a0_3,.bool a0_4] 46 (0,0)) (by (with_reducible repeat (first|refine blk_drewN ?_ _|refine blk_drew ?_|refine blk_alloc ?_ _));exact BK174.out) hb);have n1_:=Aside0.mk (below_step (by repeat (first|(with_reducible first|exact HB.out|apply below_alloc|apply pw_below_drewN|apply below_drew1|refine below_set ?_ GE174.out)|exact HB.out)) hb);have n2_:=Aside0.mk (hbox);have n3_:=Aside0.mk ((by rw [hg];exact (below_size (by repeat (first|(with_reducible first|exact HB.out|apply below_alloc|apply pw_below_drewN|apply below_drew1|refine below_set ?_ GE174.out)|exact HB.out))) : w.heap.size ≤ gb175));have n4_:=Aside0.mk ((by rw [hg];exact (below_size (by repeat (first|(with_reducible first|exact HB.out|apply below_alloc|apply pw_below_drewN|apply below_drew1|refine below_set ?_ GE174.out)|exact HB.out))) : w.heap.size ≤ gb175));have n5_:=Aside0.mk ((by rw [hg];exact Nat.ne_of_lt (blk_lt (g:=gb174) (o:=.cells #[.int .i64 a0_0,.string a0_1,.int .i64 a0_2,.int .i64 a0_3,.bool a0_4] 46 (0,0)) (by (with_reducible repeat (first|refine blk_drewN ?_ _|refine blk_drew ?_|refine blk_alloc ?_ _));exact BK174.out)) : gb174 ≠ gb175));have n6_:=Aside0.mk ((by rw [hg];exact Nat.ne_of_gt (blk_lt (g:=gb174) (o:=.cells #[.int .i64 a0_0,.string a0_1,.int .i64 a0_2,.int .i64 a0_3,.bool a0_4] 46 (0,0)) (by (with_reducible repeat (first|refine blk_drewN ?_ _|refine blk_drew ?_|refine blk_alloc ?_ _));exact BK174.out)) : gb175 ≠ gb174));clear BK174;clear HB;have BK174:=n0_;have HB:=n1_;have BK175:=n2_;have GW175:=n3_;have GE175:=n4_;have NB174_175:=n5_;have NB175_174:=n6_;clear n0_ n1_ n2_ n3_ n4_ n5_ n6_;clear hb hbox hg;have hnb20:=NB174_175.out;have hnc20:=NB175_174.out;have hcz21_0 : w19.cell? ⟨gb174,0,none⟩ = some (.int .i64 a0_0):=(blk_cell BK174.out 0).trans rfl;have hcz21_1 : w19.cell? ⟨gb174,1,none⟩ = some (.string a0_1):=(blk_cell BK174.out 1).trans rfl;have hcz21_2 : w19.cell? ⟨gb174,2,none⟩ = some (.int .i64 a0_2):=(blk_cell BK174.out 2).trans rfl;have hcz21_3 : w19.cell? ⟨gb174,3,none⟩ = some (.int .i64 a0_3):=(blk_cell BK174.out 3).trans rfl;have hcz21_4 : w19.cell? ⟨gb174,4,none⟩ = some (.bool a0_4):=(blk_cell BK174.out 4).trans rfl;have hfz21_0:=blk_frozen BK174.out 0;have hfz21_1:=blk_frozen BK174.out 1;have hfz21_2:=blk_frozen BK174.out 2;have hfz21_3:=blk_frozen BK174.out 3;have hfz21_4:=blk_frozen BK174.out 4;have hcz22_0 : w19.cell? ⟨gb175,0,none⟩ = some (.int .i64 a1_0):=(blk_cell BK175.out 0).trans rfl;have hcz22_1 : w19.cell? ⟨gb175,1,none⟩ = some (.string a1_1):=(blk_cell BK175.out 1).trans rfl;have hcz22_2 : w19.cell? ⟨gb175,2,none⟩ = some (.int .i64 a1_2):=(blk_cell BK175.out 2).trans rfl;have hcz22_3 : w19.cell? ⟨gb175,3,none⟩ = some (.int .i64 a1_3):=(blk_cell BK175.out 3).trans rfl;have hcz22_4 : w19.cell? ⟨gb175,4,none⟩ = some (.bool a1_4):=(blk_cell BK175.out 4).trans rfl;have hfz22_0:=blk_frozen BK175.out 0;have hfz22_1:=blk_frozen BK175.out 1;have hfz22_2:=blk_frozen BK175.out 2;have hfz22_3:=blk_frozen BK175.out 3;have hfz22_4:=blk_frozen BK175.out 4))
     go_ret
     exact ⟨by first|rfl|(simp [errW_none,errW_some] <;> rfl)|(simp [*,errW_none,errW_some] <;> rfl),by repeat (first|(with_reducible first|exact HB.out|apply below_alloc|apply pw_below_drewN|apply below_drew1|refine below_set ?_ GE174.out|refine below_set ?_ GE175.out)|exact HB.out)⟩
   ·rw [if_neg c5] at H
    have c5b0 : (a0_2 == a1_2) = false:=beq_eq_false_iff_ne.mpr c5
    have c5b1 : (a0_2 != a1_2) = true:=bne_iff_ne.mpr c5
    obtain rfl:=Option.some.inj H
    go_enter Try.func58,Try.ntmps58
    go_wp2_with (first|((with_reducible refine gate_dst (N:=2) rfl ?_);refine box_event ?hg (N:=2) ?hd (cs:=#[.int .i64 a0_0,.string a0_1,.int .i64 a0_2,.int .i64 a0_3,.bool a0_4]) (t:=46) ?hr ?_;(case hd => rfl);(case hg => rfl);(case hr => first|(go_simp;done)|(go_simp;rfl));intro gb174 hg w23 hbox hb;have n0_:=Aside0.mk (below_step (by repeat (first|(with_reducible first|exact HB.out|apply below_alloc|apply pw_below_drewN|apply below_drew1)|exact HB.out)) hb);have n1_:=Aside0.mk (hbox);have n2_:=Aside0.mk ((by rw [hg];exact (below_size (by repeat (first|(with_reducible first|exact HB.out|apply below_alloc|apply pw_below_drewN|apply below_drew1)|exact HB.out))) : w.heap.size ≤ gb174));have n3_:=Aside0.mk ((by rw [hg];exact (below_size (by repeat (first|(with_reducible first|exact HB.out|apply below_alloc|apply pw_below_drewN|apply below_drew1)|exact HB.out))) : w.heap.size ≤ gb174));clear HB;have HB:=n0_;have BK174:=n1_;have GW174:=n2_;have GE174:=n3_;clear n0_ n1_ n2_ n3_;clear hb hbox hg)|((with_reducible refine gate_dst (N:=3) rfl ?_);refine box_event ?hg (N:=3) ?hd (cs:=#[.int .i64 a1_0,.string a1_1,.int .i64 a1_2,.int .i64 a1_3,.bool a1_4]) (t:=46) ?hr ?_;(case hd => rfl);(case hg => rfl);(case hr => first|(go_simp;done)|(go_simp;rfl));intro gb175 hg w24 hbox hb;have n0_:=Aside0.mk (blk_below (g:=gb174) (o:=.cells #[.int .i64 a0_0,.string a0_1,.int .i64 a0_2,.int .i64 a0_3,.bool a0_4] 46 (0,0)) (by (with_reducible repeat (first|refine blk_drewN ?_ _|refine blk_drew ?_|refine blk_alloc ?_ _));exact BK174.out) hb);have n1_:=Aside0.mk (below_step (by repeat (first|(with_reducible first|exact HB.out|apply below_alloc|apply pw_below_drewN|apply below_drew1|refine below_set ?_ GE174.out)|exact HB.out)) hb);have n2_:=Aside0.mk (hbox);have n3_:=Aside0.mk ((by rw [hg];exact (below_size (by repeat (first|(with_reducible first|exact HB.out|apply below_alloc|apply pw_below_drewN|apply below_drew1|refine below_set ?_ GE174.out)|exact HB.out))) : w.heap.size ≤ gb175));have n4_:=Aside0.mk ((by rw [hg];exact (below_size (by repeat (first|(with_reducible first|exact HB.out|apply below_alloc|apply pw_below_drewN|apply below_drew1|refine below_set ?_ GE174.out)|exact HB.out))) : w.heap.size ≤ gb175));have n5_:=Aside0.mk ((by rw [hg];exact Nat.ne_of_lt (blk_lt (g:=gb174) (o:=.cells #[.int .i64 a0_0,.string a0_1,.int .i64 a0_2,.int .i64 a0_3,.bool a0_4] 46 (0,0)) (by (with_reducible repeat (first|refine blk_drewN ?_ _|refine blk_drew ?_|refine blk_alloc ?_ _));exact BK174.out)) : gb174 ≠ gb175));have n6_:=Aside0.mk ((by rw [hg];exact Nat.ne_of_gt (blk_lt (g:=gb174) (o:=.cells #[.int .i64 a0_0,.string a0_1,.int .i64 a0_2,.int .i64 a0_3,.bool a0_4] 46 (0,0)) (by (with_reducible repeat (first|refine blk_drewN ?_ _|refine blk_drew ?_|refine blk_alloc ?_ _));exact BK174.out)) : gb175 ≠ gb174));clear BK174;clear HB;have BK174:=n0_;have HB:=n1_;have BK175:=n2_;have GW175:=n3_;have GE175:=n4_;have NB174_175:=n5_;have NB175_174:=n6_;clear n0_ n1_ n2_ n3_ n4_ n5_ n6_;clear hb hbox hg;have hnb25:=NB174_175.out;have hnc25:=NB175_174.out;have hcz26_0 : w24.cell? ⟨gb174,0,none⟩ = some (.int .i64 a0_0):=(blk_cell BK174.out 0).trans rfl;have hcz26_1 : w24.cell? ⟨gb174,1,none⟩ = some (.string a0_1):=(blk_cell BK174.out 1).trans rfl;have hcz26_2 : w24.cell? ⟨gb174,2,none⟩ = some (.int .i64 a0_2):=(blk_cell BK174.out 2).trans rfl;have hcz26_3 : w24.cell? ⟨gb174,3,none⟩ = some (.int .i64 a0_3):=(blk_cell BK174.out 3).trans rfl;have hcz26_4 : w24.cell? ⟨gb174,4,none⟩ = some (.bool a0_4):=(blk_cell BK174.out 4).trans rfl;have hfz26_0:=blk_frozen BK174.out 0;have hfz26_1:=blk_frozen BK174.out 1;have hfz26_2:=blk_frozen BK174.out 2;have hfz26_3:=blk_frozen BK174.out 3;have hfz26_4:=blk_frozen BK174.out 4;have hcz27_0 : w24.cell? ⟨gb175,0,none⟩ = some (.int .i64 a1_0):=(blk_cell BK175.out 0).trans rfl;have hcz27_1 : w24.cell? ⟨gb175,1,none⟩ = some (.string a1_1):=(blk_cell BK175.out 1).trans rfl;have hcz27_2 : w24.cell? ⟨gb175,2,none⟩ = some (.int .i64 a1_2):=(blk_cell BK175.out 2).trans rfl;have hcz27_3 : w24.cell? ⟨gb175,3,none⟩ = some (.int .i64 a1_3):=(blk_cell BK175.out 3).trans rfl;have hcz27_4 : w24.cell? ⟨gb175,4,none⟩ = some (.bool a1_4):=(blk_cell BK175.out 4).trans rfl;have hfz27_0:=blk_frozen BK175.out 0;have hfz27_1:=blk_frozen BK175.out 1;have hfz27_2:=blk_frozen BK175.out 2;have hfz27_3:=blk_frozen BK175.out 3;have hfz27_4:=blk_frozen BK175.out 4))
    go_ret
    exact ⟨by first|rfl|(simp [errW_none,errW_some] <;> rfl)|(simp [*,errW_none,errW_some] <;> rfl),by repeat (first|(with_reducible first|exact HB.out|apply below_alloc|apply pw_below_drewN|apply below_drew1|refine below_set ?_ GE174.out|refine below_set ?_ GE175.out)|exact HB.out)⟩
  ·rw [if_neg c4] at H
   have c4b0 : (a0_1.toList == a1_1.toList) = false:=beq_eq_false_iff_ne.mpr c4
   have c4b1 : (a0_1.toList != a1_1.toList) = true:=bne_iff_ne.mpr c4
   obtain rfl:=Option.some.inj H
   go_enter Try.func58,Try.ntmps58
   go_wp2_with (first|((with_reducible refine gate_dst (N:=2) rfl ?_);refine box_event ?hg (N:=2) ?hd (cs:=#[.int .i64 a0_0,.string a0_1,.int .i64 a0_2,.int .i64 a0_3,.bool a0_4]) (t:=46) ?hr ?_;(case hd => rfl);(case hg => rfl);(case hr => first|(go_simp;done)|(go_simp;rfl));intro gb174 hg w28 hbox hb;have n0_:=Aside0.mk (below_step (by repeat (first|(with_reducible first|exact HB.out|apply below_alloc|apply pw_below_drewN|apply below_drew1)|exact HB.out)) hb);have n1_:=Aside0.mk (hbox);have n2_:=Aside0.mk ((by rw [hg];exact (below_size (by repeat (first|(with_reducible first|exact HB.out|apply below_alloc|apply pw_below_drewN|apply below_drew1)|exact HB.out))) : w.heap.size ≤ gb174));have n3_:=Aside0.mk ((by rw [hg];exact (below_size (by repeat (first|(with_reducible first|exact HB.out|apply below_alloc|apply pw_below_drewN|apply below_drew1)|exact HB.out))) : w.heap.size ≤ gb174));clear HB;have HB:=n0_;have BK174:=n1_;have GW174:=n2_;have GE174:=n3_;clear n0_ n1_ n2_ n3_;clear hb hbox hg)|((with_reducible refine gate_dst (N:=3) rfl ?_);refine box_event ?hg (N:=3) ?hd (cs:=#[.int .i64 a1_0,.string a1_1,.int .i64 a1_2,.int .i64 a1_3,.bool a1_4]) (t:=46) ?hr ?_;(case hd => rfl);(case hg => rfl);(case hr => first|(go_simp;done)|(go_simp;rfl));intro gb175 hg w29 hbox hb;have n0_:=Aside0.mk (blk_below (g:=gb174) (o:=.cells #[.int .i64 a0_0,.string a0_1,.int .i64 a0_2,.int .i64 a0_3,.bool a0_4] 46 (0,0)) (by (with_reducible repeat (first|refine blk_drewN ?_ _|refine blk_drew ?_|refine blk_alloc ?_ _));exact BK174.out) hb);have n1_:=Aside0.mk (below_step (by repeat (first|(with_reducible first|exact HB.out|apply below_alloc|apply pw_below_drewN|apply below_drew1|refine below_set ?_ GE174.out)|exact HB.out)) hb);have n2_:=Aside0.mk (hbox);have n3_:=Aside0.mk ((by rw [hg];exact (below_size (by repeat (first|(with_reducible first|exact HB.out|apply below_alloc|apply pw_below_drewN|apply below_drew1|refine below_set ?_ GE174.out)|exact HB.out))) : w.heap.size ≤ gb175));have n4_:=Aside0.mk ((by rw [hg];exact (below_size (by repeat (first|(with_reducible first|exact HB.out|apply below_alloc|apply pw_below_drewN|apply below_drew1|refine below_set ?_ GE174.out)|exact HB.out))) : w.heap.size ≤ gb175));have n5_:=Aside0.mk ((by rw [hg];exact Nat.ne_of_lt (blk_lt (g:=gb174) (o:=.cells #[.int .i64 a0_0,.string a0_1,.int .i64 a0_2,.int .i64 a0_3,.bool a0_4] 46 (0,0)) (by (with_reducible repeat (first|refine blk_drewN ?_ _|refine blk_drew ?_|refine blk_alloc ?_ _));exact BK174.out)) : gb174 ≠ gb175));have n6_:=Aside0.mk ((by rw [hg];exact Nat.ne_of_gt (blk_lt (g:=gb174) (o:=.cells #[.int .i64 a0_0,.string a0_1,.int .i64 a0_2,.int .i64 a0_3,.bool a0_4] 46 (0,0)) (by (with_reducible repeat (first|refine blk_drewN ?_ _|refine blk_drew ?_|refine blk_alloc ?_ _));exact BK174.out)) : gb175 ≠ gb174));clear BK174;clear HB;have BK174:=n0_;have HB:=n1_;have BK175:=n2_;have GW175:=n3_;have GE175:=n4_;have NB174_175:=n5_;have NB175_174:=n6_;clear n0_ n1_ n2_ n3_ n4_ n5_ n6_;clear hb hbox hg;have hnb30:=NB174_175.out;have hnc30:=NB175_174.out;have hcz31_0 : w29.cell? ⟨gb174,0,none⟩ = some (.int .i64 a0_0):=(blk_cell BK174.out 0).trans rfl;have hcz31_1 : w29.cell? ⟨gb174,1,none⟩ = some (.string a0_1):=(blk_cell BK174.out 1).trans rfl;have hcz31_2 : w29.cell? ⟨gb174,2,none⟩ = some (.int .i64 a0_2):=(blk_cell BK174.out 2).trans rfl;have hcz31_3 : w29.cell? ⟨gb174,3,none⟩ = some (.int .i64 a0_3):=(blk_cell BK174.out 3).trans rfl;have hcz31_4 : w29.cell? ⟨gb174,4,none⟩ = some (.bool a0_4):=(blk_cell BK174.out 4).trans rfl;have hfz31_0:=blk_frozen BK174.out 0;have hfz31_1:=blk_frozen BK174.out 1;have hfz31_2:=blk_frozen BK174.out 2;have hfz31_3:=blk_frozen BK174.out 3;have hfz31_4:=blk_frozen BK174.out 4;have hcz32_0 : w29.cell? ⟨gb175,0,none⟩ = some (.int .i64 a1_0):=(blk_cell BK175.out 0).trans rfl;have hcz32_1 : w29.cell? ⟨gb175,1,none⟩ = some (.string a1_1):=(blk_cell BK175.out 1).trans rfl;have hcz32_2 : w29.cell? ⟨gb175,2,none⟩ = some (.int .i64 a1_2):=(blk_cell BK175.out 2).trans rfl;have hcz32_3 : w29.cell? ⟨gb175,3,none⟩ = some (.int .i64 a1_3):=(blk_cell BK175.out 3).trans rfl;have hcz32_4 : w29.cell? ⟨gb175,4,none⟩ = some (.bool a1_4):=(blk_cell BK175.out 4).trans rfl;have hfz32_0:=blk_frozen BK175.out 0;have hfz32_1:=blk_frozen BK175.out 1;have hfz32_2:=blk_frozen BK175.out 2;have hfz32_3:=blk_frozen BK175.out 3;have hfz32_4:=blk_frozen BK175.out 4))
   go_ret
   exact ⟨by first|rfl|(simp [errW_none,errW_some] <;> rfl)|(simp [*,errW_none,errW_some] <;> rfl),by repeat (first|(with_reducible first|exact HB.out|apply below_alloc|apply pw_below_drewN|apply below_drew1|refine below_set ?_ GE174.out|refine below_set ?_ GE175.out)|exact HB.out)⟩
 ·rw [if_neg c3] at H
  have c3b0 : (a0_0 == a1_0) = false:=beq_eq_false_iff_ne.mpr c3
  have c3b1 : (a0_0 != a1_0) = true:=bne_iff_ne.mpr c3
  obtain rfl:=Option.some.inj H
  go_enter Try.func58,Try.ntmps58
  go_wp2_with (first|((with_reducible refine gate_dst (N:=2) rfl ?_);refine box_event ?hg (N:=2) ?hd (cs:=#[.int .i64 a0_0,.string a0_1,.int .i64 a0_2,.int .i64 a0_3,.bool a0_4]) (t:=46) ?hr ?_;(case hd => rfl);(case hg => rfl);(case hr => first|(go_simp;done)|(go_simp;rfl));intro gb174 hg w33 hbox hb;have n0_:=Aside0.mk (below_step (by repeat (first|(with_reducible first|exact HB.out|apply below_alloc|apply pw_below_drewN|apply below_drew1)|exact HB.out)) hb);have n1_:=Aside0.mk (hbox);have n2_:=Aside0.mk ((by rw [hg];exact (below_size (by repeat (first|(with_reducible first|exact HB.out|apply below_alloc|apply pw_below_drewN|apply below_drew1)|exact HB.out))) : w.heap.size ≤ gb174));have n3_:=Aside0.mk ((by rw [hg];exact (below_size (by repeat (first|(with_reducible first|exact HB.out|apply below_alloc|apply pw_below_drewN|apply below_drew1)|exact HB.out))) : w.heap.size ≤ gb174));clear HB;have HB:=n0_;have BK174:=n1_;have GW174:=n2_;have GE174:=n3_;clear n0_ n1_ n2_ n3_;clear hb hbox hg)|((with_reducible refine gate_dst (N:=3) rfl ?_);refine box_event ?hg (N:=3) ?hd (cs:=#[.int .i64 a1_0,.string a1_1,.int .i64 a1_2,.int .i64 a1_3,.bool a1_4]) (t:=46) ?hr ?_;(case hd => rfl);(case hg => rfl);(case hr => first|(go_simp;done)|(go_simp;rfl));intro gb175 hg w34 hbox hb;have n0_:=Aside0.mk (blk_below (g:=gb174) (o:=.cells #[.int .i64 a0_0,.string a0_1,.int .i64 a0_2,.int .i64 a0_3,.bool a0_4] 46 (0,0)) (by (with_reducible repeat (first|refine blk_drewN ?_ _|refine blk_drew ?_|refine blk_alloc ?_ _));exact BK174.out) hb);have n1_:=Aside0.mk (below_step (by repeat (first|(with_reducible first|exact HB.out|apply below_alloc|apply pw_below_drewN|apply below_drew1|refine below_set ?_ GE174.out)|exact HB.out)) hb);have n2_:=Aside0.mk (hbox);have n3_:=Aside0.mk ((by rw [hg];exact (below_size (by repeat (first|(with_reducible first|exact HB.out|apply below_alloc|apply pw_below_drewN|apply below_drew1|refine below_set ?_ GE174.out)|exact HB.out))) : w.heap.size ≤ gb175));have n4_:=Aside0.mk ((by rw [hg];exact (below_size (by repeat (first|(with_reducible first|exact HB.out|apply below_alloc|apply pw_below_drewN|apply below_drew1|refine below_set ?_ GE174.out)|exact HB.out))) : w.heap.size ≤ gb175));have n5_:=Aside0.mk ((by rw [hg];exact Nat.ne_of_lt (blk_lt (g:=gb174) (o:=.cells #[.int .i64 a0_0,.string a0_1,.int .i64 a0_2,.int .i64 a0_3,.bool a0_4] 46 (0,0)) (by (with_reducible repeat (first|refine blk_drewN ?_ _|refine blk_drew ?_|refine blk_alloc ?_ _));exact BK174.out)) : gb174 ≠ gb175));have n6_:=Aside0.mk ((by rw [hg];exact Nat.ne_of_gt (blk_lt (g:=gb174) (o:=.cells #[.int .i64 a0_0,.string a0_1,.int .i64 a0_2,.int .i64 a0_3,.bool a0_4] 46 (0,0)) (by (with_reducible repeat (first|refine blk_drewN ?_ _|refine blk_drew ?_|refine blk_alloc ?_ _));exact BK174.out)) : gb175 ≠ gb174));clear BK174;clear HB;have BK174:=n0_;have HB:=n1_;have BK175:=n2_;have GW175:=n3_;have GE175:=n4_;have NB174_175:=n5_;have NB175_174:=n6_;clear n0_ n1_ n2_ n3_ n4_ n5_ n6_;clear hb hbox hg;have hnb35:=NB174_175.out;have hnc35:=NB175_174.out;have hcz36_0 : w34.cell? ⟨gb174,0,none⟩ = some (.int .i64 a0_0):=(blk_cell BK174.out 0).trans rfl;have hcz36_1 : w34.cell? ⟨gb174,1,none⟩ = some (.string a0_1):=(blk_cell BK174.out 1).trans rfl;have hcz36_2 : w34.cell? ⟨gb174,2,none⟩ = some (.int .i64 a0_2):=(blk_cell BK174.out 2).trans rfl;have hcz36_3 : w34.cell? ⟨gb174,3,none⟩ = some (.int .i64 a0_3):=(blk_cell BK174.out 3).trans rfl;have hcz36_4 : w34.cell? ⟨gb174,4,none⟩ = some (.bool a0_4):=(blk_cell BK174.out 4).trans rfl;have hfz36_0:=blk_frozen BK174.out 0;have hfz36_1:=blk_frozen BK174.out 1;have hfz36_2:=blk_frozen BK174.out 2;have hfz36_3:=blk_frozen BK174.out 3;have hfz36_4:=blk_frozen BK174.out 4;have hcz37_0 : w34.cell? ⟨gb175,0,none⟩ = some (.int .i64 a1_0):=(blk_cell BK175.out 0).trans rfl;have hcz37_1 : w34.cell? ⟨gb175,1,none⟩ = some (.string a1_1):=(blk_cell BK175.out 1).trans rfl;have hcz37_2 : w34.cell? ⟨gb175,2,none⟩ = some (.int .i64 a1_2):=(blk_cell BK175.out 2).trans rfl;have hcz37_3 : w34.cell? ⟨gb175,3,none⟩ = some (.int .i64 a1_3):=(blk_cell BK175.out 3).trans rfl;have hcz37_4 : w34.cell? ⟨gb175,4,none⟩ = some (.bool a1_4):=(blk_cell BK175.out 4).trans rfl;have hfz37_0:=blk_frozen BK175.out 0;have hfz37_1:=blk_frozen BK175.out 1;have hfz37_2:=blk_frozen BK175.out 2;have hfz37_3:=blk_frozen BK175.out 3;have hfz37_4:=blk_frozen BK175.out 4))
  go_ret
  exact ⟨by first|rfl|(simp [errW_none,errW_some] <;> rfl)|(simp [*,errW_none,errW_some] <;> rfl),by repeat (first|(with_reducible first|exact HB.out|apply below_alloc|apply pw_below_drewN|apply below_drew1|refine below_set ?_ GE174.out|refine below_set ?_ GE175.out)|exact HB.out)⟩

/-! ### laws_eqSignS: function 33 -/
def laws_eqSignS.l0 : Nat → List (S46) → List (S46) → Int → Option (Bool)
 | 0,_,_,_ => none
 | k + 1,x0,x1,x5 => if x5 < (x0.length : Int) then (if 0 ≤ x5 then (if x5 < (x1.length : Int) then ((laws_eqSign.f ((rd_T46 x0 x5).f0) ((rd_T46 x0 x5).f1) ((rd_T46 x0 x5).f2) ((rd_T46 x0 x5).f3) ((rd_T46 x0 x5).f4) ((rd_T46 x1 x5).f0) ((rd_T46 x1 x5).f1) ((rd_T46 x1 x5).f2) ((rd_T46 x1 x5).f3) ((rd_T46 x1 x5).f4)).bind fun t178 => (if t178 = true then (laws_eqSignS.l0 k x0 x1 (wrap64 (x5 + 1))) else (some false))) else (none)) else (none)) else (some true)
def laws_eqSignS.f (k : Nat) (l0 : List (S46)) (l1 : List (S46)) : Option (Bool):=if (l0.length : Int) = (l1.length : Int) then (laws_eqSignS.l0 k l0 l1 0) else (some false)
theorem laws_eqSignS.mono_l : ∀ k,(∀ y0 y1 y2,LeO (laws_eqSignS.l0 k y0 y1 y2) (laws_eqSignS.l0 (k + 1) y0 y1 y2))
 | 0 => fun _ _ _ r h => by simp [laws_eqSignS.l0] at h
 | k + 1 => by
  have ih0:=laws_eqSignS.mono_l k
  ·intro y0 y1 y2
   unfold laws_eqSignS.l0
   repeat' first
   | (with_reducible exact ih0 _ _ _)
   | (with_reducible exact LeO.refl _)
   | (with_reducible exact LeO.none _)
   | (with_reducible refine LeO.ite ?_ ?_)
   | (with_reducible refine LeO.bind ?_ (fun _ => ?_))
   | exact ih0 _ _ _
   | exact LeO.none _
   | refine LeO.ite ?_ ?_
   | refine LeO.bind ?_ (fun _ => ?_)
theorem laws_eqSignS.mono : ∀ a0 a1 k,LeO (laws_eqSignS.f k a0 a1) (laws_eqSignS.f (k + 1) a0 a1):=by
 intro a0 a1 k
 have ih0:=laws_eqSignS.mono_l k
 unfold laws_eqSignS.f
 repeat' first
   | (with_reducible exact ih0 _ _ _)
   | (with_reducible exact LeO.refl _)
   | (with_reducible exact LeO.none _)
   | (with_reducible refine LeO.ite ?_ ?_)
   | (with_reducible refine LeO.bind ?_ (fun _ => ?_))
   | exact ih0 _ _ _
   | exact LeO.none _
   | refine LeO.ite ?_ ?_
   | refine LeO.bind ?_ (fun _ => ?_)
def laws_eqSignS.T6 : Bool × List (List Nat × List Nat):=(true,[([],[]),([],[]),([0,1],[0,1]),([2],[2]),([],[]),([],[]),([4,5],[4,5]),([6],[6]),([3,7],[3,7]),([8],[8])])
def laws_eqSignS.B6 : List Nat:=[0,0,3,7,0,0,48,112,255,511]
theorem laws_eqSignS.tab6 : rtab .any (opsOf Try.f33 6) = laws_eqSignS.T6:=by kernel_rfl
theorem laws_eqSignS.bits6 : waitsOk laws_eqSignS.T6.2 laws_eqSignS.B6 = true:=by kernel_rfl
set_option maxHeartbeats 8000000 in
set_option maxRecDepth 100000 in
theorem laws_eqSignS.calls (k : Nat) (A0 : Option Addr) (c0 : Nat) (l0 : List (S46)) (A1 : Option Addr) (c1 : Nat) (l1 : List (S46)) (r : Bool) (w : World) (hr0 : Kd.C k46 w A0 l0.length l0) (hc0 : l0.length ≤ c0) (hr1 : Kd.C k46 w A1 l1.length l1) (hc1 : l1.length ≤ c1) (h : laws_eqSignS.f k l0 l1 = some r) :
  Calls Try.prog 33 #[.slice A0 l0.length c0,.slice A1 l1.length c1] w fun e w' => e = .returned (.bool r) ∧ Below w.heap.size w w':=by
 have hu46:=Try.underlying46
 have HR0:=Aside0.mk hr0
 have HC0:=Aside0.mk hc0
 clear hr0 hc0
 have HR1:=Aside0.mk hr1
 have HC1:=Aside0.mk hc1
 clear hr1 hc1
 have HB:=Aside0.mk (Below.refl w.heap.size w)
 have H : (if (l0.length : Int) = (l1.length : Int) then (laws_eqSignS.l0 k l0 l1 0) else (some false)) = some r:=h
 clear h
 by_cases c3 : (l0.length : Int) = (l1.length : Int)
 ·rw [if_pos c3] at H
  have c3b0 : ((l0.length : Int) == (l1.length : Int)) = true:=beq_iff_eq.mpr c3
  have c3b1 : ((l0.length : Int) != (l1.length : Int)) = false:=bne_eq_false_iff_eq.mpr c3
  have c3b2 : (l0.length == l1.length) = true:=by first|simpa using c3|(simp at c3 ⊢;omega)
  clear c3
  have H':=Aside0.mk H
  clear H
  go_enter Try.func33,Try.ntmps33
  go_wp2
  go_loopg [5] k (fun kq v5 w' => ∃ (x5_1 : Int),v5 = .int .i64 x5_1 ∧ Aside0 (laws_eqSignS.l0 kq l0 l1 x5_1 = some r) ∧ Aside0 (kq ≤ k) ∧ Aside0 (Below w.heap.size w w'))
  case atStart => exact ⟨(0),(by first|rfl|(simp;done)|(simp [*];done)),H',⟨Nat.le_refl _⟩,⟨by repeat (first|(with_reducible first|exact HB.out|apply below_alloc|apply pw_below_drewN|apply below_drew1)|exact HB.out)⟩⟩
  case round =>
   clear H'
   try clear c1
   try clear c3
   try clear c3b0
   try clear c3b1
   try clear c3b2
   obtain ⟨x5_1,rfl,HA,HK1,HB⟩:=hrel
   cases gk with
   | zero => exact absurd HA.out (by simp [laws_eqSignS.l0])
   | succ k1 =>
    have H:=HA.out
    clear HA
    simp only [laws_eqSignS.l0] at H
    by_cases c4 : x5_1 < (l0.length : Int)
    ·rw [if_pos c4] at H
     have c4b0 : decide (x5_1 < (l0.length : Int)) = true:=decide_eq_true c4
     clear c4
     by_cases c5 : 0 ≤ x5_1
     rotate_left
     ·rw [if_neg c5] at H
      exact absurd H (by simp)
     rw [if_pos c5] at H
     have c5b0 : decide (0 ≤ x5_1) = true:=decide_eq_true c5
     clear c5
     by_cases c6 : x5_1 < (l1.length : Int)
     rotate_left
     ·rw [if_neg c6] at H
      exact absurd H (by simp)
     rw [if_pos c6] at H
     have c6b0 : decide (x5_1 < (l1.length : Int)) = true:=decide_eq_true c6
     clear c6
     replace H:=Option.bind_eq_some_iff.mp H
     obtain ⟨t178,A70,H⟩:=H
     replace H : (if t178 = true then (laws_eqSignS.l0 k1 l0 l1 (wrap64 (x5_1 + 1))) else (some false)) = some r:=H
     have A7:=Aside0.mk A70
     clear A70
     by_cases c8 : t178 = true
     ·subst c8
      have H1 : (laws_eqSignS.l0 k1 l0 l1 (wrap64 (x5_1 + 1))) = some r:=by rw [if_pos rfl] at H;exact H
      clear H
      have H:=H1
      clear H1
      have H':=Aside0.mk H
      clear H
      try go_wp2
      have n0_:=Aside0.mk (below_drew1 HB.out)
      clear HB
      have HB:=n0_
      clear n0_
      have p176 : 0 ≤ (x5_1 : Int):=of_decide_eq_true (by first|(with_reducible assumption)|assumption)
      have q176 : x5_1 < (l0.length : Int):=of_decide_eq_true (by first|(with_reducible assumption)|assumption)
      obtain ⟨ad176,e176,hx176_0,hx176_1,hx176_2,hx176_3,hx176_4⟩:=at_T46 HR0.out x5_1 p176 q176
      have hw176_4:=hx176_4
      have hw176_3:=hx176_3
      have hw176_2:=hx176_2
      have hw176_1:=hx176_1
      have hw176_0:=hx176_0
      cases e176
      replace hx176_0:=(HB.out.cell (World.block_lt_of_cell? w _ hx176_0)).trans hx176_0
      replace hx176_1:=(HB.out.cell (World.block_lt_of_cell? w _ hx176_1)).trans hx176_1
      replace hx176_2:=(HB.out.cell (World.block_lt_of_cell? w _ hx176_2)).trans hx176_2
      replace hx176_3:=(HB.out.cell (World.block_lt_of_cell? w _ hx176_3)).trans hx176_3
      replace hx176_4:=(HB.out.cell (World.block_lt_of_cell? w _ hx176_4)).trans hx176_4
      replace p176:=eq_true p176
      replace q176:=eq_true q176
      have p177 : 0 ≤ (x5_1 : Int):=of_decide_eq_true (by first|(with_reducible assumption)|assumption)
      have q177 : x5_1 < (l1.length : Int):=of_decide_eq_true (by first|(with_reducible assumption)|assumption)
      obtain ⟨ad177,e177,hx177_0,hx177_1,hx177_2,hx177_3,hx177_4⟩:=at_T46 HR1.out x5_1 p177 q177
      have hw177_4:=hx177_4
      have hw177_3:=hx177_3
      have hw177_2:=hx177_2
      have hw177_1:=hx177_1
      have hw177_0:=hx177_0
      cases e177
      replace hx177_0:=(HB.out.cell (World.block_lt_of_cell? w _ hx177_0)).trans hx177_0
      replace hx177_1:=(HB.out.cell (World.block_lt_of_cell? w _ hx177_1)).trans hx177_1
      replace hx177_2:=(HB.out.cell (World.block_lt_of_cell? w _ hx177_2)).trans hx177_2
      replace hx177_3:=(HB.out.cell (World.block_lt_of_cell? w _ hx177_3)).trans hx177_3
      replace hx177_4:=(HB.out.cell (World.block_lt_of_cell? w _ hx177_4)).trans hx177_4
      replace p177:=eq_true p177
      replace q177:=eq_true q177
      refine start_ (n:=10) (S:=fun w' => w'.cell? (ad176.add ((x5_1).toNat * 5)) = some (.int .i64 ((rd_T46 l0 x5_1).f0)) ∧ w'.cell? ⟨(ad176.add ((x5_1).toNat * 5)).block,(ad176.add ((x5_1).toNat * 5)).off + 1,none⟩ = some (.string ((rd_T46 l0 x5_1).f1)) ∧ w'.cell? ⟨(ad176.add ((x5_1).toNat * 5)).block,(ad176.add ((x5_1).toNat * 5)).off + 2,none⟩ = some (.int .i64 ((rd_T46 l0 x5_1).f2)) ∧ w'.cell? ⟨(ad176.add ((x5_1).toNat * 5)).block,(ad176.add ((x5_1).toNat * 5)).off + 3,none⟩ = some (.int .i64 ((rd_T46 l0 x5_1).f3)) ∧ w'.cell? ⟨(ad176.add ((x5_1).toNat * 5)).block,(ad176.add ((x5_1).toNat * 5)).off + 4,none⟩ = some (.bool ((rd_T46 l0 x5_1).f4)) ∧ w'.cell? (ad177.add ((x5_1).toNat * 5)) = some (.int .i64 ((rd_T46 l1 x5_1).f0)) ∧ w'.cell? ⟨(ad177.add ((x5_1).toNat * 5)).block,(ad177.add ((x5_1).toNat * 5)).off + 1,none⟩ = some (.string ((rd_T46 l1 x5_1).f1)) ∧ w'.cell? ⟨(ad177.add ((x5_1).toNat * 5)).block,(ad177.add ((x5_1).toNat * 5)).off + 2,none⟩ = some (.int .i64 ((rd_T46 l1 x5_1).f2)) ∧ w'.cell? ⟨(ad177.add ((x5_1).toNat * 5)).block,(ad177.add ((x5_1).toNat * 5)).off + 3,none⟩ = some (.int .i64 ((rd_T46 l1 x5_1).f3)) ∧ w'.cell? ⟨(ad177.add ((x5_1).toNat * 5)).block,(ad177.add ((x5_1).toNat * 5)).off + 4,none⟩ = some (.bool ((rd_T46 l1 x5_1).f4))) (ds:=[]) #[false,false,false,false,false,false,false,false,false,false] (by kernel_rfl) rfl rfl ⟨((HB.out.cell (World.block_lt_of_cell? w _ hw176_0)).trans hw176_0),((HB.out.cell (World.block_lt_of_cell? w _ hw176_1)).trans hw176_1),((HB.out.cell (World.block_lt_of_cell? w _ hw176_2)).trans hw176_2),((HB.out.cell (World.block_lt_of_cell? w _ hw176_3)).trans hw176_3),((HB.out.cell (World.block_lt_of_cell? w _ hw176_4)).trans hw176_4),((HB.out.cell (World.block_lt_of_cell? w _ hw177_0)).trans hw177_0),((HB.out.cell (World.block_lt_of_cell? w _ hw177_1)).trans hw177_1),((HB.out.cell (World.block_lt_of_cell? w _ hw177_2)).trans hw177_2),((HB.out.cell (World.block_lt_of_cell? w _ hw177_3)).trans hw177_3),((HB.out.cell (World.block_lt_of_cell? w _ hw177_4)).trans hw177_4)⟩ (fun hHeld => ?_);refine with_tabW laws_eqSignS.tab6 laws_eqSignS.bits6 (fun HT_ HW_ => ?_)
      generalize wr.drew = w9 at HB hx176_0 hx176_1 hx176_2 hx176_3 hx176_4 hx177_0 hx177_1 hx177_2 hx177_3 hx177_4 hHeld ⊢
      refine pure_ (i:=0) (N:=some 17) (v:=?_) (a':=?_) #[true,false,false,false,false,false,false,false,false,false] rfl rfl (any_of HT_.out (by kernel_rfl)) (fun _ _ _ h => h) (Or.inl ⟨by rfl,?_⟩) ?_ ?_
      rotate_left
      ·intro w'
       go_simp
       with_reducible rfl
      rotate_left
      ·simp only [Act.put,List.setIfInBounds_toArray,List.set_cons_zero,List.set_cons_succ,i64_w,i32_w]
       rfl
      refine pure_ (i:=1) (N:=some 18) (v:=?_) (a':=?_) #[true,true,false,false,false,false,false,false,false,false] rfl rfl (any_of HT_.out (by kernel_rfl)) (fun _ _ _ h => h) (Or.inl ⟨by rfl,?_⟩) ?_ ?_
      rotate_left
      ·intro w'
       go_simp
       with_reducible rfl
      rotate_left
      ·simp only [Act.put,List.setIfInBounds_toArray,List.set_cons_zero,List.set_cons_succ,i64_w,i32_w]
       rfl
      refine pure_ (i:=2) (N:=some 19) (v:=?_) (a':=?_) #[true,true,true,false,false,false,false,false,false,false] rfl rfl (any_of HT_.out (by kernel_rfl)) (fun _ _ _ h => h) (Or.inl ⟨by rfl,?_⟩) ?_ ?_
      rotate_left
      ·intro w'
       go_simp
       with_reducible rfl
      rotate_left
      ·simp only [Act.put,List.setIfInBounds_toArray,List.set_cons_zero,List.set_cons_succ,i64_w,i32_w]
       rfl
      refine pure_ (i:=4) (N:=some 21) (v:=?_) (a':=?_) #[true,true,true,false,true,false,false,false,false,false] rfl rfl (any_of HT_.out (by kernel_rfl)) (fun _ _ _ h => h) (Or.inl ⟨by rfl,?_⟩) ?_ ?_
      rotate_left
      ·intro w'
       go_simp
       with_reducible rfl
      rotate_left
      ·simp only [Act.put,List.setIfInBounds_toArray,List.set_cons_zero,List.set_cons_succ,i64_w,i32_w]
       rfl
      refine pure_ (i:=5) (N:=some 22) (v:=?_) (a':=?_) #[true,true,true,false,true,true,false,false,false,false] rfl rfl (any_of HT_.out (by kernel_rfl)) (fun _ _ _ h => h) (Or.inl ⟨by rfl,?_⟩) ?_ ?_
      rotate_left
      ·intro w'
       go_simp
       with_reducible rfl
      rotate_left
      ·simp only [Act.put,List.setIfInBounds_toArray,List.set_cons_zero,List.set_cons_succ,i64_w,i32_w]
       rfl
      refine pure_ (i:=6) (N:=some 23) (v:=?_) (a':=?_) #[true,true,true,false,true,true,true,false,false,false] rfl rfl (any_of HT_.out (by kernel_rfl)) (fun _ _ _ h => h) (Or.inl ⟨by rfl,?_⟩) ?_ ?_
      rotate_left
      ·intro w'
       go_simp
       with_reducible rfl
      rotate_left
      ·simp only [Act.put,List.setIfInBounds_toArray,List.set_cons_zero,List.set_cons_succ,i64_w,i32_w]
       rfl
      refine take_ (i:=3) (N:=some 20) (v:=?_) (a':=?_) #[true,true,true,true,true,true,true,false,false,false] rfl rfl (take_ofW HT_.out HW_.out (by kernel_rfl)) (fun _ _ _ h => h) (Or.inl ⟨by rfl,?_⟩) hHeld ?_ ?_
      rotate_left
      ·rintro w' ⟨s0,s1,s2,s3,s4,s5,s6,s7,s8,s9⟩
       go_simp
       with_reducible rfl
      rotate_left
      ·simp only [Act.put,List.setIfInBounds_toArray,List.set_cons_zero,List.set_cons_succ,i64_w,i32_w]
       rfl
      refine take_ (i:=7) (N:=some 24) (v:=?_) (a':=?_) #[true,true,true,true,true,true,true,true,false,false] rfl rfl (take_ofW HT_.out HW_.out (by kernel_rfl)) (fun _ _ _ h => h) (Or.inl ⟨by rfl,?_⟩) hHeld ?_ ?_
      rotate_left
      ·rintro w' ⟨s0,s1,s2,s3,s4,s5,s6,s7,s8,s9⟩
       go_simp
       with_reducible rfl
      rotate_left
      ·simp only [Act.put,List.setIfInBounds_toArray,List.set_cons_zero,List.set_cons_succ,i64_w,i32_w]
       rfl
      refine one_ (i:=8) (N:=some 25) #[true,true,true,true,true,true,true,true,true,false] rfl rfl (one_of HT_.out (by kernel_rfl)) (by decide) (fun K hK => ?_)
      refine goes_ Try.func58 (by kernel_rfl) rfl #[.agg #[.int .i64 ((rd_T46 l0 x5_1).f0),.string ((rd_T46 l0 x5_1).f1),.int .i64 ((rd_T46 l0 x5_1).f2),.int .i64 ((rd_T46 l0 x5_1).f3),.bool ((rd_T46 l0 x5_1).f4)],.agg #[.int .i64 ((rd_T46 l1 x5_1).f0),.string ((rd_T46 l1 x5_1).f1),.int .i64 ((rd_T46 l1 x5_1).f2),.int .i64 ((rd_T46 l1 x5_1).f3),.bool ((rd_T46 l1 x5_1).f4)]] (by rfl) rfl rfl (by (try simp only [List.map_toArray,List.map_cons,List.map_nil]);first|done|rfl|(simp only [List.length_drop,List.length_take];rfl)) ?_
      with_reducible refine (laws_eqSign.calls ((rd_T46 l0 x5_1).f0) ((rd_T46 l0 x5_1).f1) ((rd_T46 l0 x5_1).f2) ((rd_T46 l0 x5_1).f3) ((rd_T46 l0 x5_1).f4) ((rd_T46 l1 x5_1).f0) ((rd_T46 l1 x5_1).f1) ((rd_T46 l1 x5_1).f2) ((rd_T46 l1 x5_1).f3) ((rd_T46 l1 x5_1).f4) true _ A7.out).mono ?_
      rintro e w10 ⟨rfl,hb⟩
      refine ⟨_,rfl,?_⟩
      have n0_:=Aside0.mk (below_step (by repeat (first|(with_reducible first|exact HB.out|apply below_alloc|apply pw_below_drewN|apply below_drew1)|exact HB.out)) hb)
      clear HB
      have HB:=n0_
      clear n0_
      (try clear hb)
      refine hK.out _ _ ⟨((HB.out.cell (World.block_lt_of_cell? w _ hw176_0)).trans hw176_0),((HB.out.cell (World.block_lt_of_cell? w _ hw176_1)).trans hw176_1),((HB.out.cell (World.block_lt_of_cell? w _ hw176_2)).trans hw176_2),((HB.out.cell (World.block_lt_of_cell? w _ hw176_3)).trans hw176_3),((HB.out.cell (World.block_lt_of_cell? w _ hw176_4)).trans hw176_4),((HB.out.cell (World.block_lt_of_cell? w _ hw177_0)).trans hw177_0),((HB.out.cell (World.block_lt_of_cell? w _ hw177_1)).trans hw177_1),((HB.out.cell (World.block_lt_of_cell? w _ hw177_2)).trans hw177_2),((HB.out.cell (World.block_lt_of_cell? w _ hw177_3)).trans hw177_3),((HB.out.cell (World.block_lt_of_cell? w _ hw177_4)).trans hw177_4)⟩ (fun hHeld => ?_)
      clear hK K
      refine norm_ (a':=?_) ?_ ?_
      rotate_left
      ·show Act.put _ (some 25) _ = _
       simp only [Act.put,List.setIfInBounds_toArray,List.set_cons_zero,List.set_cons_succ,i64_w,i32_w]
       rfl
      refine pure_ (i:=9) (N:=some 26) (v:=?_) (a':=?_) #[true,true,true,true,true,true,true,true,true,true] rfl rfl (any_of HT_.out (by kernel_rfl)) (fun _ _ _ h => h) (Or.inl ⟨by rfl,?_⟩) ?_ ?_
      rotate_left
      ·intro w'
       go_simp
       with_reducible rfl
      rotate_left
      ·simp only [Act.put,List.setIfInBounds_toArray,List.set_cons_zero,List.set_cons_succ,i64_w,i32_w]
       rfl
      refine done_ (done_of HT_.out (by kernel_rfl)) ?_
      try go_wp2
      go_roundg k1
      case measure => have:=HK1.out;omega
      case rel => exact ⟨(wrap64 (x5_1 + 1)),(by first|rfl|(simp;done)|(simp [*];done)),H',⟨by have:=HK1.out;omega⟩,⟨by repeat (first|(with_reducible first|exact HB.out|apply below_alloc|apply pw_below_drewN|apply below_drew1)|exact HB.out)⟩⟩
     ·replace c8:=Bool.eq_false_iff.mpr c8
      subst c8
      have H1 : (some false) = some r:=by rw [if_neg (show ¬ (false = true) by decide)] at H;exact H
      clear H
      have H:=H1
      clear H1
      obtain rfl:=Option.some.inj H
      try go_wp2
      have n0_:=Aside0.mk (below_drew1 HB.out)
      clear HB
      have HB:=n0_
      clear n0_
      have p176 : 0 ≤ (x5_1 : Int):=of_decide_eq_true (by first|(with_reducible assumption)|assumption)
      have q176 : x5_1 < (l0.length : Int):=of_decide_eq_true (by first|(with_reducible assumption)|assumption)
      obtain ⟨ad176,e176,hx176_0,hx176_1,hx176_2,hx176_3,hx176_4⟩:=at_T46 HR0.out x5_1 p176 q176
      have hw176_4:=hx176_4
      have hw176_3:=hx176_3
      have hw176_2:=hx176_2
      have hw176_1:=hx176_1
      have hw176_0:=hx176_0
      cases e176
      replace hx176_0:=(HB.out.cell (World.block_lt_of_cell? w _ hx176_0)).trans hx176_0
      replace hx176_1:=(HB.out.cell (World.block_lt_of_cell? w _ hx176_1)).trans hx176_1
      replace hx176_2:=(HB.out.cell (World.block_lt_of_cell? w _ hx176_2)).trans hx176_2
      replace hx176_3:=(HB.out.cell (World.block_lt_of_cell? w _ hx176_3)).trans hx176_3
      replace hx176_4:=(HB.out.cell (World.block_lt_of_cell? w _ hx176_4)).trans hx176_4
      replace p176:=eq_true p176
      replace q176:=eq_true q176
      have p177 : 0 ≤ (x5_1 : Int):=of_decide_eq_true (by first|(with_reducible assumption)|assumption)
      have q177 : x5_1 < (l1.length : Int):=of_decide_eq_true (by first|(with_reducible assumption)|assumption)
      obtain ⟨ad177,e177,hx177_0,hx177_1,hx177_2,hx177_3,hx177_4⟩:=at_T46 HR1.out x5_1 p177 q177
      have hw177_4:=hx177_4
      have hw177_3:=hx177_3
      have hw177_2:=hx177_2
      have hw177_1:=hx177_1
      have hw177_0:=hx177_0
      cases e177
      replace hx177_0:=(HB.out.cell (World.block_lt_of_cell? w _ hx177_0)).trans hx177_0
      replace hx177_1:=(HB.out.cell (World.block_lt_of_cell? w _ hx177_1)).trans hx177_1
      replace hx177_2:=(HB.out.cell (World.block_lt_of_cell? w _ hx177_2)).trans hx177_2
      replace hx177_3:=(HB.out.cell (World.block_lt_of_cell? w _ hx177_3)).trans hx177_3
      replace hx177_4:=(HB.out.cell (World.block_lt_of_cell? w _ hx177_4)).trans hx177_4
      replace p177:=eq_true p177
      replace q177:=eq_true q177
      refine start_ (n:=10) (S:=fun w' => w'.cell? (ad176.add ((x5_1).toNat * 5)) = some (.int .i64 ((rd_T46 l0 x5_1).f0)) ∧ w'.cell? ⟨(ad176.add ((x5_1).toNat * 5)).block,(ad176.add ((x5_1).toNat * 5)).off + 1,none⟩ = some (.string ((rd_T46 l0 x5_1).f1)) ∧ w'.cell? ⟨(ad176.add ((x5_1).toNat * 5)).block,(ad176.add ((x5_1).toNat * 5)).off + 2,none⟩ = some (.int .i64 ((rd_T46 l0 x5_1).f2)) ∧ w'.cell? ⟨(ad176.add ((x5_1).toNat * 5)).block,(ad176.add ((x5_1).toNat * 5)).off + 3,none⟩ = some (.int .i64 ((rd_T46 l0 x5_1).f3)) ∧ w'.cell? ⟨(ad176.add ((x5_1).toNat * 5)).block,(ad176.add ((x5_1).toNat * 5)).off + 4,none⟩ = some (.bool ((rd_T46 l0 x5_1).f4)) ∧ w'.cell? (ad177.add ((x5_1).toNat * 5)) = some (.int .i64 ((rd_T46 l1 x5_1).f0)) ∧ w'.cell? ⟨(ad177.add ((x5_1).toNat * 5)).block,(ad177.add ((x5_1).toNat * 5)).off + 1,none⟩ = some (.string ((rd_T46 l1 x5_1).f1)) ∧ w'.cell? ⟨(ad177.add ((x5_1).toNat * 5)).block,(ad177.add ((x5_1).toNat * 5)).off + 2,none⟩ = some (.int .i64 ((rd_T46 l1 x5_1).f2)) ∧ w'.cell? ⟨(ad177.add ((x5_1).toNat * 5)).block,(ad177.add ((x5_1).toNat * 5)).off + 3,none⟩ = some (.int .i64 ((rd_T46 l1 x5_1).f3)) ∧ w'.cell? ⟨(ad177.add ((x5_1).toNat * 5)).block,(ad177.add ((x5_1).toNat * 5)).off + 4,none⟩ = some (.bool ((rd_T46 l1 x5_1).f4))) (ds:=[]) #[false,false,false,false,false,false,false,false,false,false] (by kernel_rfl) rfl rfl ⟨((HB.out.cell (World.block_lt_of_cell? w _ hw176_0)).trans hw176_0),((HB.out.cell (World.block_lt_of_cell? w _ hw176_1)).trans hw176_1),((HB.out.cell (World.block_lt_of_cell? w _ hw176_2)).trans hw176_2),((HB.out.cell (World.block_lt_of_cell? w _ hw176_3)).trans hw176_3),((HB.out.cell (World.block_lt_of_cell? w _ hw176_4)).trans hw176_4),((HB.out.cell (World.block_lt_of_cell? w _ hw177_0)).trans hw177_0),((HB.out.cell (World.block_lt_of_cell? w _ hw177_1)).trans hw177_1),((HB.out.cell (World.block_lt_of_cell? w _ hw177_2)).trans hw177_2),((HB.out.cell (World.block_lt_of_cell? w _ hw177_3)).trans hw177_3),((HB.out.cell (World.block_lt_of_cell? w _ hw177_4)).trans hw177_4)⟩ (fun hHeld => ?_);refine with_tabW laws_eqSignS.tab6 laws_eqSignS.bits6 (fun HT_ HW_ => ?_)
      generalize wr.drew = w11 at HB hx176_0 hx176_1 hx176_2 hx176_3 hx176_4 hx177_0 hx177_1 hx177_2 hx177_3 hx177_4 hHeld ⊢
      refine pure_ (i:=0) (N:=some 17) (v:=?_) (a':=?_) #[true,false,false,false,false,false,false,false,false,false] rfl rfl (any_of HT_.out (by kernel_rfl)) (fun _ _ _ h => h) (Or.inl ⟨by rfl,?_⟩) ?_ ?_
      rotate_left
      ·intro w'
       go_simp
       with_reducible rfl
      rotate_left
      ·simp only [Act.put,List.setIfInBounds_toArray,List.set_cons_zero,List.set_cons_succ,i64_w,i32_w]
       rfl
      refine pure_ (i:=1) (N:=some 18) (v:=?_) (a':=?_) #[true,true,false,false,false,false,false,false,false,false] rfl rfl (any_of HT_.out (by kernel_rfl)) (fun _ _ _ h => h) (Or.inl ⟨by rfl,?_⟩) ?_ ?_
      rotate_left
      ·intro w'
       go_simp
       with_reducible rfl
      rotate_left
      ·simp only [Act.put,List.setIfInBounds_toArray,List.set_cons_zero,List.set_cons_succ,i64_w,i32_w]
       rfl
      refine pure_ (i:=2) (N:=some 19) (v:=?_) (a':=?_) #[true,true,true,false,false,false,false,false,false,false] rfl rfl (any_of HT_.out (by kernel_rfl)) (fun _ _ _ h => h) (Or.inl ⟨by rfl,?_⟩) ?_ ?_
      rotate_left
      ·intro w'
       go_simp
       with_reducible rfl
      rotate_left
      ·simp only [Act.put,List.setIfInBounds_toArray,List.set_cons_zero,List.set_cons_succ,i64_w,i32_w]
       rfl
      refine pure_ (i:=4) (N:=some 21) (v:=?_) (a':=?_) #[true,true,true,false,true,false,false,false,false,false] rfl rfl (any_of HT_.out (by kernel_rfl)) (fun _ _ _ h => h) (Or.inl ⟨by rfl,?_⟩) ?_ ?_
      rotate_left
      ·intro w'
       go_simp
       with_reducible rfl
      rotate_left
      ·simp only [Act.put,List.setIfInBounds_toArray,List.set_cons_zero,List.set_cons_succ,i64_w,i32_w]
       rfl
      refine pure_ (i:=5) (N:=some 22) (v:=?_) (a':=?_) #[true,true,true,false,true,true,false,false,false,false] rfl rfl (any_of HT_.out (by kernel_rfl)) (fun _ _ _ h => h) (Or.inl ⟨by rfl,?_⟩) ?_ ?_
      rotate_left
      ·intro w'
       go_simp
       with_reducible rfl
      rotate_left
      ·simp only [Act.put,List.setIfInBounds_toArray,List.set_cons_zero,List.set_cons_succ,i64_w,i32_w]
       rfl
      refine pure_ (i:=6) (N:=some 23) (v:=?_) (a':=?_) #[true,true,true,false,true,true,true,false,false,false] rfl rfl (any_of HT_.out (by kernel_rfl)) (fun _ _ _ h => h) (Or.inl ⟨by rfl,?_⟩) ?_ ?_
      rotate_left
      ·intro w'
       go_simp
       with_reducible rfl
      rotate_left
      ·simp only [Act.put,List.setIfInBounds_toArray,List.set_cons_zero,List.set_cons_succ,i64_w,i32_w]
       rfl
      refine take_ (i:=3) (N:=some 20) (v:=?_) (a':=?_) #[true,true,true,true,true,true,true,false,false,false] rfl rfl (take_ofW HT_.out HW_.out (by kernel_rfl)) (fun _ _ _ h => h) (Or.inl ⟨by rfl,?_⟩) hHeld ?_ ?_
      rotate_left
      ·rintro w' ⟨s0,s1,s2,s3,s4,s5,s6,s7,s8,s9⟩
       go_simp
       with_reducible rfl
      rotate_left
      ·simp only [Act.put,List.setIfInBounds_toArray,List.set_cons_zero,List.set_cons_succ,i64_w,i32_w]
       rfl
      refine take_ (i:=7) (N:=some 24) (v:=?_) (a':=?_) #[true,true,true,true,true,true,true,true,false,false] rfl rfl (take_ofW HT_.out HW_.out (by kernel_rfl)) (fun _ _ _ h => h) (Or.inl ⟨by rfl,?_⟩) hHeld ?_ ?_
      rotate_left
      ·rintro w' ⟨s0,s1,s2,s3,s4,s5,s6,s7,s8,s9⟩
       go_simp
       with_reducible rfl
      rotate_left
      ·simp only [Act.put,List.setIfInBounds_toArray,List.set_cons_zero,List.set_cons_succ,i64_w,i32_w]
       rfl
      refine one_ (i:=8) (N:=some 25) #[true,true,true,true,true,true,true,true,true,false] rfl rfl (one_of HT_.out (by kernel_rfl)) (by decide) (fun K hK => ?_)
      refine goes_ Try.func58 (by kernel_rfl) rfl #[.agg #[.int .i64 ((rd_T46 l0 x5_1).f0),.string ((rd_T46 l0 x5_1).f1),.int .i64 ((rd_T46 l0 x5_1).f2),.int .i64 ((rd_T46 l0 x5_1).f3),.bool ((rd_T46 l0 x5_1).f4)],.agg #[.int .i64 ((rd_T46 l1 x5_1).f0),.string ((rd_T46 l1 x5_1).f1),.int .i64 ((rd_T46 l1 x5_1).f2),.int .i64 ((rd_T46 l1 x5_1).f3),.bool ((rd_T46 l1 x5_1).f4)]] (by rfl) rfl rfl (by (try simp only [List.map_toArray,List.map_cons,List.map_nil]);first|done|rfl|(simp only [List.length_drop,List.length_take];rfl)) ?_
      with_reducible refine (laws_eqSign.calls ((rd_T46 l0 x5_1).f0) ((rd_T46 l0 x5_1).f1) ((rd_T46 l0 x5_1).f2) ((rd_T46 l0 x5_1).f3) ((rd_T46 l0 x5_1).f4) ((rd_T46 l1 x5_1).f0) ((rd_T46 l1 x5_1).f1) ((rd_T46 l1 x5_1).f2) ((rd_T46 l1 x5_1).f3) ((rd_T46 l1 x5_1).f4) false _ A7.out).mono ?_
      rintro e w12 ⟨rfl,hb⟩
      refine ⟨_,rfl,?_⟩
      have n0_:=Aside0.mk (below_step (by repeat (first|(with_reducible first|exact HB.out|apply below_alloc|apply pw_below_drewN|apply below_drew1)|exact HB.out)) hb)
      clear HB
      have HB:=n0_
      clear n0_
      (try clear hb)
      refine hK.out _ _ ⟨((HB.out.cell (World.block_lt_of_cell? w _ hw176_0)).trans hw176_0),((HB.out.cell (World.block_lt_of_cell? w _ hw176_1)).trans hw176_1),((HB.out.cell (World.block_lt_of_cell? w _ hw176_2)).trans hw176_2),((HB.out.cell (World.block_lt_of_cell? w _ hw176_3)).trans hw176_3),((HB.out.cell (World.block_lt_of_cell? w _ hw176_4)).trans hw176_4),((HB.out.cell (World.block_lt_of_cell? w _ hw177_0)).trans hw177_0),((HB.out.cell (World.block_lt_of_cell? w _ hw177_1)).trans hw177_1),((HB.out.cell (World.block_lt_of_cell? w _ hw177_2)).trans hw177_2),((HB.out.cell (World.block_lt_of_cell? w _ hw177_3)).trans hw177_3),((HB.out.cell (World.block_lt_of_cell? w _ hw177_4)).trans hw177_4)⟩ (fun hHeld => ?_)
      clear hK K
      refine norm_ (a':=?_) ?_ ?_
      rotate_left
      ·show Act.put _ (some 25) _ = _
       simp only [Act.put,List.setIfInBounds_toArray,List.set_cons_zero,List.set_cons_succ,i64_w,i32_w]
       rfl
      refine pure_ (i:=9) (N:=some 26) (v:=?_) (a':=?_) #[true,true,true,true,true,true,true,true,true,true] rfl rfl (any_of HT_.out (by kernel_rfl)) (fun _ _ _ h => h) (Or.inl ⟨by rfl,?_⟩) ?_ ?_
      rotate_left
      ·intro w'
       go_simp
       with_reducible rfl
      rotate_left
      ·simp only [Act.put,List.setIfInBounds_toArray,List.set_cons_zero,List.set_cons_succ,i64_w,i32_w]
       rfl
      refine done_ (done_of HT_.out (by kernel_rfl)) ?_
      try go_wp2
      go_ret
      exact ⟨by first|rfl|(simp [errW_none,errW_some] <;> rfl)|(simp [*,errW_none,errW_some] <;> rfl),by repeat (first|(with_reducible first|exact HB.out|apply below_alloc|apply pw_below_drewN|apply below_drew1)|exact HB.out)⟩
    ·rw [if_neg c4] at H
     have c4b0 : decide (x5_1 < (l0.length : Int)) = false:=decide_eq_false c4
     clear c4
     obtain rfl:=Option.some.inj H
     go_wp2
     go_ret
     exact ⟨by first|rfl|(simp [errW_none,errW_some] <;> rfl)|(simp [*,errW_none,errW_some] <;> rfl),by repeat (first|(with_reducible first|exact HB.out|apply below_alloc|apply pw_below_drewN|apply below_drew1)|exact HB.out)⟩
 ·rw [if_neg c3] at H
  have c3b0 : ((l0.length : Int) == (l1.length : Int)) = false:=beq_eq_false_iff_ne.mpr c3
  have c3b1 : ((l0.length : Int) != (l1.length : Int)) = true:=bne_iff_ne.mpr c3
  have c3b2 : (l0.length == l1.length) = false:=by first|simpa using c3|(simp at c3 ⊢;omega)
  obtain rfl:=Option.some.inj H
  go_enter Try.func33,Try.ntmps33
  go_wp2
  go_ret
  exact ⟨by first|rfl|(simp [errW_none,errW_some] <;> rfl)|(simp [*,errW_none,errW_some] <;> rfl),by repeat (first|(with_reducible first|exact HB.out|apply below_alloc|apply pw_below_drewN|apply below_drew1)|exact HB.out)⟩

/-! ### laws_markText: function 59 -/
def laws_markText.l0 : Nat → Int → ByteArray → Option (ByteArray)
 | 0,_,_ => none
 | k + 1,x0,x3 => if x0 > 0 then ((some (([(wrap64 (48 + (Int.tmod x0 10))) % 256] : List Int) : List Int)).bind fun y179 => (if (strOfNums y179).size + x3.size ≤ 9223372036854775807 then (laws_markText.l0 k (wrap64 (Int.tdiv x0 10)) ((strOfNums y179) ++ x3)) else (none))) else (if 1 + x3.size ≤ 9223372036854775807 then (some ((⟨#[109]⟩ : ByteArray) ++ x3)) else (none))
def laws_markText.f (k : Nat) (a0 : Int) : Option (ByteArray):=if a0 ≤ 0 then (some (⟨#[109,48]⟩ : ByteArray)) else (laws_markText.l0 k a0 (⟨#[]⟩ : ByteArray))
theorem laws_markText.mono_l : ∀ k,(∀ y0 y1,LeO (laws_markText.l0 k y0 y1) (laws_markText.l0 (k + 1) y0 y1))
 | 0 => fun _ _ r h => by simp [laws_markText.l0] at h
 | k + 1 => by
  have ih0:=laws_markText.mono_l k
  ·intro y0 y1
   unfold laws_markText.l0
   repeat' first
   | (with_reducible exact ih0 _ _)
   | (with_reducible exact LeO.refl _)
   | (with_reducible exact LeO.none _)
   | (with_reducible refine LeO.ite ?_ ?_)
   | (with_reducible refine LeO.bind ?_ (fun _ => ?_))
   | exact ih0 _ _
   | exact LeO.none _
   | refine LeO.ite ?_ ?_
   | refine LeO.bind ?_ (fun _ => ?_)
theorem laws_markText.mono : ∀ a0 k,LeO (laws_markText.f k a0) (laws_markText.f (k + 1) a0):=by
 intro a0 k
 have ih0:=laws_markText.mono_l k
 unfold laws_markText.f
 repeat' first
   | (with_reducible exact ih0 _ _)
   | (with_reducible exact LeO.refl _)
   | (with_reducible exact LeO.none _)
   | (with_reducible refine LeO.ite ?_ ?_)
   | (with_reducible refine LeO.bind ?_ (fun _ => ?_))
   | exact ih0 _ _
   | exact LeO.none _
   | refine LeO.ite ?_ ?_
   | refine LeO.bind ?_ (fun _ => ?_)
set_option maxHeartbeats 8000000 in
set_option maxRecDepth 100000 in
theorem laws_markText.calls (k : Nat) (a0 : Int) (r : ByteArray) (w : World) (h : laws_markText.f k a0 = some r) :
  Calls Try.prog 59 #[.int .i64 a0] w fun e w' => e = .returned (.string r) ∧ Below w.heap.size w w':=by
 have HB:=Aside0.mk (Below.refl w.heap.size w)
 have H : (if a0 ≤ 0 then (some (⟨#[109,48]⟩ : ByteArray)) else (laws_markText.l0 k a0 (⟨#[]⟩ : ByteArray))) = some r:=h
 clear h
 by_cases c2 : a0 ≤ 0
 ·rw [if_pos c2] at H
  have c2b0 : decide (a0 ≤ 0) = true:=decide_eq_true c2
  clear c2
  obtain rfl:=Option.some.inj H
  go_enter Try.func59,Try.ntmps59
  go_wp2
  go_ret
  exact ⟨by first|rfl|(simp [errW_none,errW_some] <;> rfl)|(simp [*,errW_none,errW_some] <;> rfl),by repeat (first|(with_reducible first|exact HB.out|apply below_alloc|apply pw_below_drewN|apply below_drew1)|exact HB.out)⟩
 ·rw [if_neg c2] at H
  have c2b0 : decide (a0 ≤ 0) = false:=decide_eq_false c2
  clear c2
  have H':=Aside0.mk H
  clear H
  go_enter Try.func59,Try.ntmps59
  go_wp2
  go_loopg [0,3] k (fun kq v0 v3 w' => ∃ (x0_1 : Int) (x3_1 : ByteArray),v0 = .int .i64 x0_1 ∧ v3 = .string x3_1 ∧ Aside0 (laws_markText.l0 kq x0_1 x3_1 = some r) ∧ Aside0 (kq ≤ k) ∧ Aside0 (Below w.heap.size w w'))
  case atStart => exact ⟨(a0),((⟨#[]⟩ : ByteArray)),(by first|rfl|(simp;done)|(simp [*];done)),(by first|rfl|(simp;done)|(simp [*];done)),H',⟨Nat.le_refl _⟩,⟨by repeat (first|(with_reducible first|exact HB.out|apply below_alloc|apply pw_below_drewN|apply below_drew1)|exact HB.out)⟩⟩
  case round =>
   clear H'
   try clear c2
   try clear c2b0
   obtain ⟨x0_1,x3_1,rfl,rfl,HA,HK1,HB⟩:=hrel
   cases gk with
   | zero => exact absurd HA.out (by simp [laws_markText.l0])
   | succ k1 =>
    have H:=HA.out
    clear HA
    simp only [laws_markText.l0] at H
    by_cases c3 : x0_1 > 0
    ·rw [if_pos c3] at H
     have c3b0 : decide (0 < x0_1) = true:=decide_eq_true c3
     clear c3
     obtain ⟨y179,hy179⟩ : ∃ y_ : List Int,y_ = (([(wrap64 (48 + (Int.tmod x0_1 10))) % 256] : List Int)):=⟨_,rfl⟩
     replace H : (if (strOfNums y179).size + x3_1.size ≤ 9223372036854775807 then (laws_markText.l0 k1 (wrap64 (Int.tdiv x0_1 10)) ((strOfNums y179) ++ x3_1)) else (none)) = some r:=by first|(rw [hy179];with_reducible exact H)|(have H2_:=(Option.bind_some _ _).symm.trans H;rw [hy179];with_reducible exact H2_)|(have H2_:=(Option.bind_some _ _).symm.trans H;with_reducible exact H2_)|with_reducible exact H|(rw [hy179];exact H)|exact H
     have Ny179:=Aside0.mk hy179
     clear hy179
     by_cases c4 : (strOfNums y179).size + x3_1.size ≤ 9223372036854775807
     rotate_left
     ·rw [if_neg c4] at H
      exact absurd H (by simp)
     rw [if_pos c4] at H
     have c4b0:=eq_true c4
     have c4b1 : decide ((strOfNums y179).size + x3_1.size ≤ 9223372036854775807) = true:=decide_eq_true c4
     try have c4b2 : (9223372036854775807 < (strOfNums y179).size + x3_1.size) = False:=eq_false (Nat.not_lt.2 c4)
     have H':=Aside0.mk H
     clear H
     go_wp2_with (first|((with_reducible refine gate_dst (N:=12) rfl ?_);refine Kd.R_lit (Kd.int .u8) _ 5 ?hg (N:=12) ?hd (xs:=([(wrap64 (48 + (Int.tmod x0_1 10))) % 256] : List Int)) (inner:=[.int .u8 ((wrap64 (48 + (Int.tmod x0_1 10))) % 256)]) (ok:=fun _ => True) (okp:=fun _ => True) ?hr ?hp (fun _ hk => hk) trivial (Below.refl _ _) (Nat.le_refl _) (by simp) ?_;(case hd => rfl);(case hg => rfl);(case hr => first|(go_simp;done)|(go_simp;rfl));(case hp => exact (Reps.one (show Kd.M (Kd.int .u8) _ _ _ ((wrap64 (48 + (Int.tmod x0_1 10))) % 256) [.int .u8 ((wrap64 (48 + (Int.tmod x0_1 10))) % 256)] from rfl) (Reps.none _ _)));intro v180 w5 ho6 hb hg_ hnew_;clear hg_ hnew_;(first|rw [← Ny179.out] at ho6|(simp only [Int.reduceToNat] at ho6;rw [← Ny179.out] at ho6));have n0_:=Aside0.mk (Kd.R_lower ho6 (below_size (by repeat (first|(with_reducible first|exact HB.out|apply below_alloc|apply pw_below_drewN|apply below_drew1)|exact HB.out))));have n1_:=Aside0.mk (below_step (by repeat (first|(with_reducible first|exact HB.out|apply below_alloc|apply pw_below_drewN|apply below_drew1)|exact HB.out)) hb);clear HB;have HO181:=n0_;have HB:=n1_;clear n0_ n1_;clear hb ho6;have hcv7:=own_string (P:=Try.prog) Try.underlying31 Try.underlying5 Try.underlying9 (Kd.own_of_R HO181.out)))
     go_roundg k1
     case measure => have:=HK1.out;omega
     case rel => exact ⟨(wrap64 (Int.tdiv x0_1 10)),((strOfNums y179) ++ x3_1),(by first|rfl|(simp;done)|(simp [*];done)),(by first|rfl|(simp;done)|(simp [*];done)),H',⟨by have:=HK1.out;omega⟩,⟨by repeat (first|(with_reducible first|exact HB.out|apply below_alloc|apply pw_below_drewN|apply below_drew1)|exact HB.out)⟩⟩
    ·rw [if_neg c3] at H
     have c3b0 : decide (0 < x0_1) = false:=decide_eq_false c3
     clear c3
     by_cases c8 : 1 + x3_1.size ≤ 9223372036854775807
     rotate_left
     ·rw [if_neg c8] at H
      exact absurd H (by simp)
     rw [if_pos c8] at H
     have c8b0:=eq_true c8
     have c8b1 : decide (1 + x3_1.size ≤ 9223372036854775807) = true:=decide_eq_true c8
     try have c8b2 : (9223372036854775807 < 1 + x3_1.size) = False:=eq_false (Nat.not_lt.2 c8)
     obtain rfl:=Option.some.inj H
     go_wp2
     go_ret
     exact ⟨by first|rfl|(simp [errW_none,errW_some] <;> rfl)|(simp [*,errW_none,errW_some] <;> rfl),by repeat (first|(with_reducible first|exact HB.out|apply below_alloc|apply pw_below_drewN|apply below_drew1)|exact HB.out)⟩

end Go.Proofs.Ytbkibnjpolnajaa.KSg
