/- Contracts of functions of the program and of the reference, each a Lean function and the proof that Go comes to its answer. Written by wip/pp/pp.py out of the kit's print, for this claim; nothing of it is trusted: Lean checks it. -/
import Derived.Test.YtbkibnjpolnajaaKSax0
import Derived.Test.YtbkibnjpolnajaaKSax4
import Derived.Test.YtbkibnjpolnajaaKSax5
namespace Go.Proofs.Ytbkibnjpolnajaa.KSa
open Go.RowKit Go.Proofs.YtbkibnjpolnajaaW.PrintWords Go.Proofs.YtbkibnjpolnajaaW.PrintLast Go.Proofs.YtbkibnjpolnajaaW.PrintMore
attribute [local go_sem] max2_int min2_int max_two min_two max_three min_three max_four min_four   -- for this text's walks alone
set_option linter.unusedVariables false
set_option linter.unusedSimpArgs false

set_option linter.unusedSectionVars false
variable [fk_impl_run] [fk_strings_IndexByte] [fk_spec_SymbolByte]
/-! ### impl_SignsOf: function 32 -/
mutual
def impl_SignsOf.l0 : Nat → ByteArray → List (S46) → Int → Option ((List (S46)) × Bool)
 | 0,_,_,_ => none
 | k + 1,x0,x4,x5 => if x5 < (x0.size : Int) then (if 0 ≤ x5 then (if (bt x0 x5) = 32 then (impl_SignsOf.j1 k x0 x4 x5 (bt x0 x5) ((bt x0 x5) == 32)) else (if (bt x0 x5) = 9 then (impl_SignsOf.j1 k x0 x4 x5 (bt x0 x5) ((bt x0 x5) == 9)) else (impl_SignsOf.j1 k x0 x4 x5 (bt x0 x5) ((bt x0 x5) == 10)))) else (none)) else (some (x4,true))
def impl_SignsOf.j1 : Nat → ByteArray → List (S46) → Int → Int → Bool → Option ((List (S46)) × Bool)
 | 0,_,_,_,_,_ => none
 | k + 1,x0,x4,x5,x17,x18 => if x18 = true then (impl_SignsOf.l0 k x0 x4 (wrap64 (x5 + 1))) else (if x17 = 37 then ((fk_impl_run.f k x0 x5 56).bind fun t166 => (impl_SignsOf.l0 k x0 x4 t166)) else ((impl_nextSign.f k x0 x5).bind fun bt167 => (if bt167.2.2.2.2.2 < (x0.size : Int) then (if 0 ≤ bt167.2.2.2.2.2 then (if x4.length < 2932031007402 then (impl_SignsOf.l0 k x0 (x4 ++ [(⟨bt167.1,bt167.2.1,bt167.2.2.1,bt167.2.2.2.1,((bt x0 bt167.2.2.2.2.2) == 40)⟩ : S46)]) bt167.2.2.2.2.2) else (none)) else (none)) else (if x4.length < 2932031007402 then (impl_SignsOf.l0 k x0 (x4 ++ [(⟨bt167.1,bt167.2.1,bt167.2.2.1,bt167.2.2.2.1,false⟩ : S46)]) bt167.2.2.2.2.2) else (none)))))
end
def impl_SignsOf.f (k : Nat) (a0 : ByteArray) : Option ((List (S46)) × Bool):=if (a0.size : Int) > 3000 then (some (([] : List (S46)),false)) else (impl_SignsOf.l0 k a0 ([] : List (S46)) 0)
theorem impl_SignsOf.mono_l : ∀ k,(∀ y0 y1 y2,LeO (impl_SignsOf.l0 k y0 y1 y2) (impl_SignsOf.l0 (k + 1) y0 y1 y2)) ∧ (∀ y0 y1 y2 y3 y4,LeO (impl_SignsOf.j1 k y0 y1 y2 y3 y4) (impl_SignsOf.j1 (k + 1) y0 y1 y2 y3 y4))
 | 0 => ⟨fun _ _ _ r h => by simp [impl_SignsOf.l0] at h,fun _ _ _ _ _ r h => by simp [impl_SignsOf.j1] at h⟩
 | k + 1 => by
  obtain ⟨ih0,ih1⟩:=impl_SignsOf.mono_l k
  refine ⟨?_,?_⟩
  ·intro y0 y1 y2
   unfold impl_SignsOf.l0
   repeat' first
   | (with_reducible exact ih0 _ _ _)
   | (with_reducible exact ih1 _ _ _ _ _)
   | (with_reducible exact fk_impl_run.mono _ _ _ _)
   | (with_reducible exact impl_nextSign.mono _ _ _)
   | (with_reducible exact LeO.refl _)
   | (with_reducible exact LeO.none _)
   | (with_reducible refine LeO.ite ?_ ?_)
   | (with_reducible refine LeO.bind ?_ (fun _ => ?_))
   | exact ih0 _ _ _
   | exact ih1 _ _ _ _ _
   | exact fk_impl_run.mono _ _ _ _
   | exact impl_nextSign.mono _ _ _
   | exact LeO.none _
   | refine LeO.ite ?_ ?_
   | refine LeO.bind ?_ (fun _ => ?_)
  ·intro y0 y1 y2 y3 y4
   unfold impl_SignsOf.j1
   repeat' first
   | (with_reducible exact ih0 _ _ _)
   | (with_reducible exact ih1 _ _ _ _ _)
   | (with_reducible exact fk_impl_run.mono _ _ _ _)
   | (with_reducible exact impl_nextSign.mono _ _ _)
   | (with_reducible exact LeO.refl _)
   | (with_reducible exact LeO.none _)
   | (with_reducible refine LeO.ite ?_ ?_)
   | (with_reducible refine LeO.bind ?_ (fun _ => ?_))
   | exact ih0 _ _ _
   | exact ih1 _ _ _ _ _
   | exact fk_impl_run.mono _ _ _ _
   | exact impl_nextSign.mono _ _ _
   | exact LeO.none _
   | refine LeO.ite ?_ ?_
   | refine LeO.bind ?_ (fun _ => ?_)
theorem impl_SignsOf.mono : ∀ a0 k,LeO (impl_SignsOf.f k a0) (impl_SignsOf.f (k + 1) a0):=by
 intro a0 k
 obtain ⟨ih0,ih1⟩:=impl_SignsOf.mono_l k
 unfold impl_SignsOf.f
 repeat' first
   | (with_reducible exact ih0 _ _ _)
   | (with_reducible exact ih1 _ _ _ _ _)
   | (with_reducible exact fk_impl_run.mono _ _ _ _)
   | (with_reducible exact impl_nextSign.mono _ _ _)
   | (with_reducible exact LeO.refl _)
   | (with_reducible exact LeO.none _)
   | (with_reducible refine LeO.ite ?_ ?_)
   | (with_reducible refine LeO.bind ?_ (fun _ => ?_))
   | exact ih0 _ _ _
   | exact ih1 _ _ _ _ _
   | exact fk_impl_run.mono _ _ _ _
   | exact impl_nextSign.mono _ _ _
   | exact LeO.none _
   | refine LeO.ite ?_ ?_
   | refine LeO.bind ?_ (fun _ => ?_)
set_option maxHeartbeats 8000000 in
set_option maxRecDepth 100000 in
theorem impl_SignsOf.calls (k : Nat) (a0 : ByteArray) (r1 : List (S46)) (r2 : Bool) (w : World) (h : impl_SignsOf.f k a0 = some (r1,r2)) :
  Calls Try.prog 32 #[.string a0] w fun e w' => ∃ v0_ : Value,e = .returned (.tuple #[v0_,.bool r2]) ∧ Kd.R k46 46 w' w.heap.size (fun _ => True) v0_ r1 ∧ Below w.heap.size w w':=by
 have hu46:=Try.underlying46
 have HB:=Aside0.mk (Below.refl w.heap.size w)
 have H : (if (a0.size : Int) > 3000 then (some (([] : List (S46)),false)) else (impl_SignsOf.l0 k a0 ([] : List (S46)) 0)) = some (r1,r2):=h
 clear h
 by_cases c2 : (a0.size : Int) > 3000
 ·rw [if_pos c2] at H
  have c2b0 : decide (3000 < (a0.size : Int)) = true:=decide_eq_true c2
  have c2b1 : decide (3000 < a0.size) = true:=decide_eq_true (by omega)
  clear c2
  simp only [Option.some.injEq,Prod.mk.injEq] at H
  obtain ⟨rfl,rfl⟩:=H
  go_enter Try.func32,Try.ntmps32
  go_wp2
  go_ret2
  exact ⟨_,by first|rfl|(simp [errW_none,errW_some] <;> rfl)|(simp [*,errW_none,errW_some] <;> rfl),by first|exact Kd.R_nil _ _ _ _ _|exact Kd.N_nil _ _ _ _ _|exact Kd.V_nil _ _ _ _ _|exact Kd.Q_nil _ _ _ _ _|exact Kd.S_nil _ _ _ _ _,by repeat (first|(with_reducible first|exact HB.out|apply below_alloc|apply pw_below_drewN|apply below_drew1)|exact HB.out)⟩
 ·rw [if_neg c2] at H
  have c2b0 : decide (3000 < (a0.size : Int)) = false:=decide_eq_false c2
  have c2b1 : decide (3000 < a0.size) = false:=decide_eq_false (by omega)
  clear c2
  have H':=Aside0.mk H
  clear H
  go_enter Try.func32,Try.ntmps32
  go_wp2
  go_loopg [4,5] k (fun kq v4 v5 w' => ∃ (x4_1 : List (S46)) (x5_1 : Int),v5 = .int .i64 x5_1 ∧ Aside0 (impl_SignsOf.l0 kq a0 x4_1 x5_1 = some (r1,r2)) ∧ Aside0 (kq ≤ k) ∧ Aside0 (Kd.R k46 46 w' w.heap.size (fun _ => True) v4 x4_1) ∧ Aside0 (Below w.heap.size w w'))
  case atStart => exact ⟨(([] : List (S46))),(0),(by first|rfl|(simp;done)|(simp [*];done)),H',⟨Nat.le_refl _⟩,⟨by first|exact Kd.R_nil _ _ _ _ _|exact Kd.N_nil _ _ _ _ _|exact Kd.V_nil _ _ _ _ _|exact Kd.Q_nil _ _ _ _ _|exact Kd.S_nil _ _ _ _ _⟩,⟨by repeat (first|(with_reducible first|exact HB.out|apply below_alloc|apply pw_below_drewN|apply below_drew1)|exact HB.out)⟩⟩
  case round =>
   clear H'
   try clear c2
   try clear c2b0
   try clear c2b1
   obtain ⟨x4_1,x5_1,rfl,HA,HK1,HO_4,HB⟩:=hrel
   cases gk with
   | zero => exact absurd HA.out (by simp [impl_SignsOf.l0])
   | succ k1 =>
    have H:=HA.out
    clear HA
    simp only [impl_SignsOf.l0] at H
    by_cases c3 : x5_1 < (a0.size : Int)
    ·rw [if_pos c3] at H
     have c3b0 : decide (x5_1 < (a0.size : Int)) = true:=decide_eq_true c3
     clear c3
     by_cases c4 : 0 ≤ x5_1
     rotate_left
     ·rw [if_neg c4] at H
      exact absurd H (by simp)
     rw [if_pos c4] at H
     have c4b0 : decide (0 ≤ x5_1) = true:=decide_eq_true c4
     clear c4
     have HC6:=Aside0.mk H
     clear H
     have p5 : 0 ≤ (x5_1 : Int):=of_decide_eq_true (by first|(with_reducible assumption)|assumption)
     have q5 : x5_1 < (a0.size : Int):=of_decide_eq_true (by first|(with_reducible assumption)|assumption)
     have hx5:=bt_at a0 x5_1
     replace p5:=eq_true p5
     replace q5:=eq_true q5
     go_upto_if 18 with (fail)
     go_cut [18] (fun v18 wc => ∃ (kq : Nat) (x18_5 : Bool),v18 = .bool x18_5 ∧ Aside0 (impl_SignsOf.j1 kq a0 x4_1 x5_1 (bt a0 x5_1) x18_5 = some (r1,r2)) ∧ Aside0 (kq ≤ k1) ∧ Aside0 (Kd.R k46 46 wc w.heap.size (fun _ => True) u4 x4_1) ∧ Aside0 (Below w.heap.size w wc))
     case first =>
      have H:=HC6.out
      clear HC6
      by_cases c7 : (bt a0 x5_1) = 32
      ·rw [if_pos c7] at H
       have c7b0 : ((bt a0 x5_1) == 32) = true:=beq_iff_eq.mpr c7
       have c7b1 : ((bt a0 x5_1) != 32) = false:=bne_eq_false_iff_eq.mpr c7
       clear c7
       (first|rw [c7b0]|(simp only [i64_w,i32_w];rw [c7b0])|skip)
       have H':=Aside0.mk H
       clear H
       go_wp2
       go_meet
       case rel => exact ⟨_,(((bt a0 x5_1) == 32)),(by first|rfl|(simp;done)|(simp [*];done)),H',⟨by have:=HK1.out;first|omega|exact Nat.le_refl _⟩,⟨by (with_reducible repeat (first|apply Kd.R_alloc|apply Kd.R_drewN|apply Kd.R_drew));exact HO_4.out⟩,⟨by repeat (first|(with_reducible first|exact HB.out|apply below_alloc|apply pw_below_drewN|apply below_drew1)|exact HB.out)⟩⟩
      ·rw [if_neg c7] at H
       have c7b0 : ((bt a0 x5_1) == 32) = false:=beq_eq_false_iff_ne.mpr c7
       have c7b1 : ((bt a0 x5_1) != 32) = true:=bne_iff_ne.mpr c7
       (first|rw [c7b0]|(simp only [i64_w,i32_w];rw [c7b0])|skip)
       by_cases c8 : (bt a0 x5_1) = 9
       ·rw [if_pos c8] at H
        have c8b0 : ((bt a0 x5_1) == 9) = true:=beq_iff_eq.mpr c8
        have c8b1 : ((bt a0 x5_1) != 9) = false:=bne_eq_false_iff_eq.mpr c8
        clear c8
        have H':=Aside0.mk H
        clear H
        go_wp2
        go_meet
        case rel => exact ⟨_,(((bt a0 x5_1) == 9)),(by first|rfl|(simp;done)|(simp [*];done)),H',⟨by have:=HK1.out;first|omega|exact Nat.le_refl _⟩,⟨by (with_reducible repeat (first|apply Kd.R_alloc|apply Kd.R_drewN|apply Kd.R_drew));exact HO_4.out⟩,⟨by repeat (first|(with_reducible first|exact HB.out|apply below_alloc|apply pw_below_drewN|apply below_drew1)|exact HB.out)⟩⟩
       ·rw [if_neg c8] at H
        have c8b0 : ((bt a0 x5_1) == 9) = false:=beq_eq_false_iff_ne.mpr c8
        have c8b1 : ((bt a0 x5_1) != 9) = true:=bne_iff_ne.mpr c8
        have H':=Aside0.mk H
        clear H
        go_wp2
        go_meet
        case rel => exact ⟨_,(((bt a0 x5_1) == 10)),(by first|rfl|(simp;done)|(simp [*];done)),H',⟨by have:=HK1.out;first|omega|exact Nat.le_refl _⟩,⟨by (with_reducible repeat (first|apply Kd.R_alloc|apply Kd.R_drewN|apply Kd.R_drew));exact HO_4.out⟩,⟨by repeat (first|(with_reducible first|exact HB.out|apply below_alloc|apply pw_below_drewN|apply below_drew1)|exact HB.out)⟩⟩
     case rest =>
      clear HC6
      try clear c2
      try clear c2b0
      try clear c2b1
      try clear c3
      try clear c3b0
      try clear c4
      try clear c4b0
      try clear p5
      try clear q5
      try clear hx5
      try clear c7
      try clear c7b0
      try clear c7b1
      try clear c8
      try clear c8b0
      try clear c8b1
      try clear p5
      try clear q5
      obtain ⟨kq,x18_5,rfl,HA,HJ5,HO_4,HB⟩:=hcut
      cases kq with
      | zero => exact absurd HA.out (by simp [impl_SignsOf.j1])
      | succ kj5 =>
       have H:=HA.out
       clear HA
       simp only [impl_SignsOf.j1] at H
       by_cases c9 : x18_5 = true
       ·subst c9
        have H1 : (impl_SignsOf.l0 kj5 a0 x4_1 (wrap64 (x5_1 + 1))) = some (r1,r2):=by rw [if_pos rfl] at H;exact H
        clear H
        have H:=H1
        clear H1
        have H':=Aside0.mk H
        clear H
        go_wp2
        go_roundg kj5
        case measure => have:=HK1.out;have:=HJ5.out;omega
        case rel => exact ⟨(x4_1),(wrap64 (x5_1 + 1)),(by first|rfl|(simp;done)|(simp [*];done)),H',⟨by have:=HK1.out;have:=HJ5.out;omega⟩,⟨by (with_reducible repeat (first|apply Kd.R_alloc|apply Kd.R_drewN|apply Kd.R_drew));exact HO_4.out⟩,⟨by repeat (first|(with_reducible first|exact HB.out|apply below_alloc|apply pw_below_drewN|apply below_drew1)|exact HB.out)⟩⟩
       ·replace c9:=Bool.eq_false_iff.mpr c9
        subst c9
        have H1 : (if (bt a0 x5_1) = 37 then ((fk_impl_run.f kj5 a0 x5_1 56).bind fun t166 => (impl_SignsOf.l0 kj5 a0 x4_1 t166)) else ((impl_nextSign.f kj5 a0 x5_1).bind fun bt167 => (if bt167.2.2.2.2.2 < (a0.size : Int) then (if 0 ≤ bt167.2.2.2.2.2 then (if x4_1.length < 2932031007402 then (impl_SignsOf.l0 kj5 a0 (x4_1 ++ [(⟨bt167.1,bt167.2.1,bt167.2.2.1,bt167.2.2.2.1,((bt a0 bt167.2.2.2.2.2) == 40)⟩ : S46)]) bt167.2.2.2.2.2) else (none)) else (none)) else (if x4_1.length < 2932031007402 then (impl_SignsOf.l0 kj5 a0 (x4_1 ++ [(⟨bt167.1,bt167.2.1,bt167.2.2.1,bt167.2.2.2.1,false⟩ : S46)]) bt167.2.2.2.2.2) else (none))))) = some (r1,r2):=by rw [if_neg (show ¬ (false = true) by decide)] at H;exact H
        clear H
        have H:=H1
        clear H1
        by_cases c10 : (bt a0 x5_1) = 37
        ·rw [if_pos c10] at H
         have c10b0 : ((bt a0 x5_1) == 37) = true:=beq_iff_eq.mpr c10
         have c10b1 : ((bt a0 x5_1) != 37) = false:=bne_eq_false_iff_eq.mpr c10
         clear c10
         replace H:=Option.bind_eq_some_iff.mp H
         obtain ⟨t166,A110,H⟩:=H
         replace H : (impl_SignsOf.l0 kj5 a0 x4_1 t166) = some (r1,r2):=H
         have A11:=Aside0.mk A110
         clear A110
         have H':=Aside0.mk H
         clear H
         go_wp2_with (first|((with_reducible refine gate_callee (f:=55) rfl ?_);refine goesL_ (some 28) rfl rfl Try.func55 (by kernel_rfl) rfl #[.string a0,.int .i64 x5_1,.func (.func 56) #[] #[]] rfl (by (try simp only [List.map_toArray,List.map_cons,List.map_nil]);first|done|rfl|(simp only [List.length_drop,List.length_take];rfl)) ?_;(with_reducible refine (fk_impl_run.calls_56 kj5 a0 x5_1 t166 _ A11.out).mono ?_);rintro e w12 ⟨rfl,hb⟩;refine ⟨_,rfl,?_⟩;have n0_:=Aside0.mk (Kd.R_below (by (with_reducible repeat (first|apply Kd.R_alloc|apply Kd.R_drewN|apply Kd.R_drew));exact HO_4.out) hb);have n1_:=Aside0.mk (below_step (by repeat (first|(with_reducible first|exact HB.out|apply below_alloc|apply pw_below_drewN|apply below_drew1)|exact HB.out)) hb);clear HO_4;clear HB;have HO_4:=n0_;have HB:=n1_;clear n0_ n1_;(try clear hb);(try clear hb2);(try clear hk);(try clear hi)))
         go_roundg kj5
         case measure => have:=HK1.out;have:=HJ5.out;omega
         case rel => exact ⟨(x4_1),(t166),(by first|rfl|(simp;done)|(simp [*];done)),H',⟨by have:=HK1.out;have:=HJ5.out;omega⟩,⟨by (with_reducible repeat (first|apply Kd.R_alloc|apply Kd.R_drewN|apply Kd.R_drew));exact HO_4.out⟩,⟨by repeat (first|(with_reducible first|exact HB.out|apply below_alloc|apply pw_below_drewN|apply below_drew1)|exact HB.out)⟩⟩
        ·rw [if_neg c10] at H
         have c10b0 : ((bt a0 x5_1) == 37) = false:=beq_eq_false_iff_ne.mpr c10
         have c10b1 : ((bt a0 x5_1) != 37) = true:=bne_iff_ne.mpr c10
         replace H:=Option.bind_eq_some_iff.mp H
         obtain ⟨⟨t167,t168,t169,t170,t171,t172⟩,A130,H⟩:=H
         replace H : (if t172 < (a0.size : Int) then (if 0 ≤ t172 then (if x4_1.length < 2932031007402 then (impl_SignsOf.l0 kj5 a0 (x4_1 ++ [(⟨t167,t168,t169,t170,((bt a0 t172) == 40)⟩ : S46)]) t172) else (none)) else (none)) else (if x4_1.length < 2932031007402 then (impl_SignsOf.l0 kj5 a0 (x4_1 ++ [(⟨t167,t168,t169,t170,false⟩ : S46)]) t172) else (none))) = some (r1,r2):=H
         have A13:=Aside0.mk A130
         clear A130
         by_cases c14 : t172 < (a0.size : Int)
         ·rw [if_pos c14] at H
          have c14b0 : decide (t172 < (a0.size : Int)) = true:=decide_eq_true c14
          clear c14
          by_cases c15 : 0 ≤ t172
          rotate_left
          ·rw [if_neg c15] at H
           exact absurd H (by simp)
          rw [if_pos c15] at H
          have c15b0 : decide (0 ≤ t172) = true:=decide_eq_true c15
          clear c15
          by_cases c17 : x4_1.length < 2932031007402
          rotate_left
          ·rw [if_neg c17] at H
           exact absurd H (by simp)
          rw [if_pos c17] at H
          have LMc17:=Aside0.mk c17
          clear c17
          obtain ⟨y174,hy174⟩ : ∃ y_ : List (S46),y_ = (x4_1 ++ [(⟨t167,t168,t169,t170,((bt a0 t172) == 40)⟩ : S46)]):=⟨_,rfl⟩
          replace H : (impl_SignsOf.l0 kj5 a0 y174 t172) = some (r1,r2):=by first|(rw [hy174];with_reducible exact H)|(have H2_:=(Option.bind_some _ _).symm.trans H;rw [hy174];with_reducible exact H2_)|(have H2_:=(Option.bind_some _ _).symm.trans H;with_reducible exact H2_)|with_reducible exact H|(rw [hy174];exact H)|exact H
          have Ny174:=Aside0.mk hy174
          clear hy174
          have H':=Aside0.mk H
          clear H
          go_upto_region 15 with (first|((with_reducible refine gate_callee (f:=57) rfl ?_);refine goesL_ (some 32) rfl rfl Try.func57 (by kernel_rfl) rfl #[.string a0,.int .i64 x5_1] rfl (by (try simp only [List.map_toArray,List.map_cons,List.map_nil]);first|done|rfl|(simp only [List.length_drop,List.length_take];rfl)) ?_;(with_reducible refine (impl_nextSign.calls kj5 a0 x5_1 t167 t168 t169 t170 t171 t172 _ A13.out).mono ?_);rintro e w18 ⟨rfl,hb⟩;refine ⟨_,rfl,?_⟩;have n0_:=Aside0.mk (Kd.R_below (by (with_reducible repeat (first|apply Kd.R_alloc|apply Kd.R_drewN|apply Kd.R_drew));exact HO_4.out) hb);have n1_:=Aside0.mk (below_step (by repeat (first|(with_reducible first|exact HB.out|apply below_alloc|apply pw_below_drewN|apply below_drew1)|exact HB.out)) hb);clear HO_4;clear HB;have HO_4:=n0_;have HB:=n1_;clear n0_ n1_;(try clear hb);(try clear hb2);(try clear hk);(try clear hi))|((with_reducible refine gate_dst (N:=6) rfl ?_);refine box_event ?hg (N:=6) ?hd (cs:=#[.int .i64 0,.string (⟨#[]⟩ : ByteArray),.int .i64 0,.int .i64 0,.bool false]) (t:=46) ?hr ?_;(case hd => rfl);(case hg => rfl);(case hr => first|(go_simp;done)|(go_simp;rfl));intro gb173 hg w19 hbox hb;have n0_:=Aside0.mk (Kd.R_below (Kd.R_elderB (by (with_reducible repeat (first|apply Kd.R_alloc|apply Kd.R_drewN|apply Kd.R_drew));exact HO_4.out) gb173 (Nat.le_of_eq hg.symm)) hb);have n1_:=Aside0.mk (below_step (by repeat (first|(with_reducible first|exact HB.out|apply below_alloc|apply pw_below_drewN|apply below_drew1)|exact HB.out)) hb);have n2_:=Aside0.mk (hbox);have n3_:=Aside0.mk ((by rw [hg];exact (below_size (by repeat (first|(with_reducible first|exact HB.out|apply below_alloc|apply pw_below_drewN|apply below_drew1)|exact HB.out))) : w.heap.size ≤ gb173));have n4_:=Aside0.mk ((by rw [hg];exact (below_size (by repeat (first|(with_reducible first|exact HB.out|apply below_alloc|apply pw_below_drewN|apply below_drew1)|exact HB.out))) : w.heap.size ≤ gb173));clear HO_4;clear HB;have HO_4:=n0_;have HB:=n1_;have BK173:=n2_;have GW173:=n3_;have GE173:=n4_;clear n0_ n1_ n2_ n3_ n4_;clear hb hbox hg;have hcz20_0 : w19.cell? ⟨gb173,0,none⟩ = some (.int .i64 0):=(blk_cell BK173.out 0).trans rfl;have hcz20_1 : w19.cell? ⟨gb173,1,none⟩ = some (.string (⟨#[]⟩ : ByteArray)):=(blk_cell BK173.out 1).trans rfl;have hcz20_2 : w19.cell? ⟨gb173,2,none⟩ = some (.int .i64 0):=(blk_cell BK173.out 2).trans rfl;have hcz20_3 : w19.cell? ⟨gb173,3,none⟩ = some (.int .i64 0):=(blk_cell BK173.out 3).trans rfl;have hcz20_4 : w19.cell? ⟨gb173,4,none⟩ = some (.bool false):=(blk_cell BK173.out 4).trans rfl;have hfz20_0:=blk_frozen BK173.out 0;have hfz20_1:=blk_frozen BK173.out 1;have hfz20_2:=blk_frozen BK173.out 2;have hfz20_3:=blk_frozen BK173.out 3;have hfz20_4:=blk_frozen BK173.out 4;have p16 : 0 ≤ (t172 : Int):=of_decide_eq_true (by first|(with_reducible assumption)|assumption);have q16 : t172 < (a0.size : Int):=of_decide_eq_true (by first|(with_reducible assumption)|assumption);have hx16:=bt_at a0 t172;replace p16:=eq_true p16;replace q16:=eq_true q16))
          generalize hW_ : World.setCell _ _ _ = w901
          have n0_ : Aside0 (w901.heap[gb173]? = some (.cells #[.int .i64 t167,.string t168,.int .i64 t169,.int .i64 t170,.bool ((bt a0 t172) == 40)] 46 (0,0))):=⟨by rw [← hW_];exact (by (with_reducible repeat (first|refine blk_drewN ?_ _|refine blk_drew ?_|refine blk_alloc ?_ _));refine blk_put (cs:=#[.int .i64 t167,.string t168,.int .i64 t169,.int .i64 t170,.bool t171]) ?_ 4 _ rfl;(with_reducible repeat (first|refine blk_drewN ?_ _|refine blk_drew ?_|refine blk_alloc ?_ _));refine blk_put (cs:=#[.int .i64 t167,.string t168,.int .i64 t169,.int .i64 t170,.bool false]) ?_ 4 _ rfl;(with_reducible repeat (first|refine blk_drewN ?_ _|refine blk_drew ?_|refine blk_alloc ?_ _));refine blk_put (cs:=#[.int .i64 t167,.string t168,.int .i64 t169,.int .i64 0,.bool false]) ?_ 3 _ rfl;(with_reducible repeat (first|refine blk_drewN ?_ _|refine blk_drew ?_|refine blk_alloc ?_ _));refine blk_put (cs:=#[.int .i64 t167,.string t168,.int .i64 0,.int .i64 0,.bool false]) ?_ 2 _ rfl;(with_reducible repeat (first|refine blk_drewN ?_ _|refine blk_drew ?_|refine blk_alloc ?_ _));refine blk_put (cs:=#[.int .i64 t167,.string (⟨#[]⟩ : ByteArray),.int .i64 0,.int .i64 0,.bool false]) ?_ 1 _ rfl;(with_reducible repeat (first|refine blk_drewN ?_ _|refine blk_drew ?_|refine blk_alloc ?_ _));refine blk_put (cs:=#[.int .i64 0,.string (⟨#[]⟩ : ByteArray),.int .i64 0,.int .i64 0,.bool false]) ?_ 0 _ rfl;(with_reducible repeat (first|refine blk_drewN ?_ _|refine blk_drew ?_|refine blk_alloc ?_ _));exact BK173.out)⟩
          have n1_ : Aside0 (Below w.heap.size w w901):=⟨by rw [← hW_];exact (by repeat (first|(with_reducible first|exact HB.out|apply below_alloc|apply pw_below_drewN|apply below_drew1|refine below_set ?_ GE173.out)|exact HB.out))⟩
          have n2_ : Aside0 (Kd.R k46 46 w901 w.heap.size (fun k_ => k_ ≠ gb173) u4 x4_1):=⟨by rw [← hW_];exact (by (with_reducible repeat (first|apply Kd.R_alloc|apply Kd.R_drewN|apply Kd.R_drew));exact Kd.R_mono (Kd.R_far (p:=⟨gb173,4,none⟩) (Kd.R_far (p:=⟨gb173,4,none⟩) (Kd.R_far (p:=⟨gb173,3,none⟩) (Kd.R_far (p:=⟨gb173,2,none⟩) (Kd.R_far (p:=⟨gb173,1,none⟩) (Kd.R_far (p:=⟨gb173,0,none⟩) (Kd.R_mono HO_4.out (fun k_ hk => (⟨hk,hk.2⟩ : _ ∧ k_ ≠ gb173))) (fun _ hk => hk.2) (.int .i64 t167)) (fun _ hk => hk.2) (.string t168)) (fun _ hk => hk.2) (.int .i64 t169)) (fun _ hk => hk.2) (.int .i64 t170)) (fun _ hk => hk.2) (.bool t171)) (fun _ hk => hk.2) (.bool ((bt a0 t172) == 40))) (fun _ hk => hk.1.2))⟩
          clear hW_ BK173 HB HO_4
          have BK173:=n0_
          have HB:=n1_
          have HO_4:=n2_
          clear n0_ n1_ n2_
          have hsz_0 : w901.cell? ⟨gb173,0,none⟩ = some (.int .i64 t167):=(blk_cell BK173.out 0).trans rfl
          have hsz_1 : w901.cell? ⟨gb173,1,none⟩ = some (.string t168):=(blk_cell BK173.out 1).trans rfl
          have hsz_2 : w901.cell? ⟨gb173,2,none⟩ = some (.int .i64 t169):=(blk_cell BK173.out 2).trans rfl
          have hsz_3 : w901.cell? ⟨gb173,3,none⟩ = some (.int .i64 t170):=(blk_cell BK173.out 3).trans rfl
          have hsz_4 : w901.cell? ⟨gb173,4,none⟩ = some (.bool ((bt a0 t172) == 40)):=(blk_cell BK173.out 4).trans rfl
          have hsf_0:=blk_frozen BK173.out 0
          have hsf_1:=blk_frozen BK173.out 1
          have hsf_2:=blk_frozen BK173.out 2
          have hsf_3:=blk_frozen BK173.out 3
          have hsf_4:=blk_frozen BK173.out 4
          go_wp2_with (first|((with_reducible refine gate_builtin (b:=.append) (xs:=#[.tmp 46,.tmp 48]) rfl ?_);at_builtin;refine Kd.R_append k46 (w0:=w) w.heap.size rfl (.tmp 46) (.tmp 48) 39 46 (.agg #[(.int .i64 0),(.string ⟨#[]⟩),(.int .i64 0),(.int .i64 0),(.bool false)]) 48 rfl Try.underlying39 info46 rfl (by decide) (by omega) u4 x4_1 (⟨t167,t168,t169,t170,((bt a0 t172) == 40)⟩ : S46) [.int .i64 t167,.string t168,.int .i64 t169,.int .i64 t170,.bool ((bt a0 t172) == 40)] (fun k_ => k_ ≠ gb173) (fun _ => False) rfl (by first|(go_simp;done)|(go_simp;rfl)) ?aP (fun _ hk => hk.elim) ?aF ?aO ?aB ?aS ?aL ?_;(case aP => exact k46_mkM _ _ _ (⟨t167,t168,t169,t170,((bt a0 t172) == 40)⟩ : S46));(case aB => exact (by repeat (first|(with_reducible first|exact HB.out|apply below_alloc|apply pw_below_drewN|apply below_drew1|refine below_set ?_ GE173.out)|exact HB.out)));(case aF => exact (fun k_ hk => Kd.freshB (g:=gb173) (o:=.cells #[.int .i64 t167,.string t168,.int .i64 t169,.int .i64 t170,.bool ((bt a0 t172) == 40)] 46 (0,0)) (by (with_reducible repeat (first|refine blk_drewN ?_ _|refine blk_drew ?_|refine blk_alloc ?_ _));exact BK173.out) k_ hk));(case aO => exact (by (with_reducible repeat (first|apply Kd.R_alloc|apply Kd.R_drewN|apply Kd.R_drew));exact HO_4.out));(case aS => exact (below_size (by repeat (first|(with_reducible first|exact HB.out|apply below_alloc|apply pw_below_drewN|apply below_drew1|refine below_set ?_ GE173.out)|exact HB.out))));(case aL => have:=LMc17.out;omega);intro v175 w21 ho hb hg hat;rw [← Ny174.out] at ho;have n0_:=Aside0.mk (blk_grown (g:=gb173) (o:=.cells #[.int .i64 t167,.string t168,.int .i64 t169,.int .i64 t170,.bool ((bt a0 t172) == 40)] 46 (0,0)) (by (with_reducible repeat (first|refine blk_drewN ?_ _|refine blk_drew ?_|refine blk_alloc ?_ _));exact BK173.out) hg (Kd.R_away HO_4.out (fun _ hk => hk)));have n1_:=Aside0.mk (hb);have n2_:=Aside0.mk (ho);clear BK173;clear HB;clear HO_4;have BK173:=n0_;have HB:=n1_;have HO176:=n2_;clear n0_ n1_ n2_;clear ho hb hg hat))
          go_roundg kj5
          case measure => have:=HK1.out;have:=HJ5.out;omega
          case rel => exact ⟨(y174),(t172),(by first|rfl|(simp;done)|(simp [*];done)),H',⟨by have:=HK1.out;have:=HJ5.out;omega⟩,⟨by (with_reducible repeat (first|apply Kd.R_alloc|apply Kd.R_drewN|apply Kd.R_drew));exact Kd.R_mono HO176.out (fun _ hk => trivial)⟩,⟨by repeat (first|(with_reducible first|exact HB.out|apply below_alloc|apply pw_below_drewN|apply below_drew1|refine below_set ?_ GE173.out)|exact HB.out)⟩⟩
         ·rw [if_neg c14] at H
          have c14b0 : decide (t172 < (a0.size : Int)) = false:=decide_eq_false c14
          clear c14
          by_cases c22 : x4_1.length < 2932031007402
          rotate_left
          ·rw [if_neg c22] at H
           exact absurd H (by simp)
          rw [if_pos c22] at H
          have LMc22:=Aside0.mk c22
          clear c22
          obtain ⟨y177,hy177⟩ : ∃ y_ : List (S46),y_ = (x4_1 ++ [(⟨t167,t168,t169,t170,false⟩ : S46)]):=⟨_,rfl⟩
          replace H : (impl_SignsOf.l0 kj5 a0 y177 t172) = some (r1,r2):=by first|(rw [hy177];with_reducible exact H)|(have H2_:=(Option.bind_some _ _).symm.trans H;rw [hy177];with_reducible exact H2_)|(have H2_:=(Option.bind_some _ _).symm.trans H;with_reducible exact H2_)|with_reducible exact H|(rw [hy177];exact H)|exact H
          have Ny177:=Aside0.mk hy177
          clear hy177
          have H':=Aside0.mk H
          clear H
          go_upto_region 15 with (first|((with_reducible refine gate_callee (f:=57) rfl ?_);refine goesL_ (some 32) rfl rfl Try.func57 (by kernel_rfl) rfl #[.string a0,.int .i64 x5_1] rfl (by (try simp only [List.map_toArray,List.map_cons,List.map_nil]);first|done|rfl|(simp only [List.length_drop,List.length_take];rfl)) ?_;(with_reducible refine (impl_nextSign.calls kj5 a0 x5_1 t167 t168 t169 t170 t171 t172 _ A13.out).mono ?_);rintro e w23 ⟨rfl,hb⟩;refine ⟨_,rfl,?_⟩;have n0_:=Aside0.mk (Kd.R_below (by (with_reducible repeat (first|apply Kd.R_alloc|apply Kd.R_drewN|apply Kd.R_drew));exact HO_4.out) hb);have n1_:=Aside0.mk (below_step (by repeat (first|(with_reducible first|exact HB.out|apply below_alloc|apply pw_below_drewN|apply below_drew1)|exact HB.out)) hb);clear HO_4;clear HB;have HO_4:=n0_;have HB:=n1_;clear n0_ n1_;(try clear hb);(try clear hb2);(try clear hk);(try clear hi))|((with_reducible refine gate_dst (N:=6) rfl ?_);refine box_event ?hg (N:=6) ?hd (cs:=#[.int .i64 0,.string (⟨#[]⟩ : ByteArray),.int .i64 0,.int .i64 0,.bool false]) (t:=46) ?hr ?_;(case hd => rfl);(case hg => rfl);(case hr => first|(go_simp;done)|(go_simp;rfl));intro gb173 hg w24 hbox hb;have n0_:=Aside0.mk (Kd.R_below (Kd.R_elderB (by (with_reducible repeat (first|apply Kd.R_alloc|apply Kd.R_drewN|apply Kd.R_drew));exact HO_4.out) gb173 (Nat.le_of_eq hg.symm)) hb);have n1_:=Aside0.mk (below_step (by repeat (first|(with_reducible first|exact HB.out|apply below_alloc|apply pw_below_drewN|apply below_drew1)|exact HB.out)) hb);have n2_:=Aside0.mk (hbox);have n3_:=Aside0.mk ((by rw [hg];exact (below_size (by repeat (first|(with_reducible first|exact HB.out|apply below_alloc|apply pw_below_drewN|apply below_drew1)|exact HB.out))) : w.heap.size ≤ gb173));have n4_:=Aside0.mk ((by rw [hg];exact (below_size (by repeat (first|(with_reducible first|exact HB.out|apply below_alloc|apply pw_below_drewN|apply below_drew1)|exact HB.out))) : w.heap.size ≤ gb173));clear HO_4;clear HB;have HO_4:=n0_;have HB:=n1_;have BK173:=n2_;have GW173:=n3_;have GE173:=n4_;clear n0_ n1_ n2_ n3_ n4_;clear hb hbox hg;have hcz25_0 : w24.cell? ⟨gb173,0,none⟩ = some (.int .i64 0):=(blk_cell BK173.out 0).trans rfl;have hcz25_1 : w24.cell? ⟨gb173,1,none⟩ = some (.string (⟨#[]⟩ : ByteArray)):=(blk_cell BK173.out 1).trans rfl;have hcz25_2 : w24.cell? ⟨gb173,2,none⟩ = some (.int .i64 0):=(blk_cell BK173.out 2).trans rfl;have hcz25_3 : w24.cell? ⟨gb173,3,none⟩ = some (.int .i64 0):=(blk_cell BK173.out 3).trans rfl;have hcz25_4 : w24.cell? ⟨gb173,4,none⟩ = some (.bool false):=(blk_cell BK173.out 4).trans rfl;have hfz25_0:=blk_frozen BK173.out 0;have hfz25_1:=blk_frozen BK173.out 1;have hfz25_2:=blk_frozen BK173.out 2;have hfz25_3:=blk_frozen BK173.out 3;have hfz25_4:=blk_frozen BK173.out 4))
          generalize hW_ : World.setCell _ _ _ = w902
          have n0_ : Aside0 (w902.heap[gb173]? = some (.cells #[.int .i64 t167,.string t168,.int .i64 t169,.int .i64 t170,.bool false] 46 (0,0))):=⟨by rw [← hW_];exact (by (with_reducible repeat (first|refine blk_drewN ?_ _|refine blk_drew ?_|refine blk_alloc ?_ _));refine blk_put (cs:=#[.int .i64 t167,.string t168,.int .i64 t169,.int .i64 t170,.bool t171]) ?_ 4 _ rfl;(with_reducible repeat (first|refine blk_drewN ?_ _|refine blk_drew ?_|refine blk_alloc ?_ _));refine blk_put (cs:=#[.int .i64 t167,.string t168,.int .i64 t169,.int .i64 t170,.bool false]) ?_ 4 _ rfl;(with_reducible repeat (first|refine blk_drewN ?_ _|refine blk_drew ?_|refine blk_alloc ?_ _));refine blk_put (cs:=#[.int .i64 t167,.string t168,.int .i64 t169,.int .i64 0,.bool false]) ?_ 3 _ rfl;(with_reducible repeat (first|refine blk_drewN ?_ _|refine blk_drew ?_|refine blk_alloc ?_ _));refine blk_put (cs:=#[.int .i64 t167,.string t168,.int .i64 0,.int .i64 0,.bool false]) ?_ 2 _ rfl;(with_reducible repeat (first|refine blk_drewN ?_ _|refine blk_drew ?_|refine blk_alloc ?_ _));refine blk_put (cs:=#[.int .i64 t167,.string (⟨#[]⟩ : ByteArray),.int .i64 0,.int .i64 0,.bool false]) ?_ 1 _ rfl;(with_reducible repeat (first|refine blk_drewN ?_ _|refine blk_drew ?_|refine blk_alloc ?_ _));refine blk_put (cs:=#[.int .i64 0,.string (⟨#[]⟩ : ByteArray),.int .i64 0,.int .i64 0,.bool false]) ?_ 0 _ rfl;(with_reducible repeat (first|refine blk_drewN ?_ _|refine blk_drew ?_|refine blk_alloc ?_ _));exact BK173.out)⟩
          have n1_ : Aside0 (Below w.heap.size w w902):=⟨by rw [← hW_];exact (by repeat (first|(with_reducible first|exact HB.out|apply below_alloc|apply pw_below_drewN|apply below_drew1|refine below_set ?_ GE173.out)|exact HB.out))⟩
          have n2_ : Aside0 (Kd.R k46 46 w902 w.heap.size (fun k_ => k_ ≠ gb173) u4 x4_1):=⟨by rw [← hW_];exact (by (with_reducible repeat (first|apply Kd.R_alloc|apply Kd.R_drewN|apply Kd.R_drew));exact Kd.R_mono (Kd.R_far (p:=⟨gb173,4,none⟩) (Kd.R_far (p:=⟨gb173,4,none⟩) (Kd.R_far (p:=⟨gb173,3,none⟩) (Kd.R_far (p:=⟨gb173,2,none⟩) (Kd.R_far (p:=⟨gb173,1,none⟩) (Kd.R_far (p:=⟨gb173,0,none⟩) (Kd.R_mono HO_4.out (fun k_ hk => (⟨hk,hk.2⟩ : _ ∧ k_ ≠ gb173))) (fun _ hk => hk.2) (.int .i64 t167)) (fun _ hk => hk.2) (.string t168)) (fun _ hk => hk.2) (.int .i64 t169)) (fun _ hk => hk.2) (.int .i64 t170)) (fun _ hk => hk.2) (.bool t171)) (fun _ hk => hk.2) (.bool false)) (fun _ hk => hk.1.2))⟩
          clear hW_ BK173 HB HO_4
          have BK173:=n0_
          have HB:=n1_
          have HO_4:=n2_
          clear n0_ n1_ n2_
          have hsz_0 : w902.cell? ⟨gb173,0,none⟩ = some (.int .i64 t167):=(blk_cell BK173.out 0).trans rfl
          have hsz_1 : w902.cell? ⟨gb173,1,none⟩ = some (.string t168):=(blk_cell BK173.out 1).trans rfl
          have hsz_2 : w902.cell? ⟨gb173,2,none⟩ = some (.int .i64 t169):=(blk_cell BK173.out 2).trans rfl
          have hsz_3 : w902.cell? ⟨gb173,3,none⟩ = some (.int .i64 t170):=(blk_cell BK173.out 3).trans rfl
          have hsz_4 : w902.cell? ⟨gb173,4,none⟩ = some (.bool false):=(blk_cell BK173.out 4).trans rfl
          have hsf_0:=blk_frozen BK173.out 0
          have hsf_1:=blk_frozen BK173.out 1
          have hsf_2:=blk_frozen BK173.out 2
          have hsf_3:=blk_frozen BK173.out 3
          have hsf_4:=blk_frozen BK173.out 4
          go_wp2_with (first|((with_reducible refine gate_builtin (b:=.append) (xs:=#[.tmp 46,.tmp 48]) rfl ?_);at_builtin;refine Kd.R_append k46 (w0:=w) w.heap.size rfl (.tmp 46) (.tmp 48) 39 46 (.agg #[(.int .i64 0),(.string ⟨#[]⟩),(.int .i64 0),(.int .i64 0),(.bool false)]) 48 rfl Try.underlying39 info46 rfl (by decide) (by omega) u4 x4_1 (⟨t167,t168,t169,t170,false⟩ : S46) [.int .i64 t167,.string t168,.int .i64 t169,.int .i64 t170,.bool false] (fun k_ => k_ ≠ gb173) (fun _ => False) rfl (by first|(go_simp;done)|(go_simp;rfl)) ?aP (fun _ hk => hk.elim) ?aF ?aO ?aB ?aS ?aL ?_;(case aP => exact k46_mkM _ _ _ (⟨t167,t168,t169,t170,false⟩ : S46));(case aB => exact (by repeat (first|(with_reducible first|exact HB.out|apply below_alloc|apply pw_below_drewN|apply below_drew1|refine below_set ?_ GE173.out)|exact HB.out)));(case aF => exact (fun k_ hk => Kd.freshB (g:=gb173) (o:=.cells #[.int .i64 t167,.string t168,.int .i64 t169,.int .i64 t170,.bool false] 46 (0,0)) (by (with_reducible repeat (first|refine blk_drewN ?_ _|refine blk_drew ?_|refine blk_alloc ?_ _));exact BK173.out) k_ hk));(case aO => exact (by (with_reducible repeat (first|apply Kd.R_alloc|apply Kd.R_drewN|apply Kd.R_drew));exact HO_4.out));(case aS => exact (below_size (by repeat (first|(with_reducible first|exact HB.out|apply below_alloc|apply pw_below_drewN|apply below_drew1|refine below_set ?_ GE173.out)|exact HB.out))));(case aL => have:=LMc22.out;omega);intro v178 w26 ho hb hg hat;rw [← Ny177.out] at ho;have n0_:=Aside0.mk (blk_grown (g:=gb173) (o:=.cells #[.int .i64 t167,.string t168,.int .i64 t169,.int .i64 t170,.bool false] 46 (0,0)) (by (with_reducible repeat (first|refine blk_drewN ?_ _|refine blk_drew ?_|refine blk_alloc ?_ _));exact BK173.out) hg (Kd.R_away HO_4.out (fun _ hk => hk)));have n1_:=Aside0.mk (hb);have n2_:=Aside0.mk (ho);clear BK173;clear HB;clear HO_4;have BK173:=n0_;have HB:=n1_;have HO179:=n2_;clear n0_ n1_ n2_;clear ho hb hg hat))
          go_roundg kj5
          case measure => have:=HK1.out;have:=HJ5.out;omega
          case rel => exact ⟨(y177),(t172),(by first|rfl|(simp;done)|(simp [*];done)),H',⟨by have:=HK1.out;have:=HJ5.out;omega⟩,⟨by (with_reducible repeat (first|apply Kd.R_alloc|apply Kd.R_drewN|apply Kd.R_drew));exact Kd.R_mono HO179.out (fun _ hk => trivial)⟩,⟨by repeat (first|(with_reducible first|exact HB.out|apply below_alloc|apply pw_below_drewN|apply below_drew1|refine below_set ?_ GE173.out)|exact HB.out)⟩⟩
    ·rw [if_neg c3] at H
     have c3b0 : decide (x5_1 < (a0.size : Int)) = false:=decide_eq_false c3
     clear c3
     simp only [Option.some.injEq,Prod.mk.injEq] at H
     obtain ⟨rfl,rfl⟩:=H
     go_wp2
     go_ret2
     exact ⟨_,by first|rfl|(simp [errW_none,errW_some] <;> rfl)|(simp [*,errW_none,errW_some] <;> rfl),by (with_reducible repeat (first|apply Kd.R_alloc|apply Kd.R_drewN|apply Kd.R_drew));exact HO_4.out,by repeat (first|(with_reducible first|exact HB.out|apply below_alloc|apply pw_below_drewN|apply below_drew1)|exact HB.out)⟩

/-! ### impl_AtomText: function 37 -/
def impl_AtomText.f (k : Nat) (a0 : ByteArray) : Option (ByteArray):=(impl_SignsOf.f k a0).bind fun bt180 => (if bt180.2 = true then (if (bt180.1.length : Int) = 1 then (if 0 < (bt180.1.length : Int) then (if ((rd_T46 bt180.1 0).f0) = 1 then (if ((rd_T46 bt180.1 0).f1).toList = a0.toList then (some a0) else (if 1 + a0.size ≤ 9223372036854775807 then (if ((⟨#[39]⟩ : ByteArray) ++ a0).size + 1 ≤ 9223372036854775807 then (some (((⟨#[39]⟩ : ByteArray) ++ a0) ++ (⟨#[39]⟩ : ByteArray))) else (none)) else (none))) else (if 1 + a0.size ≤ 9223372036854775807 then (if ((⟨#[39]⟩ : ByteArray) ++ a0).size + 1 ≤ 9223372036854775807 then (some (((⟨#[39]⟩ : ByteArray) ++ a0) ++ (⟨#[39]⟩ : ByteArray))) else (none)) else (none))) else (none)) else (if 1 + a0.size ≤ 9223372036854775807 then (if ((⟨#[39]⟩ : ByteArray) ++ a0).size + 1 ≤ 9223372036854775807 then (some (((⟨#[39]⟩ : ByteArray) ++ a0) ++ (⟨#[39]⟩ : ByteArray))) else (none)) else (none))) else (if 1 + a0.size ≤ 9223372036854775807 then (if ((⟨#[39]⟩ : ByteArray) ++ a0).size + 1 ≤ 9223372036854775807 then (some (((⟨#[39]⟩ : ByteArray) ++ a0) ++ (⟨#[39]⟩ : ByteArray))) else (none)) else (none)))
theorem impl_AtomText.mono : ∀ a0 k,LeO (impl_AtomText.f k a0) (impl_AtomText.f (k + 1) a0):=by
 intro a0 k
 unfold impl_AtomText.f
 repeat' first
   | (with_reducible exact impl_SignsOf.mono _ _)
   | (with_reducible exact LeO.refl _)
   | (with_reducible exact LeO.none _)
   | (with_reducible refine LeO.ite ?_ ?_)
   | (with_reducible refine LeO.bind ?_ (fun _ => ?_))
   | exact impl_SignsOf.mono _ _
   | exact LeO.none _
   | refine LeO.ite ?_ ?_
   | refine LeO.bind ?_ (fun _ => ?_)
set_option maxHeartbeats 8000000 in
set_option maxRecDepth 100000 in
theorem impl_AtomText.calls (k : Nat) (a0 : ByteArray) (r : ByteArray) (w : World) (h : impl_AtomText.f k a0 = some r) :
  Calls Try.prog 37 #[.string a0] w fun e w' => e = .returned (.string r) ∧ Below w.heap.size w w':=by
 have HB:=Aside0.mk (Below.refl w.heap.size w)
 have H : ((impl_SignsOf.f k a0).bind fun bt180 => (if bt180.2 = true then (if (bt180.1.length : Int) = 1 then (if 0 < (bt180.1.length : Int) then (if ((rd_T46 bt180.1 0).f0) = 1 then (if ((rd_T46 bt180.1 0).f1).toList = a0.toList then (some a0) else (if 1 + a0.size ≤ 9223372036854775807 then (if ((⟨#[39]⟩ : ByteArray) ++ a0).size + 1 ≤ 9223372036854775807 then (some (((⟨#[39]⟩ : ByteArray) ++ a0) ++ (⟨#[39]⟩ : ByteArray))) else (none)) else (none))) else (if 1 + a0.size ≤ 9223372036854775807 then (if ((⟨#[39]⟩ : ByteArray) ++ a0).size + 1 ≤ 9223372036854775807 then (some (((⟨#[39]⟩ : ByteArray) ++ a0) ++ (⟨#[39]⟩ : ByteArray))) else (none)) else (none))) else (none)) else (if 1 + a0.size ≤ 9223372036854775807 then (if ((⟨#[39]⟩ : ByteArray) ++ a0).size + 1 ≤ 9223372036854775807 then (some (((⟨#[39]⟩ : ByteArray) ++ a0) ++ (⟨#[39]⟩ : ByteArray))) else (none)) else (none))) else (if 1 + a0.size ≤ 9223372036854775807 then (if ((⟨#[39]⟩ : ByteArray) ++ a0).size + 1 ≤ 9223372036854775807 then (some (((⟨#[39]⟩ : ByteArray) ++ a0) ++ (⟨#[39]⟩ : ByteArray))) else (none)) else (none)))) = some r:=h
 clear h
 replace H:=Option.bind_eq_some_iff.mp H
 obtain ⟨⟨t180,t181⟩,A20,H⟩:=H
 replace H : (if t181 = true then (if (t180.length : Int) = 1 then (if 0 < (t180.length : Int) then (if ((rd_T46 t180 0).f0) = 1 then (if ((rd_T46 t180 0).f1).toList = a0.toList then (some a0) else (if 1 + a0.size ≤ 9223372036854775807 then (if ((⟨#[39]⟩ : ByteArray) ++ a0).size + 1 ≤ 9223372036854775807 then (some (((⟨#[39]⟩ : ByteArray) ++ a0) ++ (⟨#[39]⟩ : ByteArray))) else (none)) else (none))) else (if 1 + a0.size ≤ 9223372036854775807 then (if ((⟨#[39]⟩ : ByteArray) ++ a0).size + 1 ≤ 9223372036854775807 then (some (((⟨#[39]⟩ : ByteArray) ++ a0) ++ (⟨#[39]⟩ : ByteArray))) else (none)) else (none))) else (none)) else (if 1 + a0.size ≤ 9223372036854775807 then (if ((⟨#[39]⟩ : ByteArray) ++ a0).size + 1 ≤ 9223372036854775807 then (some (((⟨#[39]⟩ : ByteArray) ++ a0) ++ (⟨#[39]⟩ : ByteArray))) else (none)) else (none))) else (if 1 + a0.size ≤ 9223372036854775807 then (if ((⟨#[39]⟩ : ByteArray) ++ a0).size + 1 ≤ 9223372036854775807 then (some (((⟨#[39]⟩ : ByteArray) ++ a0) ++ (⟨#[39]⟩ : ByteArray))) else (none)) else (none))) = some r:=H
 have A2:=Aside0.mk A20
 clear A20
 by_cases c3 : t181 = true
 ·subst c3
  have H1 : (if (t180.length : Int) = 1 then (if 0 < (t180.length : Int) then (if ((rd_T46 t180 0).f0) = 1 then (if ((rd_T46 t180 0).f1).toList = a0.toList then (some a0) else (if 1 + a0.size ≤ 9223372036854775807 then (if ((⟨#[39]⟩ : ByteArray) ++ a0).size + 1 ≤ 9223372036854775807 then (some (((⟨#[39]⟩ : ByteArray) ++ a0) ++ (⟨#[39]⟩ : ByteArray))) else (none)) else (none))) else (if 1 + a0.size ≤ 9223372036854775807 then (if ((⟨#[39]⟩ : ByteArray) ++ a0).size + 1 ≤ 9223372036854775807 then (some (((⟨#[39]⟩ : ByteArray) ++ a0) ++ (⟨#[39]⟩ : ByteArray))) else (none)) else (none))) else (none)) else (if 1 + a0.size ≤ 9223372036854775807 then (if ((⟨#[39]⟩ : ByteArray) ++ a0).size + 1 ≤ 9223372036854775807 then (some (((⟨#[39]⟩ : ByteArray) ++ a0) ++ (⟨#[39]⟩ : ByteArray))) else (none)) else (none))) = some r:=by rw [if_pos rfl] at H;exact H
  clear H
  have H:=H1
  clear H1
  by_cases c4 : (t180.length : Int) = 1
  ·rw [if_pos c4] at H
   have c4b0 : ((t180.length : Int) == 1) = true:=beq_iff_eq.mpr c4
   have c4b1 : ((t180.length : Int) != 1) = false:=bne_eq_false_iff_eq.mpr c4
   clear c4
   by_cases c5 : 0 < (t180.length : Int)
   rotate_left
   ·rw [if_neg c5] at H
    exact absurd H (by simp)
   rw [if_pos c5] at H
   have c5b0 : decide (0 < (t180.length : Int)) = true:=decide_eq_true c5
   have c5b1 : decide (0 < t180.length) = true:=decide_eq_true (by omega)
   clear c5
   by_cases c6 : ((rd_T46 t180 0).f0) = 1
   ·rw [if_pos c6] at H
    have c6b0 : (((rd_T46 t180 0).f0) == 1) = true:=beq_iff_eq.mpr c6
    have c6b1 : (((rd_T46 t180 0).f0) != 1) = false:=bne_eq_false_iff_eq.mpr c6
    clear c6
    by_cases c7 : ((rd_T46 t180 0).f1).toList = a0.toList
    ·rw [if_pos c7] at H
     have c7b0 : (((rd_T46 t180 0).f1).toList == a0.toList) = true:=beq_iff_eq.mpr c7
     have c7b1 : (((rd_T46 t180 0).f1).toList != a0.toList) = false:=bne_eq_false_iff_eq.mpr c7
     clear c7
     obtain rfl:=Option.some.inj H
     go_enter Try.func37,Try.ntmps37
     go_wp2_with (first|((with_reducible refine gate_callee (f:=32) rfl ?_);refine goesL_ (some 7) rfl rfl Try.func32 (by kernel_rfl) rfl #[.string a0] rfl (by (try simp only [List.map_toArray,List.map_cons,List.map_nil]);first|done|rfl|(simp only [List.length_drop,List.length_take];rfl)) ?_;(with_reducible refine (impl_SignsOf.calls k a0 t180 true _ A2.out).mono ?_);rintro e w8 ⟨v182,rfl,ho0,hb⟩;refine ⟨_,rfl,?_⟩;have n0_:=Aside0.mk (Kd.R_lower ho0 (below_size (by repeat (first|(with_reducible first|exact HB.out|apply below_alloc|apply pw_below_drewN|apply below_drew1)|exact HB.out))));have n1_:=Aside0.mk (below_step (by repeat (first|(with_reducible first|exact HB.out|apply below_alloc|apply pw_below_drewN|apply below_drew1)|exact HB.out)) hb);clear HB;have HO183:=n0_;have HB:=n1_;clear n0_ n1_;(try clear hb);(try clear hb2);(try clear hk);(try clear hi);(try clear ho0);obtain ⟨Ao9,co9,eo9⟩:=Kd.R_slice HO183.out;subst eo9;have p184 : 0 ≤ (0 : Int):=(by omega);have q184 : 0 < (t180.length : Int):=of_decide_eq_true (by first|(with_reducible assumption)|assumption);obtain ⟨ad184,e184,hx184_0,hx184_1,hx184_2,hx184_3,hx184_4⟩:=at_T46 (Kd.R_reads' HO183.out).2.2 0 p184 q184;cases e184;have qi184 : (0 < t180.length) = True:=eq_true (by omega);(try rw [show ((0 : Int)).toNat = 0 from rfl] at hx184_0);(try rw [show 0 * 5 = 0 from rfl] at hx184_0);(try rw [Addr.add_zero'] at hx184_0);(try rw [show ((0 : Int)).toNat = 0 from rfl] at hx184_1);(try rw [show 0 * 5 = 0 from rfl] at hx184_1);(try rw [Addr.add_zero'] at hx184_1);(try rw [show ((0 : Int)).toNat = 0 from rfl] at hx184_2);(try rw [show 0 * 5 = 0 from rfl] at hx184_2);(try rw [Addr.add_zero'] at hx184_2);(try rw [show ((0 : Int)).toNat = 0 from rfl] at hx184_3);(try rw [show 0 * 5 = 0 from rfl] at hx184_3);(try rw [Addr.add_zero'] at hx184_3);(try rw [show ((0 : Int)).toNat = 0 from rfl] at hx184_4);(try rw [show 0 * 5 = 0 from rfl] at hx184_4);(try rw [Addr.add_zero'] at hx184_4);replace p184:=eq_true p184;replace q184:=eq_true q184;have p185 : 0 ≤ (0 : Int):=(by omega);have q185 : 0 < (t180.length : Int):=of_decide_eq_true (by first|(with_reducible assumption)|assumption);obtain ⟨ad185,e185,hx185_0,hx185_1,hx185_2,hx185_3,hx185_4⟩:=at_T46 (Kd.R_reads' HO183.out).2.2 0 p185 q185;obtain rfl : ad184 = ad185:=(by injection e185);have qi185 : (0 < t180.length) = True:=eq_true (by omega);(try rw [show ((0 : Int)).toNat = 0 from rfl] at hx185_0);(try rw [show 0 * 5 = 0 from rfl] at hx185_0);(try rw [Addr.add_zero'] at hx185_0);(try rw [show ((0 : Int)).toNat = 0 from rfl] at hx185_1);(try rw [show 0 * 5 = 0 from rfl] at hx185_1);(try rw [Addr.add_zero'] at hx185_1);(try rw [show ((0 : Int)).toNat = 0 from rfl] at hx185_2);(try rw [show 0 * 5 = 0 from rfl] at hx185_2);(try rw [Addr.add_zero'] at hx185_2);(try rw [show ((0 : Int)).toNat = 0 from rfl] at hx185_3);(try rw [show 0 * 5 = 0 from rfl] at hx185_3);(try rw [Addr.add_zero'] at hx185_3);(try rw [show ((0 : Int)).toNat = 0 from rfl] at hx185_4);(try rw [show 0 * 5 = 0 from rfl] at hx185_4);(try rw [Addr.add_zero'] at hx185_4);replace p185:=eq_true p185;replace q185:=eq_true q185))
     go_ret
     exact ⟨by first|rfl|(simp [errW_none,errW_some] <;> rfl)|(simp [*,errW_none,errW_some] <;> rfl),by repeat (first|(with_reducible first|exact HB.out|apply below_alloc|apply pw_below_drewN|apply below_drew1)|exact HB.out)⟩
    ·rw [if_neg c7] at H
     have c7b0 : (((rd_T46 t180 0).f1).toList == a0.toList) = false:=beq_eq_false_iff_ne.mpr c7
     have c7b1 : (((rd_T46 t180 0).f1).toList != a0.toList) = true:=bne_iff_ne.mpr c7
     by_cases c10 : 1 + a0.size ≤ 9223372036854775807
     rotate_left
     ·rw [if_neg c10] at H
      exact absurd H (by simp)
     rw [if_pos c10] at H
     have c10b0:=eq_true c10
     have c10b1 : decide (1 + a0.size ≤ 9223372036854775807) = true:=decide_eq_true c10
     try have c10b2 : (9223372036854775807 < 1 + a0.size) = False:=eq_false (Nat.not_lt.2 c10)
     by_cases c11 : ((⟨#[39]⟩ : ByteArray) ++ a0).size + 1 ≤ 9223372036854775807
     rotate_left
     ·rw [if_neg c11] at H
      exact absurd H (by simp)
     rw [if_pos c11] at H
     have c11b0:=eq_true c11
     have c11b7 : (1 + a0.size + 1 ≤ 9223372036854775807) = True:=eq_true (by have h_:=c11;rw [ByteArray.size_append] at h_;exact h_)
     have c11b8 : (9223372036854775807 < 1 + a0.size + 1) = False:=eq_false (Nat.not_lt.2 (by have h_:=c11;rw [ByteArray.size_append] at h_;exact h_))
     have c11b9 : decide (1 + a0.size + 1 ≤ 9223372036854775807) = true:=decide_eq_true (by have h_:=c11;rw [ByteArray.size_append] at h_;exact h_)
     have c11b1 : decide (((⟨#[39]⟩ : ByteArray) ++ a0).size + 1 ≤ 9223372036854775807) = true:=decide_eq_true c11
     try have c11b2 : (9223372036854775807 < ((⟨#[39]⟩ : ByteArray) ++ a0).size + 1) = False:=eq_false (Nat.not_lt.2 c11)
     obtain rfl:=Option.some.inj H
     go_enter Try.func37,Try.ntmps37
     go_wp2_with (first|((with_reducible refine gate_callee (f:=32) rfl ?_);refine goesL_ (some 7) rfl rfl Try.func32 (by kernel_rfl) rfl #[.string a0] rfl (by (try simp only [List.map_toArray,List.map_cons,List.map_nil]);first|done|rfl|(simp only [List.length_drop,List.length_take];rfl)) ?_;(with_reducible refine (impl_SignsOf.calls k a0 t180 true _ A2.out).mono ?_);rintro e w12 ⟨v182,rfl,ho0,hb⟩;refine ⟨_,rfl,?_⟩;have n0_:=Aside0.mk (Kd.R_lower ho0 (below_size (by repeat (first|(with_reducible first|exact HB.out|apply below_alloc|apply pw_below_drewN|apply below_drew1)|exact HB.out))));have n1_:=Aside0.mk (below_step (by repeat (first|(with_reducible first|exact HB.out|apply below_alloc|apply pw_below_drewN|apply below_drew1)|exact HB.out)) hb);clear HB;have HO183:=n0_;have HB:=n1_;clear n0_ n1_;(try clear hb);(try clear hb2);(try clear hk);(try clear hi);(try clear ho0);obtain ⟨Ao13,co13,eo13⟩:=Kd.R_slice HO183.out;subst eo13;have p184 : 0 ≤ (0 : Int):=(by omega);have q184 : 0 < (t180.length : Int):=of_decide_eq_true (by first|(with_reducible assumption)|assumption);obtain ⟨ad184,e184,hx184_0,hx184_1,hx184_2,hx184_3,hx184_4⟩:=at_T46 (Kd.R_reads' HO183.out).2.2 0 p184 q184;cases e184;have qi184 : (0 < t180.length) = True:=eq_true (by omega);(try rw [show ((0 : Int)).toNat = 0 from rfl] at hx184_0);(try rw [show 0 * 5 = 0 from rfl] at hx184_0);(try rw [Addr.add_zero'] at hx184_0);(try rw [show ((0 : Int)).toNat = 0 from rfl] at hx184_1);(try rw [show 0 * 5 = 0 from rfl] at hx184_1);(try rw [Addr.add_zero'] at hx184_1);(try rw [show ((0 : Int)).toNat = 0 from rfl] at hx184_2);(try rw [show 0 * 5 = 0 from rfl] at hx184_2);(try rw [Addr.add_zero'] at hx184_2);(try rw [show ((0 : Int)).toNat = 0 from rfl] at hx184_3);(try rw [show 0 * 5 = 0 from rfl] at hx184_3);(try rw [Addr.add_zero'] at hx184_3);(try rw [show ((0 : Int)).toNat = 0 from rfl] at hx184_4);(try rw [show 0 * 5 = 0 from rfl] at hx184_4);(try rw [Addr.add_zero'] at hx184_4);replace p184:=eq_true p184;replace q184:=eq_true q184;have p185 : 0 ≤ (0 : Int):=(by omega);have q185 : 0 < (t180.length : Int):=of_decide_eq_true (by first|(with_reducible assumption)|assumption);obtain ⟨ad185,e185,hx185_0,hx185_1,hx185_2,hx185_3,hx185_4⟩:=at_T46 (Kd.R_reads' HO183.out).2.2 0 p185 q185;obtain rfl : ad184 = ad185:=(by injection e185);have qi185 : (0 < t180.length) = True:=eq_true (by omega);(try rw [show ((0 : Int)).toNat = 0 from rfl] at hx185_0);(try rw [show 0 * 5 = 0 from rfl] at hx185_0);(try rw [Addr.add_zero'] at hx185_0);(try rw [show ((0 : Int)).toNat = 0 from rfl] at hx185_1);(try rw [show 0 * 5 = 0 from rfl] at hx185_1);(try rw [Addr.add_zero'] at hx185_1);(try rw [show ((0 : Int)).toNat = 0 from rfl] at hx185_2);(try rw [show 0 * 5 = 0 from rfl] at hx185_2);(try rw [Addr.add_zero'] at hx185_2);(try rw [show ((0 : Int)).toNat = 0 from rfl] at hx185_3);(try rw [show 0 * 5 = 0 from rfl] at hx185_3);(try rw [Addr.add_zero'] at hx185_3);(try rw [show ((0 : Int)).toNat = 0 from rfl] at hx185_4);(try rw [show 0 * 5 = 0 from rfl] at hx185_4);(try rw [Addr.add_zero'] at hx185_4);replace p185:=eq_true p185;replace q185:=eq_true q185))
     go_ret
     exact ⟨by first|rfl|(simp [errW_none,errW_some] <;> rfl)|(simp [*,errW_none,errW_some] <;> rfl),by repeat (first|(with_reducible first|exact HB.out|apply below_alloc|apply pw_below_drewN|apply below_drew1)|exact HB.out)⟩
   ·rw [if_neg c6] at H
    have c6b0 : (((rd_T46 t180 0).f0) == 1) = false:=beq_eq_false_iff_ne.mpr c6
    have c6b1 : (((rd_T46 t180 0).f0) != 1) = true:=bne_iff_ne.mpr c6
    by_cases c14 : 1 + a0.size ≤ 9223372036854775807
    rotate_left
    ·rw [if_neg c14] at H
     exact absurd H (by simp)
    rw [if_pos c14] at H
    have c14b0:=eq_true c14
    have c14b1 : decide (1 + a0.size ≤ 9223372036854775807) = true:=decide_eq_true c14
    try have c14b2 : (9223372036854775807 < 1 + a0.size) = False:=eq_false (Nat.not_lt.2 c14)
    by_cases c15 : ((⟨#[39]⟩ : ByteArray) ++ a0).size + 1 ≤ 9223372036854775807
    rotate_left
    ·rw [if_neg c15] at H
     exact absurd H (by simp)
    rw [if_pos c15] at H
    have c15b0:=eq_true c15
    have c15b7 : (1 + a0.size + 1 ≤ 9223372036854775807) = True:=eq_true (by have h_:=c15;rw [ByteArray.size_append] at h_;exact h_)
    have c15b8 : (9223372036854775807 < 1 + a0.size + 1) = False:=eq_false (Nat.not_lt.2 (by have h_:=c15;rw [ByteArray.size_append] at h_;exact h_))
    have c15b9 : decide (1 + a0.size + 1 ≤ 9223372036854775807) = true:=decide_eq_true (by have h_:=c15;rw [ByteArray.size_append] at h_;exact h_)
    have c15b1 : decide (((⟨#[39]⟩ : ByteArray) ++ a0).size + 1 ≤ 9223372036854775807) = true:=decide_eq_true c15
    try have c15b2 : (9223372036854775807 < ((⟨#[39]⟩ : ByteArray) ++ a0).size + 1) = False:=eq_false (Nat.not_lt.2 c15)
    obtain rfl:=Option.some.inj H
    go_enter Try.func37,Try.ntmps37
    go_wp2_with (first|((with_reducible refine gate_callee (f:=32) rfl ?_);refine goesL_ (some 7) rfl rfl Try.func32 (by kernel_rfl) rfl #[.string a0] rfl (by (try simp only [List.map_toArray,List.map_cons,List.map_nil]);first|done|rfl|(simp only [List.length_drop,List.length_take];rfl)) ?_;(with_reducible refine (impl_SignsOf.calls k a0 t180 true _ A2.out).mono ?_);rintro e w16 ⟨v182,rfl,ho0,hb⟩;refine ⟨_,rfl,?_⟩;have n0_:=Aside0.mk (Kd.R_lower ho0 (below_size (by repeat (first|(with_reducible first|exact HB.out|apply below_alloc|apply pw_below_drewN|apply below_drew1)|exact HB.out))));have n1_:=Aside0.mk (below_step (by repeat (first|(with_reducible first|exact HB.out|apply below_alloc|apply pw_below_drewN|apply below_drew1)|exact HB.out)) hb);clear HB;have HO183:=n0_;have HB:=n1_;clear n0_ n1_;(try clear hb);(try clear hb2);(try clear hk);(try clear hi);(try clear ho0);obtain ⟨Ao17,co17,eo17⟩:=Kd.R_slice HO183.out;subst eo17;have p184 : 0 ≤ (0 : Int):=(by omega);have q184 : 0 < (t180.length : Int):=of_decide_eq_true (by first|(with_reducible assumption)|assumption);obtain ⟨ad184,e184,hx184_0,hx184_1,hx184_2,hx184_3,hx184_4⟩:=at_T46 (Kd.R_reads' HO183.out).2.2 0 p184 q184;cases e184;have qi184 : (0 < t180.length) = True:=eq_true (by omega);(try rw [show ((0 : Int)).toNat = 0 from rfl] at hx184_0);(try rw [show 0 * 5 = 0 from rfl] at hx184_0);(try rw [Addr.add_zero'] at hx184_0);(try rw [show ((0 : Int)).toNat = 0 from rfl] at hx184_1);(try rw [show 0 * 5 = 0 from rfl] at hx184_1);(try rw [Addr.add_zero'] at hx184_1);(try rw [show ((0 : Int)).toNat = 0 from rfl] at hx184_2);(try rw [show 0 * 5 = 0 from rfl] at hx184_2);(try rw [Addr.add_zero'] at hx184_2);(try rw [show ((0 : Int)).toNat = 0 from rfl] at hx184_3);(try rw [show 0 * 5 = 0 from rfl] at hx184_3);(try rw [Addr.add_zero'] at hx184_3);(try rw [show ((0 : Int)).toNat = 0 from rfl] at hx184_4);(try rw [show 0 * 5 = 0 from rfl] at hx184_4);(try rw [Addr.add_zero'] at hx184_4);replace p184:=eq_true p184;replace q184:=eq_true q184))
    go_ret
    exact ⟨by first|rfl|(simp [errW_none,errW_some] <;> rfl)|(simp [*,errW_none,errW_some] <;> rfl),by repeat (first|(with_reducible first|exact HB.out|apply below_alloc|apply pw_below_drewN|apply below_drew1)|exact HB.out)⟩
  ·rw [if_neg c4] at H
   have c4b0 : ((t180.length : Int) == 1) = false:=beq_eq_false_iff_ne.mpr c4
   have c4b1 : ((t180.length : Int) != 1) = true:=bne_iff_ne.mpr c4
   by_cases c18 : 1 + a0.size ≤ 9223372036854775807
   rotate_left
   ·rw [if_neg c18] at H
    exact absurd H (by simp)
   rw [if_pos c18] at H
   have c18b0:=eq_true c18
   have c18b1 : decide (1 + a0.size ≤ 9223372036854775807) = true:=decide_eq_true c18
   try have c18b2 : (9223372036854775807 < 1 + a0.size) = False:=eq_false (Nat.not_lt.2 c18)
   by_cases c19 : ((⟨#[39]⟩ : ByteArray) ++ a0).size + 1 ≤ 9223372036854775807
   rotate_left
   ·rw [if_neg c19] at H
    exact absurd H (by simp)
   rw [if_pos c19] at H
   have c19b0:=eq_true c19
   have c19b7 : (1 + a0.size + 1 ≤ 9223372036854775807) = True:=eq_true (by have h_:=c19;rw [ByteArray.size_append] at h_;exact h_)
   have c19b8 : (9223372036854775807 < 1 + a0.size + 1) = False:=eq_false (Nat.not_lt.2 (by have h_:=c19;rw [ByteArray.size_append] at h_;exact h_))
   have c19b9 : decide (1 + a0.size + 1 ≤ 9223372036854775807) = true:=decide_eq_true (by have h_:=c19;rw [ByteArray.size_append] at h_;exact h_)
   have c19b1 : decide (((⟨#[39]⟩ : ByteArray) ++ a0).size + 1 ≤ 9223372036854775807) = true:=decide_eq_true c19
   try have c19b2 : (9223372036854775807 < ((⟨#[39]⟩ : ByteArray) ++ a0).size + 1) = False:=eq_false (Nat.not_lt.2 c19)
   obtain rfl:=Option.some.inj H
   go_enter Try.func37,Try.ntmps37
   go_wp2_with (first|((with_reducible refine gate_callee (f:=32) rfl ?_);refine goesL_ (some 7) rfl rfl Try.func32 (by kernel_rfl) rfl #[.string a0] rfl (by (try simp only [List.map_toArray,List.map_cons,List.map_nil]);first|done|rfl|(simp only [List.length_drop,List.length_take];rfl)) ?_;(with_reducible refine (impl_SignsOf.calls k a0 t180 true _ A2.out).mono ?_);rintro e w20 ⟨v182,rfl,ho0,hb⟩;refine ⟨_,rfl,?_⟩;have n0_:=Aside0.mk (Kd.R_lower ho0 (below_size (by repeat (first|(with_reducible first|exact HB.out|apply below_alloc|apply pw_below_drewN|apply below_drew1)|exact HB.out))));have n1_:=Aside0.mk (below_step (by repeat (first|(with_reducible first|exact HB.out|apply below_alloc|apply pw_below_drewN|apply below_drew1)|exact HB.out)) hb);clear HB;have HO183:=n0_;have HB:=n1_;clear n0_ n1_;(try clear hb);(try clear hb2);(try clear hk);(try clear hi);(try clear ho0);obtain ⟨Ao21,co21,eo21⟩:=Kd.R_slice HO183.out;subst eo21))
   go_ret
   exact ⟨by first|rfl|(simp [errW_none,errW_some] <;> rfl)|(simp [*,errW_none,errW_some] <;> rfl),by repeat (first|(with_reducible first|exact HB.out|apply below_alloc|apply pw_below_drewN|apply below_drew1)|exact HB.out)⟩
 ·replace c3:=Bool.eq_false_iff.mpr c3
  subst c3
  have H1 : (if 1 + a0.size ≤ 9223372036854775807 then (if ((⟨#[39]⟩ : ByteArray) ++ a0).size + 1 ≤ 9223372036854775807 then (some (((⟨#[39]⟩ : ByteArray) ++ a0) ++ (⟨#[39]⟩ : ByteArray))) else (none)) else (none)) = some r:=by rw [if_neg (show ¬ (false = true) by decide)] at H;exact H
  clear H
  have H:=H1
  clear H1
  by_cases c22 : 1 + a0.size ≤ 9223372036854775807
  rotate_left
  ·rw [if_neg c22] at H
   exact absurd H (by simp)
  rw [if_pos c22] at H
  have c22b0:=eq_true c22
  have c22b1 : decide (1 + a0.size ≤ 9223372036854775807) = true:=decide_eq_true c22
  try have c22b2 : (9223372036854775807 < 1 + a0.size) = False:=eq_false (Nat.not_lt.2 c22)
  by_cases c23 : ((⟨#[39]⟩ : ByteArray) ++ a0).size + 1 ≤ 9223372036854775807
  rotate_left
  ·rw [if_neg c23] at H
   exact absurd H (by simp)
  rw [if_pos c23] at H
  have c23b0:=eq_true c23
  have c23b7 : (1 + a0.size + 1 ≤ 9223372036854775807) = True:=eq_true (by have h_:=c23;rw [ByteArray.size_append] at h_;exact h_)
  have c23b8 : (9223372036854775807 < 1 + a0.size + 1) = False:=eq_false (Nat.not_lt.2 (by have h_:=c23;rw [ByteArray.size_append] at h_;exact h_))
  have c23b9 : decide (1 + a0.size + 1 ≤ 9223372036854775807) = true:=decide_eq_true (by have h_:=c23;rw [ByteArray.size_append] at h_;exact h_)
  have c23b1 : decide (((⟨#[39]⟩ : ByteArray) ++ a0).size + 1 ≤ 9223372036854775807) = true:=decide_eq_true c23
  try have c23b2 : (9223372036854775807 < ((⟨#[39]⟩ : ByteArray) ++ a0).size + 1) = False:=eq_false (Nat.not_lt.2 c23)
  obtain rfl:=Option.some.inj H
  go_enter Try.func37,Try.ntmps37
  go_wp2_with (first|((with_reducible refine gate_callee (f:=32) rfl ?_);refine goesL_ (some 7) rfl rfl Try.func32 (by kernel_rfl) rfl #[.string a0] rfl (by (try simp only [List.map_toArray,List.map_cons,List.map_nil]);first|done|rfl|(simp only [List.length_drop,List.length_take];rfl)) ?_;(with_reducible refine (impl_SignsOf.calls k a0 t180 false _ A2.out).mono ?_);rintro e w24 ⟨v182,rfl,ho0,hb⟩;refine ⟨_,rfl,?_⟩;have n0_:=Aside0.mk (Kd.R_lower ho0 (below_size (by repeat (first|(with_reducible first|exact HB.out|apply below_alloc|apply pw_below_drewN|apply below_drew1)|exact HB.out))));have n1_:=Aside0.mk (below_step (by repeat (first|(with_reducible first|exact HB.out|apply below_alloc|apply pw_below_drewN|apply below_drew1)|exact HB.out)) hb);clear HB;have HO183:=n0_;have HB:=n1_;clear n0_ n1_;(try clear hb);(try clear hb2);(try clear hk);(try clear hi);(try clear ho0)))
  go_ret
  exact ⟨by first|rfl|(simp [errW_none,errW_some] <;> rfl)|(simp [*,errW_none,errW_some] <;> rfl),by repeat (first|(with_reducible first|exact HB.out|apply below_alloc|apply pw_below_drewN|apply below_drew1)|exact HB.out)⟩

/-! ### laws_FnExactAtomText: function 11 -/
def laws_FnExactAtomText.f (k : Nat) (a0 : ByteArray) : Option (Bool):=if (a0.size : Int) > 1048576 then (some true) else ((spec_AtomText.f k a0).bind fun t186 => ((impl_AtomText.f k a0).bind fun t187 => (if t187.toList = t186.toList then (some true) else (some false))))
theorem laws_FnExactAtomText.mono : ∀ a0 k,LeO (laws_FnExactAtomText.f k a0) (laws_FnExactAtomText.f (k + 1) a0):=by
 intro a0 k
 unfold laws_FnExactAtomText.f
 repeat' first
   | (with_reducible exact impl_AtomText.mono _ _)
   | (with_reducible exact spec_AtomText.mono _ _)
   | (with_reducible exact LeO.refl _)
   | (with_reducible exact LeO.none _)
   | (with_reducible refine LeO.ite ?_ ?_)
   | (with_reducible refine LeO.bind ?_ (fun _ => ?_))
   | exact impl_AtomText.mono _ _
   | exact spec_AtomText.mono _ _
   | exact LeO.none _
   | refine LeO.ite ?_ ?_
   | refine LeO.bind ?_ (fun _ => ?_)
set_option maxHeartbeats 8000000 in
set_option maxRecDepth 100000 in
theorem laws_FnExactAtomText.calls (k : Nat) (a0 : ByteArray) (r : Bool) (w : World) (h : laws_FnExactAtomText.f k a0 = some r) :
  Calls Try.prog 11 #[.string a0] w fun e w' => e = .returned (.bool r) ∧ Below w.heap.size w w':=by
 have HB:=Aside0.mk (Below.refl w.heap.size w)
 have H : (if (a0.size : Int) > 1048576 then (some true) else ((spec_AtomText.f k a0).bind fun t186 => ((impl_AtomText.f k a0).bind fun t187 => (if t187.toList = t186.toList then (some true) else (some false))))) = some r:=h
 clear h
 by_cases c2 : (a0.size : Int) > 1048576
 ·rw [if_pos c2] at H
  have c2b0 : decide (1048576 < (a0.size : Int)) = true:=decide_eq_true c2
  have c2b1 : decide (1048576 < a0.size) = true:=decide_eq_true (by omega)
  clear c2
  obtain rfl:=Option.some.inj H
  go_enter Try.func11,Try.ntmps11
  go_wp2
  go_ret
  exact ⟨by first|rfl|(simp [errW_none,errW_some] <;> rfl)|(simp [*,errW_none,errW_some] <;> rfl),by repeat (first|(with_reducible first|exact HB.out|apply below_alloc|apply pw_below_drewN|apply below_drew1)|exact HB.out)⟩
 ·rw [if_neg c2] at H
  have c2b0 : decide (1048576 < (a0.size : Int)) = false:=decide_eq_false c2
  have c2b1 : decide (1048576 < a0.size) = false:=decide_eq_false (by omega)
  clear c2
  replace H:=Option.bind_eq_some_iff.mp H
  obtain ⟨t186,A30,H⟩:=H
  replace H : ((impl_AtomText.f k a0).bind fun t187 => (if t187.toList = t186.toList then (some true) else (some false))) = some r:=H
  have A3:=Aside0.mk A30
  clear A30
  replace H:=Option.bind_eq_some_iff.mp H
  obtain ⟨t187,A40,H⟩:=H
  replace H : (if t187.toList = t186.toList then (some true) else (some false)) = some r:=H
  have A4:=Aside0.mk A40
  clear A40
  by_cases c5 : t187.toList = t186.toList
  ·rw [if_pos c5] at H
   have c5b0 : (t187.toList == t186.toList) = true:=beq_iff_eq.mpr c5
   have c5b1 : (t187.toList != t186.toList) = false:=bne_eq_false_iff_eq.mpr c5
   clear c5
   obtain rfl:=Option.some.inj H
   go_enter Try.func11,Try.ntmps11
   go_wp2_with (first|((with_reducible refine gate_callee (f:=36) rfl ?_);refine goesL_ (some 9) rfl rfl Try.func36 (by kernel_rfl) rfl #[.string a0] rfl (by (try simp only [List.map_toArray,List.map_cons,List.map_nil]);first|done|rfl|(simp only [List.length_drop,List.length_take];rfl)) ?_;(with_reducible refine (spec_AtomText.calls k a0 t186 _ A3.out).mono ?_);rintro e w6 ⟨rfl,hb⟩;refine ⟨_,rfl,?_⟩;have n0_:=Aside0.mk (below_step (by repeat (first|(with_reducible first|exact HB.out|apply below_alloc|apply pw_below_drewN|apply below_drew1)|exact HB.out)) hb);clear HB;have HB:=n0_;clear n0_;(try clear hb);(try clear hb2);(try clear hk);(try clear hi))|((with_reducible refine gate_callee (f:=37) rfl ?_);refine goesL_ (some 11) rfl rfl Try.func37 (by kernel_rfl) rfl #[.string a0] rfl (by (try simp only [List.map_toArray,List.map_cons,List.map_nil]);first|done|rfl|(simp only [List.length_drop,List.length_take];rfl)) ?_;(with_reducible refine (impl_AtomText.calls k a0 t187 _ A4.out).mono ?_);rintro e w7 ⟨rfl,hb⟩;refine ⟨_,rfl,?_⟩;have n0_:=Aside0.mk (below_step (by repeat (first|(with_reducible first|exact HB.out|apply below_alloc|apply pw_below_drewN|apply below_drew1)|exact HB.out)) hb);clear HB;have HB:=n0_;clear n0_;(try clear hb);(try clear hb2);(try clear hk);(try clear hi)))
   go_ret
   exact ⟨by first|rfl|(simp [errW_none,errW_some] <;> rfl)|(simp [*,errW_none,errW_some] <;> rfl),by repeat (first|(with_reducible first|exact HB.out|apply below_alloc|apply pw_below_drewN|apply below_drew1)|exact HB.out)⟩
  ·rw [if_neg c5] at H
   have c5b0 : (t187.toList == t186.toList) = false:=beq_eq_false_iff_ne.mpr c5
   have c5b1 : (t187.toList != t186.toList) = true:=bne_iff_ne.mpr c5
   obtain rfl:=Option.some.inj H
   go_enter Try.func11,Try.ntmps11
   go_wp2_with (first|((with_reducible refine gate_callee (f:=36) rfl ?_);refine goesL_ (some 9) rfl rfl Try.func36 (by kernel_rfl) rfl #[.string a0] rfl (by (try simp only [List.map_toArray,List.map_cons,List.map_nil]);first|done|rfl|(simp only [List.length_drop,List.length_take];rfl)) ?_;(with_reducible refine (spec_AtomText.calls k a0 t186 _ A3.out).mono ?_);rintro e w8 ⟨rfl,hb⟩;refine ⟨_,rfl,?_⟩;have n0_:=Aside0.mk (below_step (by repeat (first|(with_reducible first|exact HB.out|apply below_alloc|apply pw_below_drewN|apply below_drew1)|exact HB.out)) hb);clear HB;have HB:=n0_;clear n0_;(try clear hb);(try clear hb2);(try clear hk);(try clear hi))|((with_reducible refine gate_callee (f:=37) rfl ?_);refine goesL_ (some 11) rfl rfl Try.func37 (by kernel_rfl) rfl #[.string a0] rfl (by (try simp only [List.map_toArray,List.map_cons,List.map_nil]);first|done|rfl|(simp only [List.length_drop,List.length_take];rfl)) ?_;(with_reducible refine (impl_AtomText.calls k a0 t187 _ A4.out).mono ?_);rintro e w9 ⟨rfl,hb⟩;refine ⟨_,rfl,?_⟩;have n0_:=Aside0.mk (below_step (by repeat (first|(with_reducible first|exact HB.out|apply below_alloc|apply pw_below_drewN|apply below_drew1)|exact HB.out)) hb);clear HB;have HB:=n0_;clear n0_;(try clear hb);(try clear hb2);(try clear hk);(try clear hi)))
   go_ret
   exact ⟨by first|rfl|(simp [errW_none,errW_some] <;> rfl)|(simp [*,errW_none,errW_some] <;> rfl),by repeat (first|(with_reducible first|exact HB.out|apply below_alloc|apply pw_below_drewN|apply below_drew1)|exact HB.out)⟩

/-- THE ONE PURE STATEMENT of laws_FnExactAtomText: yours. -/
def laws_FnExactAtomText.Pure : Prop:=∀ (a0 : ByteArray),a0.size ≤ 140737488351232 → ∃ k,laws_FnExactAtomText.f k a0 = some true
theorem laws_FnExactAtomText.walk (P : laws_FnExactAtomText.Pure) (a0 : ByteArray) (w : World) (w0 : a0.size ≤ 140737488351232) :
  Calls Try.prog 11 #[.string a0] w fun e w' => e = .returned (.bool true) ∧ Below w.heap.size w w':=by
 obtain ⟨k,h⟩:=P a0 w0
 refine (laws_FnExactAtomText.calls k a0 true w h).mono ?_
 rintro e w' ⟨rfl,hd⟩
 exact ⟨rfl,hd⟩

end Go.Proofs.Ytbkibnjpolnajaa.KSa
