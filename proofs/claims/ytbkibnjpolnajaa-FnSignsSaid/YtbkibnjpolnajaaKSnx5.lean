/- Contracts of functions of the program and of the reference, each a Lean function and the proof that Go comes to its answer. Written by wip/pp/pp.py out of the kit's print, for this claim; nothing of it is trusted: Lean checks it. -/
import Derived.Test.YtbkibnjpolnajaaKSnx0
import Derived.Test.YtbkibnjpolnajaaKSnx2
import Derived.Test.YtbkibnjpolnajaaKSnx4
namespace Go.Proofs.Ytbkibnjpolnajaa.KSn
open Go.RowKit Go.Proofs.YtbkibnjpolnajaaW.PrintWords Go.Proofs.YtbkibnjpolnajaaW.PrintLast Go.Proofs.YtbkibnjpolnajaaW.PrintMore
attribute [local go_sem] max2_int min2_int max_two min_two max_three min_three max_four min_four   -- for this text's walks alone
set_option linter.unusedVariables false
set_option linter.unusedSimpArgs false

set_option linter.unusedSectionVars false
variable [fk_impl_run] [fk_strings_IndexByte] [fk_spec_SymbolByte]
/-! ### spec_SignsOf: function 31 -/
mutual
def spec_SignsOf.l0 : Nat → ByteArray → List (S46) → Int → Option ((List (S46)) × Bool)
 | 0,_,_,_ => none
 | k + 1,x0,x4,x5 => if x5 < (x0.size : Int) then (if 0 ≤ x5 then ((spec_l05Blank.f (bt x0 x5)).bind fun t126 => (if t126 = true then (spec_SignsOf.l0 k x0 x4 (wrap64 (x5 + 1))) else (if (bt x0 x5) = 37 then (spec_SignsOf.l1 k x0 x4 x5) else ((spec_l05Sign.f k x0 x5).bind fun bt127 => (if bt127.2.2.2.2.2 < (x0.size : Int) then (if 0 ≤ bt127.2.2.2.2.2 then (if x4.length < 2932031007402 then (spec_SignsOf.l0 k x0 (x4 ++ [(⟨bt127.1,bt127.2.1,bt127.2.2.1,bt127.2.2.2.1,((bt x0 bt127.2.2.2.2.2) == 40)⟩ : S46)]) bt127.2.2.2.2.2) else (none)) else (none)) else (if x4.length < 2932031007402 then (spec_SignsOf.l0 k x0 (x4 ++ [(⟨bt127.1,bt127.2.1,bt127.2.2.1,bt127.2.2.2.1,false⟩ : S46)]) bt127.2.2.2.2.2) else (none))))))) else (none)) else (some (x4,true))
def spec_SignsOf.l1 : Nat → ByteArray → List (S46) → Int → Option ((List (S46)) × Bool)
 | 0,_,_,_ => none
 | k + 1,x0,x4,x5 => if x5 < (x0.size : Int) then (if 0 ≤ x5 then (if (bt x0 x5) = 10 then (spec_SignsOf.l0 k x0 x4 x5) else (spec_SignsOf.l1 k x0 x4 (wrap64 (x5 + 1)))) else (none)) else (spec_SignsOf.l0 k x0 x4 x5)
end
def spec_SignsOf.f (k : Nat) (a0 : ByteArray) : Option ((List (S46)) × Bool):=(some (([] : List (S46)) : List (S46))).bind fun y123 => (if (a0.size : Int) > 3000 then (some (y123,false)) else (spec_SignsOf.l0 k a0 y123 0))
theorem spec_SignsOf.mono_l : ∀ k,(∀ y0 y1 y2,LeO (spec_SignsOf.l0 k y0 y1 y2) (spec_SignsOf.l0 (k + 1) y0 y1 y2)) ∧ (∀ y0 y1 y2,LeO (spec_SignsOf.l1 k y0 y1 y2) (spec_SignsOf.l1 (k + 1) y0 y1 y2))
 | 0 => ⟨fun _ _ _ r h => by simp [spec_SignsOf.l0] at h,fun _ _ _ r h => by simp [spec_SignsOf.l1] at h⟩
 | k + 1 => by
  obtain ⟨ih0,ih1⟩:=spec_SignsOf.mono_l k
  refine ⟨?_,?_⟩
  ·intro y0 y1 y2
   unfold spec_SignsOf.l0
   repeat' first
   | (with_reducible exact ih0 _ _ _)
   | (with_reducible exact ih1 _ _ _)
   | (with_reducible exact spec_l05Sign.mono _ _ _)
   | (with_reducible exact LeO.refl _)
   | (with_reducible exact LeO.none _)
   | (with_reducible refine LeO.ite ?_ ?_)
   | (with_reducible refine LeO.bind ?_ (fun _ => ?_))
   | exact ih0 _ _ _
   | exact ih1 _ _ _
   | exact spec_l05Sign.mono _ _ _
   | exact LeO.none _
   | refine LeO.ite ?_ ?_
   | refine LeO.bind ?_ (fun _ => ?_)
  ·intro y0 y1 y2
   unfold spec_SignsOf.l1
   repeat' first
   | (with_reducible exact ih0 _ _ _)
   | (with_reducible exact ih1 _ _ _)
   | (with_reducible exact spec_l05Sign.mono _ _ _)
   | (with_reducible exact LeO.refl _)
   | (with_reducible exact LeO.none _)
   | (with_reducible refine LeO.ite ?_ ?_)
   | (with_reducible refine LeO.bind ?_ (fun _ => ?_))
   | exact ih0 _ _ _
   | exact ih1 _ _ _
   | exact spec_l05Sign.mono _ _ _
   | exact LeO.none _
   | refine LeO.ite ?_ ?_
   | refine LeO.bind ?_ (fun _ => ?_)
theorem spec_SignsOf.mono : ∀ a0 k,LeO (spec_SignsOf.f k a0) (spec_SignsOf.f (k + 1) a0):=by
 intro a0 k
 obtain ⟨ih0,ih1⟩:=spec_SignsOf.mono_l k
 unfold spec_SignsOf.f
 repeat' first
   | (with_reducible exact ih0 _ _ _)
   | (with_reducible exact ih1 _ _ _)
   | (with_reducible exact spec_l05Sign.mono _ _ _)
   | (with_reducible exact LeO.refl _)
   | (with_reducible exact LeO.none _)
   | (with_reducible refine LeO.ite ?_ ?_)
   | (with_reducible refine LeO.bind ?_ (fun _ => ?_))
   | exact ih0 _ _ _
   | exact ih1 _ _ _
   | exact spec_l05Sign.mono _ _ _
   | exact LeO.none _
   | refine LeO.ite ?_ ?_
   | refine LeO.bind ?_ (fun _ => ?_)
set_option maxHeartbeats 8000000 in
set_option maxRecDepth 100000 in
theorem spec_SignsOf.calls (k : Nat) (a0 : ByteArray) (r1 : List (S46)) (r2 : Bool) (w : World) (h : spec_SignsOf.f k a0 = some (r1,r2)) :
  Calls Try.prog 31 #[.string a0] w fun e w' => ∃ v0_ : Value,e = .returned (.tuple #[v0_,.bool r2]) ∧ Kd.R k46 46 w' w.heap.size (fun _ => True) v0_ r1 ∧ Below w.heap.size w w':=by
 have hu46:=Try.underlying46
 have HB:=Aside0.mk (Below.refl w.heap.size w)
 have H : ((some (([] : List (S46)) : List (S46))).bind fun y123 => (if (a0.size : Int) > 3000 then (some (y123,false)) else (spec_SignsOf.l0 k a0 y123 0))) = some (r1,r2):=h
 clear h
 obtain ⟨y123,hy123⟩ : ∃ y_ : List (S46),y_ = (([] : List (S46))):=⟨_,rfl⟩
 replace H : (if (a0.size : Int) > 3000 then (some (y123,false)) else (spec_SignsOf.l0 k a0 y123 0)) = some (r1,r2):=by first|(rw [hy123];with_reducible exact H)|(have H2_:=(Option.bind_some _ _).symm.trans H;rw [hy123];with_reducible exact H2_)|(have H2_:=(Option.bind_some _ _).symm.trans H;with_reducible exact H2_)|with_reducible exact H|(rw [hy123];exact H)|exact H
 have Ny123:=Aside0.mk hy123
 clear hy123
 by_cases c2 : (a0.size : Int) > 3000
 ·rw [if_pos c2] at H
  have c2b0 : decide (3000 < (a0.size : Int)) = true:=decide_eq_true c2
  have c2b1 : decide (3000 < a0.size) = true:=decide_eq_true (by omega)
  clear c2
  simp only [Option.some.injEq,Prod.mk.injEq] at H
  obtain ⟨rfl,rfl⟩:=H
  go_enter Try.func31,Try.ntmps31
  go_wp2_with (first|((with_reducible refine gate_dst (N:=8) rfl ?_);refine Kd.R_lit k46 _ 46 ?hg (N:=8) ?hd (xs:=([] : List (S46))) (inner:=[]) (ok:=fun _ => True) (okp:=fun _ => True) ?hr ?hp (fun _ hk => hk) trivial (Below.refl _ _) (Nat.le_refl _) (by simp) ?_;(case hd => rfl);(case hg => rfl);(case hr => first|(go_simp;done)|(go_simp;rfl));(case hp => exact (Reps.none _ _));intro v124 w3 ho4 hb hg_ hnew_;clear hg_ hnew_;(first|rw [← Ny123.out] at ho4|(simp only [Int.reduceToNat] at ho4;rw [← Ny123.out] at ho4));have n0_:=Aside0.mk (Kd.R_lower ho4 (below_size (by repeat (first|(with_reducible first|exact HB.out|apply below_alloc|apply pw_below_drewN|apply below_drew1)|exact HB.out))));have n1_:=Aside0.mk (below_step (by repeat (first|(with_reducible first|exact HB.out|apply below_alloc|apply pw_below_drewN|apply below_drew1)|exact HB.out)) hb);clear HB;have HO125:=n0_;have HB:=n1_;clear n0_ n1_;clear hb ho4))
  go_ret2
  exact ⟨_,by first|rfl|(simp [errW_none,errW_some] <;> rfl)|(simp [*,errW_none,errW_some] <;> rfl),by (with_reducible repeat (first|apply Kd.R_alloc|apply Kd.R_drewN|apply Kd.R_drew));exact HO125.out,by repeat (first|(with_reducible first|exact HB.out|apply below_alloc|apply pw_below_drewN|apply below_drew1)|exact HB.out)⟩
 ·rw [if_neg c2] at H
  have c2b0 : decide (3000 < (a0.size : Int)) = false:=decide_eq_false c2
  have c2b1 : decide (3000 < a0.size) = false:=decide_eq_false (by omega)
  clear c2
  have H':=Aside0.mk H
  clear H
  go_enter Try.func31,Try.ntmps31
  go_wp2_with (first|((with_reducible refine gate_dst (N:=8) rfl ?_);refine Kd.R_lit k46 _ 46 ?hg (N:=8) ?hd (xs:=([] : List (S46))) (inner:=[]) (ok:=fun _ => True) (okp:=fun _ => True) ?hr ?hp (fun _ hk => hk) trivial (Below.refl _ _) (Nat.le_refl _) (by simp) ?_;(case hd => rfl);(case hg => rfl);(case hr => first|(go_simp;done)|(go_simp;rfl));(case hp => exact (Reps.none _ _));intro v124 w5 ho6 hb hg_ hnew_;clear hg_ hnew_;(first|rw [← Ny123.out] at ho6|(simp only [Int.reduceToNat] at ho6;rw [← Ny123.out] at ho6));have n0_:=Aside0.mk (Kd.R_lower ho6 (below_size (by repeat (first|(with_reducible first|exact HB.out|apply below_alloc|apply pw_below_drewN|apply below_drew1)|exact HB.out))));have n1_:=Aside0.mk (below_step (by repeat (first|(with_reducible first|exact HB.out|apply below_alloc|apply pw_below_drewN|apply below_drew1)|exact HB.out)) hb);clear HB;have HO125:=n0_;have HB:=n1_;clear n0_ n1_;clear hb ho6))
  go_loopg [4,5] k (fun kq v4 v5 w' => ∃ (x4_1 : List (S46)) (x5_1 : Int),v5 = .int .i64 x5_1 ∧ Aside0 (spec_SignsOf.l0 kq a0 x4_1 x5_1 = some (r1,r2)) ∧ Aside0 (kq ≤ k) ∧ Aside0 (Kd.R k46 46 w' w.heap.size (fun _ => True) v4 x4_1) ∧ Aside0 (Below w.heap.size w w'))
  case atStart => exact ⟨(y123),(0),(by first|rfl|(simp;done)|(simp [*];done)),H',⟨Nat.le_refl _⟩,⟨by (with_reducible repeat (first|apply Kd.R_alloc|apply Kd.R_drewN|apply Kd.R_drew));exact HO125.out⟩,⟨by repeat (first|(with_reducible first|exact HB.out|apply below_alloc|apply pw_below_drewN|apply below_drew1)|exact HB.out)⟩⟩
  case round =>
   clear H'
   try clear c2
   try clear c2b0
   try clear c2b1
   obtain ⟨x4_1,x5_1,rfl,HA,HK1,HO_4,HB⟩:=hrel
   cases gk with
   | zero => exact absurd HA.out (by simp [spec_SignsOf.l0])
   | succ k1 =>
    have H:=HA.out
    clear HA
    simp only [spec_SignsOf.l0] at H
    by_cases c7 : x5_1 < (a0.size : Int)
    ·rw [if_pos c7] at H
     have c7b0 : decide (x5_1 < (a0.size : Int)) = true:=decide_eq_true c7
     clear c7
     by_cases c8 : 0 ≤ x5_1
     rotate_left
     ·rw [if_neg c8] at H
      exact absurd H (by simp)
     rw [if_pos c8] at H
     have c8b0 : decide (0 ≤ x5_1) = true:=decide_eq_true c8
     clear c8
     replace H:=Option.bind_eq_some_iff.mp H
     obtain ⟨t126,A100,H⟩:=H
     replace H : (if t126 = true then (spec_SignsOf.l0 k1 a0 x4_1 (wrap64 (x5_1 + 1))) else (if (bt a0 x5_1) = 37 then (spec_SignsOf.l1 k1 a0 x4_1 x5_1) else ((spec_l05Sign.f k1 a0 x5_1).bind fun bt127 => (if bt127.2.2.2.2.2 < (a0.size : Int) then (if 0 ≤ bt127.2.2.2.2.2 then (if x4_1.length < 2932031007402 then (spec_SignsOf.l0 k1 a0 (x4_1 ++ [(⟨bt127.1,bt127.2.1,bt127.2.2.1,bt127.2.2.2.1,((bt a0 bt127.2.2.2.2.2) == 40)⟩ : S46)]) bt127.2.2.2.2.2) else (none)) else (none)) else (if x4_1.length < 2932031007402 then (spec_SignsOf.l0 k1 a0 (x4_1 ++ [(⟨bt127.1,bt127.2.1,bt127.2.2.1,bt127.2.2.2.1,false⟩ : S46)]) bt127.2.2.2.2.2) else (none)))))) = some (r1,r2):=H
     have A10:=Aside0.mk A100
     clear A100
     by_cases c11 : t126 = true
     ·subst c11
      have H1 : (spec_SignsOf.l0 k1 a0 x4_1 (wrap64 (x5_1 + 1))) = some (r1,r2):=by rw [if_pos rfl] at H;exact H
      clear H
      have H:=H1
      clear H1
      have H':=Aside0.mk H
      clear H
      have p9 : 0 ≤ (x5_1 : Int):=of_decide_eq_true (by first|(with_reducible assumption)|assumption)
      have q9 : x5_1 < (a0.size : Int):=of_decide_eq_true (by first|(with_reducible assumption)|assumption)
      have hx9:=bt_at a0 x5_1
      replace p9:=eq_true p9
      replace q9:=eq_true q9
      go_wp2_with (first|((with_reducible refine gate_callee (f:=53) rfl ?_);refine goesL_ (some 20) rfl rfl Try.func53 (by kernel_rfl) rfl #[.int .u8 (bt a0 x5_1)] rfl (by (try simp only [List.map_toArray,List.map_cons,List.map_nil]);first|done|rfl|(simp only [List.length_drop,List.length_take];rfl)) ?_;(with_reducible refine (spec_l05Blank.calls (bt a0 x5_1) true _ A10.out).mono ?_);rintro e w' ⟨rfl,⟨nd,rfl⟩⟩;refine ⟨_,rfl,?_⟩))
      go_roundg k1
      case measure => have:=HK1.out;omega
      case rel => exact ⟨(x4_1),(wrap64 (x5_1 + 1)),(by first|rfl|(simp;done)|(simp [*];done)),H',⟨by have:=HK1.out;omega⟩,⟨by (with_reducible repeat (first|apply Kd.R_alloc|apply Kd.R_drewN|apply Kd.R_drew));exact HO_4.out⟩,⟨by repeat (first|(with_reducible first|exact HB.out|apply below_alloc|apply pw_below_drewN|apply below_drew1)|exact HB.out)⟩⟩
     ·replace c11:=Bool.eq_false_iff.mpr c11
      subst c11
      have H1 : (if (bt a0 x5_1) = 37 then (spec_SignsOf.l1 k1 a0 x4_1 x5_1) else ((spec_l05Sign.f k1 a0 x5_1).bind fun bt127 => (if bt127.2.2.2.2.2 < (a0.size : Int) then (if 0 ≤ bt127.2.2.2.2.2 then (if x4_1.length < 2932031007402 then (spec_SignsOf.l0 k1 a0 (x4_1 ++ [(⟨bt127.1,bt127.2.1,bt127.2.2.1,bt127.2.2.2.1,((bt a0 bt127.2.2.2.2.2) == 40)⟩ : S46)]) bt127.2.2.2.2.2) else (none)) else (none)) else (if x4_1.length < 2932031007402 then (spec_SignsOf.l0 k1 a0 (x4_1 ++ [(⟨bt127.1,bt127.2.1,bt127.2.2.1,bt127.2.2.2.1,false⟩ : S46)]) bt127.2.2.2.2.2) else (none))))) = some (r1,r2):=by rw [if_neg (show ¬ (false = true) by decide)] at H;exact H
      clear H
      have H:=H1
      clear H1
      by_cases c13 : (bt a0 x5_1) = 37
      ·rw [if_pos c13] at H
       have c13b0 : ((bt a0 x5_1) == 37) = true:=beq_iff_eq.mpr c13
       have c13b1 : ((bt a0 x5_1) != 37) = false:=bne_eq_false_iff_eq.mpr c13
       clear c13
       have H':=Aside0.mk H
       clear H
       have p9 : 0 ≤ (x5_1 : Int):=of_decide_eq_true (by first|(with_reducible assumption)|assumption)
       have q9 : x5_1 < (a0.size : Int):=of_decide_eq_true (by first|(with_reducible assumption)|assumption)
       have hx9:=bt_at a0 x5_1
       replace p9:=eq_true p9
       replace q9:=eq_true q9
       go_wp2_with (first|((with_reducible refine gate_callee (f:=53) rfl ?_);refine goesL_ (some 20) rfl rfl Try.func53 (by kernel_rfl) rfl #[.int .u8 (bt a0 x5_1)] rfl (by (try simp only [List.map_toArray,List.map_cons,List.map_nil]);first|done|rfl|(simp only [List.length_drop,List.length_take];rfl)) ?_;(with_reducible refine (spec_l05Blank.calls (bt a0 x5_1) false _ A10.out).mono ?_);rintro e w' ⟨rfl,⟨nd,rfl⟩⟩;refine ⟨_,rfl,?_⟩;have p12 : 0 ≤ (x5_1 : Int):=of_decide_eq_true (by first|(with_reducible assumption)|assumption);have q12 : x5_1 < (a0.size : Int):=of_decide_eq_true (by first|(with_reducible assumption)|assumption);have hx12:=bt_at a0 x5_1;replace p12:=eq_true p12;replace q12:=eq_true q12))
       go_loopg [5] k1 (fun kq v5 w' => ∃ (x5_2 : Int),v5 = .int .i64 x5_2 ∧ Aside0 (spec_SignsOf.l1 kq a0 x4_1 x5_2 = some (r1,r2)) ∧ Aside0 (kq ≤ k1) ∧ Aside0 (Kd.R k46 46 w' w.heap.size (fun _ => True) u4 x4_1) ∧ Aside0 (Below w.heap.size w w'))
       case atStart => exact ⟨(x5_1),(by first|rfl|(simp;done)|(simp [*];done)),H',⟨Nat.le_refl _⟩,⟨by (with_reducible repeat (first|apply Kd.R_alloc|apply Kd.R_drewN|apply Kd.R_drew));exact HO_4.out⟩,⟨by repeat (first|(with_reducible first|exact HB.out|apply below_alloc|apply pw_below_drewN|apply below_drew1)|exact HB.out)⟩⟩
       case round =>
        clear H'
        try clear c2
        try clear c2b0
        try clear c2b1
        try clear c7
        try clear c7b0
        try clear c8
        try clear c8b0
        try clear p9
        try clear q9
        try clear hx9
        try clear c11
        try clear p12
        try clear q12
        try clear hx12
        try clear c13
        try clear c13b0
        try clear c13b1
        try clear p12
        try clear p9
        try clear q12
        try clear q9
        obtain ⟨x5_2,rfl,HA,HK2,HO_4,HB⟩:=hrel
        cases gk with
        | zero => exact absurd HA.out (by simp [spec_SignsOf.l1])
        | succ k2 =>
         have H:=HA.out
         clear HA
         simp only [spec_SignsOf.l1] at H
         by_cases c14 : x5_2 < (a0.size : Int)
         ·rw [if_pos c14] at H
          have c14b0 : decide (x5_2 < (a0.size : Int)) = true:=decide_eq_true c14
          clear c14
          by_cases c15 : 0 ≤ x5_2
          rotate_left
          ·rw [if_neg c15] at H
           exact absurd H (by simp)
          rw [if_pos c15] at H
          have c15b0 : decide (0 ≤ x5_2) = true:=decide_eq_true c15
          clear c15
          by_cases c17 : (bt a0 x5_2) = 10
          ·rw [if_pos c17] at H
           have c17b0 : ((bt a0 x5_2) == 10) = true:=beq_iff_eq.mpr c17
           have c17b1 : ((bt a0 x5_2) != 10) = false:=bne_eq_false_iff_eq.mpr c17
           clear c17
           have H':=Aside0.mk H
           clear H
           have p16 : 0 ≤ (x5_2 : Int):=of_decide_eq_true (by first|(with_reducible assumption)|assumption)
           have q16 : x5_2 < (a0.size : Int):=of_decide_eq_true (by first|(with_reducible assumption)|assumption)
           have hx16:=bt_at a0 x5_2
           replace p16:=eq_true p16
           replace q16:=eq_true q16
           go_wp2
           go_roundg k2
           case measure => have:=HK1.out;have:=HK2.out;omega
           case rel => exact ⟨(x4_1),(x5_2),(by first|rfl|(simp;done)|(simp [*];done)),H',⟨by have:=HK1.out;have:=HK2.out;omega⟩,⟨by (with_reducible repeat (first|apply Kd.R_alloc|apply Kd.R_drewN|apply Kd.R_drew));exact HO_4.out⟩,⟨by repeat (first|(with_reducible first|exact HB.out|apply below_alloc|apply pw_below_drewN|apply below_drew1)|exact HB.out)⟩⟩
          ·rw [if_neg c17] at H
           have c17b0 : ((bt a0 x5_2) == 10) = false:=beq_eq_false_iff_ne.mpr c17
           have c17b1 : ((bt a0 x5_2) != 10) = true:=bne_iff_ne.mpr c17
           have H':=Aside0.mk H
           clear H
           have p16 : 0 ≤ (x5_2 : Int):=of_decide_eq_true (by first|(with_reducible assumption)|assumption)
           have q16 : x5_2 < (a0.size : Int):=of_decide_eq_true (by first|(with_reducible assumption)|assumption)
           have hx16:=bt_at a0 x5_2
           replace p16:=eq_true p16
           replace q16:=eq_true q16
           go_wp2
           go_roundg k2
           case measure => have:=HK1.out;have:=HK2.out;omega
           case rel => exact ⟨(wrap64 (x5_2 + 1)),(by first|rfl|(simp;done)|(simp [*];done)),H',⟨by have:=HK1.out;have:=HK2.out;omega⟩,⟨by (with_reducible repeat (first|apply Kd.R_alloc|apply Kd.R_drewN|apply Kd.R_drew));exact HO_4.out⟩,⟨by repeat (first|(with_reducible first|exact HB.out|apply below_alloc|apply pw_below_drewN|apply below_drew1)|exact HB.out)⟩⟩
         ·rw [if_neg c14] at H
          have c14b0 : decide (x5_2 < (a0.size : Int)) = false:=decide_eq_false c14
          clear c14
          have H':=Aside0.mk H
          clear H
          go_wp2
          go_roundg k2
          case measure => have:=HK1.out;have:=HK2.out;omega
          case rel => exact ⟨(x4_1),(x5_2),(by first|rfl|(simp;done)|(simp [*];done)),H',⟨by have:=HK1.out;have:=HK2.out;omega⟩,⟨by (with_reducible repeat (first|apply Kd.R_alloc|apply Kd.R_drewN|apply Kd.R_drew));exact HO_4.out⟩,⟨by repeat (first|(with_reducible first|exact HB.out|apply below_alloc|apply pw_below_drewN|apply below_drew1)|exact HB.out)⟩⟩
      ·rw [if_neg c13] at H
       have c13b0 : ((bt a0 x5_1) == 37) = false:=beq_eq_false_iff_ne.mpr c13
       have c13b1 : ((bt a0 x5_1) != 37) = true:=bne_iff_ne.mpr c13
       replace H:=Option.bind_eq_some_iff.mp H
       obtain ⟨⟨t127,t128,t129,t130,t131,t132⟩,A180,H⟩:=H
       replace H : (if t132 < (a0.size : Int) then (if 0 ≤ t132 then (if x4_1.length < 2932031007402 then (spec_SignsOf.l0 k1 a0 (x4_1 ++ [(⟨t127,t128,t129,t130,((bt a0 t132) == 40)⟩ : S46)]) t132) else (none)) else (none)) else (if x4_1.length < 2932031007402 then (spec_SignsOf.l0 k1 a0 (x4_1 ++ [(⟨t127,t128,t129,t130,false⟩ : S46)]) t132) else (none))) = some (r1,r2):=H
       have A18:=Aside0.mk A180
       clear A180
       by_cases c19 : t132 < (a0.size : Int)
       ·rw [if_pos c19] at H
        have c19b0 : decide (t132 < (a0.size : Int)) = true:=decide_eq_true c19
        clear c19
        by_cases c20 : 0 ≤ t132
        rotate_left
        ·rw [if_neg c20] at H
         exact absurd H (by simp)
        rw [if_pos c20] at H
        have c20b0 : decide (0 ≤ t132) = true:=decide_eq_true c20
        clear c20
        by_cases c22 : x4_1.length < 2932031007402
        rotate_left
        ·rw [if_neg c22] at H
         exact absurd H (by simp)
        rw [if_pos c22] at H
        have LMc22:=Aside0.mk c22
        clear c22
        obtain ⟨y134,hy134⟩ : ∃ y_ : List (S46),y_ = (x4_1 ++ [(⟨t127,t128,t129,t130,((bt a0 t132) == 40)⟩ : S46)]):=⟨_,rfl⟩
        replace H : (spec_SignsOf.l0 k1 a0 y134 t132) = some (r1,r2):=by first|(rw [hy134];with_reducible exact H)|(have H2_:=(Option.bind_some _ _).symm.trans H;rw [hy134];with_reducible exact H2_)|(have H2_:=(Option.bind_some _ _).symm.trans H;with_reducible exact H2_)|with_reducible exact H|(rw [hy134];exact H)|exact H
        have Ny134:=Aside0.mk hy134
        clear hy134
        have H':=Aside0.mk H
        clear H
        have p9 : 0 ≤ (x5_1 : Int):=of_decide_eq_true (by first|(with_reducible assumption)|assumption)
        have q9 : x5_1 < (a0.size : Int):=of_decide_eq_true (by first|(with_reducible assumption)|assumption)
        have hx9:=bt_at a0 x5_1
        replace p9:=eq_true p9
        replace q9:=eq_true q9
        go_upto_region 13 with (first|((with_reducible refine gate_callee (f:=53) rfl ?_);refine goesL_ (some 20) rfl rfl Try.func53 (by kernel_rfl) rfl #[.int .u8 (bt a0 x5_1)] rfl (by (try simp only [List.map_toArray,List.map_cons,List.map_nil]);first|done|rfl|(simp only [List.length_drop,List.length_take];rfl)) ?_;(with_reducible refine (spec_l05Blank.calls (bt a0 x5_1) false _ A10.out).mono ?_);rintro e w' ⟨rfl,⟨nd,rfl⟩⟩;refine ⟨_,rfl,?_⟩;(try (rw [drewN_self wr];generalize hq_ : World.drewN wr _ = wr;have n0_ : Aside0 (Kd.R k46 46 wr w.heap.size (fun _ => True) u4 x4_1):=⟨by rw [← hq_];exact (by (with_reducible repeat (first|apply Kd.R_alloc|apply Kd.R_drewN|apply Kd.R_drew));exact HO_4.out)⟩;have n1_ : Aside0 (Below w.heap.size w wr):=⟨by rw [← hq_];exact (by repeat (first|(with_reducible first|exact HB.out|apply below_alloc|apply pw_below_drewN|apply below_drew1)|exact HB.out))⟩;clear HO_4 HB hq_;have HO_4:=n0_;have HB:=n1_;clear n0_ n1_));have p12 : 0 ≤ (x5_1 : Int):=of_decide_eq_true (by first|(with_reducible assumption)|assumption);have q12 : x5_1 < (a0.size : Int):=of_decide_eq_true (by first|(with_reducible assumption)|assumption);have hx12:=bt_at a0 x5_1;replace p12:=eq_true p12;replace q12:=eq_true q12)|((with_reducible refine gate_callee (f:=54) rfl ?_);refine goesL_ (some 42) rfl rfl Try.func54 (by kernel_rfl) rfl #[.string a0,.int .i64 x5_1] rfl (by (try simp only [List.map_toArray,List.map_cons,List.map_nil]);first|done|rfl|(simp only [List.length_drop,List.length_take];rfl)) ?_;(with_reducible refine (spec_l05Sign.calls k1 a0 x5_1 t127 t128 t129 t130 t131 t132 _ A18.out).mono ?_);rintro e w23 ⟨rfl,hb⟩;refine ⟨_,rfl,?_⟩;have n0_:=Aside0.mk (Kd.R_below (by (with_reducible repeat (first|apply Kd.R_alloc|apply Kd.R_drewN|apply Kd.R_drew));exact HO_4.out) hb);have n1_:=Aside0.mk (below_step (by repeat (first|(with_reducible first|exact HB.out|apply below_alloc|apply pw_below_drewN|apply below_drew1)|exact HB.out)) hb);clear HO_4;clear HB;have HO_4:=n0_;have HB:=n1_;clear n0_ n1_;(try clear hb))|((with_reducible refine gate_dst (N:=6) rfl ?_);refine box_event ?hg (N:=6) ?hd (cs:=#[.int .i64 0,.string (⟨#[]⟩ : ByteArray),.int .i64 0,.int .i64 0,.bool false]) (t:=46) ?hr ?_;(case hd => rfl);(case hg => rfl);(case hr => first|(go_simp;done)|(go_simp;rfl));intro gb133 hg w24 hbox hb;have n0_:=Aside0.mk (Kd.R_below (Kd.R_elderB (by (with_reducible repeat (first|apply Kd.R_alloc|apply Kd.R_drewN|apply Kd.R_drew));exact HO_4.out) gb133 (Nat.le_of_eq hg.symm)) hb);have n1_:=Aside0.mk (below_step (by repeat (first|(with_reducible first|exact HB.out|apply below_alloc|apply pw_below_drewN|apply below_drew1)|exact HB.out)) hb);have n2_:=Aside0.mk (hbox);have n3_:=Aside0.mk ((by rw [hg];exact (below_size (by repeat (first|(with_reducible first|exact HB.out|apply below_alloc|apply pw_below_drewN|apply below_drew1)|exact HB.out))) : w.heap.size ≤ gb133));have n4_:=Aside0.mk ((by rw [hg];exact (below_size (by repeat (first|(with_reducible first|exact HB.out|apply below_alloc|apply pw_below_drewN|apply below_drew1)|exact HB.out))) : w.heap.size ≤ gb133));clear HO_4;clear HB;have HO_4:=n0_;have HB:=n1_;have BK133:=n2_;have GW133:=n3_;have GE133:=n4_;clear n0_ n1_ n2_ n3_ n4_;clear hb hbox hg;have hcz25_0 : w24.cell? ⟨gb133,0,none⟩ = some (.int .i64 0):=(blk_cell BK133.out 0).trans rfl;have hcz25_1 : w24.cell? ⟨gb133,1,none⟩ = some (.string (⟨#[]⟩ : ByteArray)):=(blk_cell BK133.out 1).trans rfl;have hcz25_2 : w24.cell? ⟨gb133,2,none⟩ = some (.int .i64 0):=(blk_cell BK133.out 2).trans rfl;have hcz25_3 : w24.cell? ⟨gb133,3,none⟩ = some (.int .i64 0):=(blk_cell BK133.out 3).trans rfl;have hcz25_4 : w24.cell? ⟨gb133,4,none⟩ = some (.bool false):=(blk_cell BK133.out 4).trans rfl;have hfz25_0:=blk_frozen BK133.out 0;have hfz25_1:=blk_frozen BK133.out 1;have hfz25_2:=blk_frozen BK133.out 2;have hfz25_3:=blk_frozen BK133.out 3;have hfz25_4:=blk_frozen BK133.out 4;have p21 : 0 ≤ (t132 : Int):=of_decide_eq_true (by first|(with_reducible assumption)|assumption);have q21 : t132 < (a0.size : Int):=of_decide_eq_true (by first|(with_reducible assumption)|assumption);have hx21:=bt_at a0 t132;replace p21:=eq_true p21;replace q21:=eq_true q21))
        generalize hW_ : World.setCell _ _ _ = w901
        have n0_ : Aside0 (w901.heap[gb133]? = some (.cells #[.int .i64 t127,.string t128,.int .i64 t129,.int .i64 t130,.bool ((bt a0 t132) == 40)] 46 (0,0))):=⟨by rw [← hW_];exact (by (with_reducible repeat (first|refine blk_drewN ?_ _|refine blk_drew ?_|refine blk_alloc ?_ _));refine blk_put (cs:=#[.int .i64 t127,.string t128,.int .i64 t129,.int .i64 t130,.bool t131]) ?_ 4 _ rfl;(with_reducible repeat (first|refine blk_drewN ?_ _|refine blk_drew ?_|refine blk_alloc ?_ _));refine blk_put (cs:=#[.int .i64 t127,.string t128,.int .i64 t129,.int .i64 t130,.bool false]) ?_ 4 _ rfl;(with_reducible repeat (first|refine blk_drewN ?_ _|refine blk_drew ?_|refine blk_alloc ?_ _));refine blk_put (cs:=#[.int .i64 t127,.string t128,.int .i64 t129,.int .i64 0,.bool false]) ?_ 3 _ rfl;(with_reducible repeat (first|refine blk_drewN ?_ _|refine blk_drew ?_|refine blk_alloc ?_ _));refine blk_put (cs:=#[.int .i64 t127,.string t128,.int .i64 0,.int .i64 0,.bool false]) ?_ 2 _ rfl;(with_reducible repeat (first|refine blk_drewN ?_ _|refine blk_drew ?_|refine blk_alloc ?_ _));refine blk_put (cs:=#[.int .i64 t127,.string (⟨#[]⟩ : ByteArray),.int .i64 0,.int .i64 0,.bool false]) ?_ 1 _ rfl;(with_reducible repeat (first|refine blk_drewN ?_ _|refine blk_drew ?_|refine blk_alloc ?_ _));refine blk_put (cs:=#[.int .i64 0,.string (⟨#[]⟩ : ByteArray),.int .i64 0,.int .i64 0,.bool false]) ?_ 0 _ rfl;(with_reducible repeat (first|refine blk_drewN ?_ _|refine blk_drew ?_|refine blk_alloc ?_ _));exact BK133.out)⟩
        have n1_ : Aside0 (Below w.heap.size w w901):=⟨by rw [← hW_];exact (by repeat (first|(with_reducible first|exact HB.out|apply below_alloc|apply pw_below_drewN|apply below_drew1|refine below_set ?_ GE133.out)|exact HB.out))⟩
        have n2_ : Aside0 (Kd.R k46 46 w901 w.heap.size (fun k_ => k_ ≠ gb133) u4 x4_1):=⟨by rw [← hW_];exact (by (with_reducible repeat (first|apply Kd.R_alloc|apply Kd.R_drewN|apply Kd.R_drew));exact Kd.R_mono (Kd.R_far (p:=⟨gb133,4,none⟩) (Kd.R_far (p:=⟨gb133,4,none⟩) (Kd.R_far (p:=⟨gb133,3,none⟩) (Kd.R_far (p:=⟨gb133,2,none⟩) (Kd.R_far (p:=⟨gb133,1,none⟩) (Kd.R_far (p:=⟨gb133,0,none⟩) (Kd.R_mono HO_4.out (fun k_ hk => (⟨hk,hk.2⟩ : _ ∧ k_ ≠ gb133))) (fun _ hk => hk.2) (.int .i64 t127)) (fun _ hk => hk.2) (.string t128)) (fun _ hk => hk.2) (.int .i64 t129)) (fun _ hk => hk.2) (.int .i64 t130)) (fun _ hk => hk.2) (.bool t131)) (fun _ hk => hk.2) (.bool ((bt a0 t132) == 40))) (fun _ hk => hk.1.2))⟩
        clear hW_ BK133 HB HO_4
        have BK133:=n0_
        have HB:=n1_
        have HO_4:=n2_
        clear n0_ n1_ n2_
        have hsz_0 : w901.cell? ⟨gb133,0,none⟩ = some (.int .i64 t127):=(blk_cell BK133.out 0).trans rfl
        have hsz_1 : w901.cell? ⟨gb133,1,none⟩ = some (.string t128):=(blk_cell BK133.out 1).trans rfl
        have hsz_2 : w901.cell? ⟨gb133,2,none⟩ = some (.int .i64 t129):=(blk_cell BK133.out 2).trans rfl
        have hsz_3 : w901.cell? ⟨gb133,3,none⟩ = some (.int .i64 t130):=(blk_cell BK133.out 3).trans rfl
        have hsz_4 : w901.cell? ⟨gb133,4,none⟩ = some (.bool ((bt a0 t132) == 40)):=(blk_cell BK133.out 4).trans rfl
        have hsf_0:=blk_frozen BK133.out 0
        have hsf_1:=blk_frozen BK133.out 1
        have hsf_2:=blk_frozen BK133.out 2
        have hsf_3:=blk_frozen BK133.out 3
        have hsf_4:=blk_frozen BK133.out 4
        go_wp2_with (first|((with_reducible refine gate_builtin (b:=.append) (xs:=#[.tmp 56,.tmp 58]) rfl ?_);at_builtin;refine Kd.R_append k46 (w0:=w) w.heap.size rfl (.tmp 56) (.tmp 58) 39 46 (.agg #[(.int .i64 0),(.string ⟨#[]⟩),(.int .i64 0),(.int .i64 0),(.bool false)]) 48 rfl Try.underlying39 info46 rfl (by decide) (by omega) u4 x4_1 (⟨t127,t128,t129,t130,((bt a0 t132) == 40)⟩ : S46) [.int .i64 t127,.string t128,.int .i64 t129,.int .i64 t130,.bool ((bt a0 t132) == 40)] (fun k_ => k_ ≠ gb133) (fun _ => False) rfl (by first|(go_simp;done)|(go_simp;rfl)) ?aP (fun _ hk => hk.elim) ?aF ?aO ?aB ?aS ?aL ?_;(case aP => exact k46_mkM _ _ _ (⟨t127,t128,t129,t130,((bt a0 t132) == 40)⟩ : S46));(case aB => exact (by repeat (first|(with_reducible first|exact HB.out|apply below_alloc|apply pw_below_drewN|apply below_drew1|refine below_set ?_ GE133.out)|exact HB.out)));(case aF => exact (fun k_ hk => Kd.freshB (g:=gb133) (o:=.cells #[.int .i64 t127,.string t128,.int .i64 t129,.int .i64 t130,.bool ((bt a0 t132) == 40)] 46 (0,0)) (by (with_reducible repeat (first|refine blk_drewN ?_ _|refine blk_drew ?_|refine blk_alloc ?_ _));exact BK133.out) k_ hk));(case aO => exact (by (with_reducible repeat (first|apply Kd.R_alloc|apply Kd.R_drewN|apply Kd.R_drew));exact HO_4.out));(case aS => exact (below_size (by repeat (first|(with_reducible first|exact HB.out|apply below_alloc|apply pw_below_drewN|apply below_drew1|refine below_set ?_ GE133.out)|exact HB.out))));(case aL => have:=LMc22.out;omega);intro v135 w26 ho hb hg hat;rw [← Ny134.out] at ho;have n0_:=Aside0.mk (blk_grown (g:=gb133) (o:=.cells #[.int .i64 t127,.string t128,.int .i64 t129,.int .i64 t130,.bool ((bt a0 t132) == 40)] 46 (0,0)) (by (with_reducible repeat (first|refine blk_drewN ?_ _|refine blk_drew ?_|refine blk_alloc ?_ _));exact BK133.out) hg (Kd.R_away HO_4.out (fun _ hk => hk)));have n1_:=Aside0.mk (hb);have n2_:=Aside0.mk (ho);clear BK133;clear HB;clear HO_4;have BK133:=n0_;have HB:=n1_;have HO136:=n2_;clear n0_ n1_ n2_;clear ho hb hg hat))
        go_roundg k1
        case measure => have:=HK1.out;omega
        case rel => exact ⟨(y134),(t132),(by first|rfl|(simp;done)|(simp [*];done)),H',⟨by have:=HK1.out;omega⟩,⟨by (with_reducible repeat (first|apply Kd.R_alloc|apply Kd.R_drewN|apply Kd.R_drew));exact Kd.R_mono HO136.out (fun _ hk => trivial)⟩,⟨by repeat (first|(with_reducible first|exact HB.out|apply below_alloc|apply pw_below_drewN|apply below_drew1|refine below_set ?_ GE133.out)|exact HB.out)⟩⟩
       ·rw [if_neg c19] at H
        have c19b0 : decide (t132 < (a0.size : Int)) = false:=decide_eq_false c19
        clear c19
        by_cases c27 : x4_1.length < 2932031007402
        rotate_left
        ·rw [if_neg c27] at H
         exact absurd H (by simp)
        rw [if_pos c27] at H
        have LMc27:=Aside0.mk c27
        clear c27
        obtain ⟨y137,hy137⟩ : ∃ y_ : List (S46),y_ = (x4_1 ++ [(⟨t127,t128,t129,t130,false⟩ : S46)]):=⟨_,rfl⟩
        replace H : (spec_SignsOf.l0 k1 a0 y137 t132) = some (r1,r2):=by first|(rw [hy137];with_reducible exact H)|(have H2_:=(Option.bind_some _ _).symm.trans H;rw [hy137];with_reducible exact H2_)|(have H2_:=(Option.bind_some _ _).symm.trans H;with_reducible exact H2_)|with_reducible exact H|(rw [hy137];exact H)|exact H
        have Ny137:=Aside0.mk hy137
        clear hy137
        have H':=Aside0.mk H
        clear H
        have p9 : 0 ≤ (x5_1 : Int):=of_decide_eq_true (by first|(with_reducible assumption)|assumption)
        have q9 : x5_1 < (a0.size : Int):=of_decide_eq_true (by first|(with_reducible assumption)|assumption)
        have hx9:=bt_at a0 x5_1
        replace p9:=eq_true p9
        replace q9:=eq_true q9
        go_upto_region 13 with (first|((with_reducible refine gate_callee (f:=53) rfl ?_);refine goesL_ (some 20) rfl rfl Try.func53 (by kernel_rfl) rfl #[.int .u8 (bt a0 x5_1)] rfl (by (try simp only [List.map_toArray,List.map_cons,List.map_nil]);first|done|rfl|(simp only [List.length_drop,List.length_take];rfl)) ?_;(with_reducible refine (spec_l05Blank.calls (bt a0 x5_1) false _ A10.out).mono ?_);rintro e w' ⟨rfl,⟨nd,rfl⟩⟩;refine ⟨_,rfl,?_⟩;(try (rw [drewN_self wr];generalize hq_ : World.drewN wr _ = wr;have n0_ : Aside0 (Kd.R k46 46 wr w.heap.size (fun _ => True) u4 x4_1):=⟨by rw [← hq_];exact (by (with_reducible repeat (first|apply Kd.R_alloc|apply Kd.R_drewN|apply Kd.R_drew));exact HO_4.out)⟩;have n1_ : Aside0 (Below w.heap.size w wr):=⟨by rw [← hq_];exact (by repeat (first|(with_reducible first|exact HB.out|apply below_alloc|apply pw_below_drewN|apply below_drew1)|exact HB.out))⟩;clear HO_4 HB hq_;have HO_4:=n0_;have HB:=n1_;clear n0_ n1_));have p12 : 0 ≤ (x5_1 : Int):=of_decide_eq_true (by first|(with_reducible assumption)|assumption);have q12 : x5_1 < (a0.size : Int):=of_decide_eq_true (by first|(with_reducible assumption)|assumption);have hx12:=bt_at a0 x5_1;replace p12:=eq_true p12;replace q12:=eq_true q12)|((with_reducible refine gate_callee (f:=54) rfl ?_);refine goesL_ (some 42) rfl rfl Try.func54 (by kernel_rfl) rfl #[.string a0,.int .i64 x5_1] rfl (by (try simp only [List.map_toArray,List.map_cons,List.map_nil]);first|done|rfl|(simp only [List.length_drop,List.length_take];rfl)) ?_;(with_reducible refine (spec_l05Sign.calls k1 a0 x5_1 t127 t128 t129 t130 t131 t132 _ A18.out).mono ?_);rintro e w28 ⟨rfl,hb⟩;refine ⟨_,rfl,?_⟩;have n0_:=Aside0.mk (Kd.R_below (by (with_reducible repeat (first|apply Kd.R_alloc|apply Kd.R_drewN|apply Kd.R_drew));exact HO_4.out) hb);have n1_:=Aside0.mk (below_step (by repeat (first|(with_reducible first|exact HB.out|apply below_alloc|apply pw_below_drewN|apply below_drew1)|exact HB.out)) hb);clear HO_4;clear HB;have HO_4:=n0_;have HB:=n1_;clear n0_ n1_;(try clear hb))|((with_reducible refine gate_dst (N:=6) rfl ?_);refine box_event ?hg (N:=6) ?hd (cs:=#[.int .i64 0,.string (⟨#[]⟩ : ByteArray),.int .i64 0,.int .i64 0,.bool false]) (t:=46) ?hr ?_;(case hd => rfl);(case hg => rfl);(case hr => first|(go_simp;done)|(go_simp;rfl));intro gb133 hg w29 hbox hb;have n0_:=Aside0.mk (Kd.R_below (Kd.R_elderB (by (with_reducible repeat (first|apply Kd.R_alloc|apply Kd.R_drewN|apply Kd.R_drew));exact HO_4.out) gb133 (Nat.le_of_eq hg.symm)) hb);have n1_:=Aside0.mk (below_step (by repeat (first|(with_reducible first|exact HB.out|apply below_alloc|apply pw_below_drewN|apply below_drew1)|exact HB.out)) hb);have n2_:=Aside0.mk (hbox);have n3_:=Aside0.mk ((by rw [hg];exact (below_size (by repeat (first|(with_reducible first|exact HB.out|apply below_alloc|apply pw_below_drewN|apply below_drew1)|exact HB.out))) : w.heap.size ≤ gb133));have n4_:=Aside0.mk ((by rw [hg];exact (below_size (by repeat (first|(with_reducible first|exact HB.out|apply below_alloc|apply pw_below_drewN|apply below_drew1)|exact HB.out))) : w.heap.size ≤ gb133));clear HO_4;clear HB;have HO_4:=n0_;have HB:=n1_;have BK133:=n2_;have GW133:=n3_;have GE133:=n4_;clear n0_ n1_ n2_ n3_ n4_;clear hb hbox hg;have hcz30_0 : w29.cell? ⟨gb133,0,none⟩ = some (.int .i64 0):=(blk_cell BK133.out 0).trans rfl;have hcz30_1 : w29.cell? ⟨gb133,1,none⟩ = some (.string (⟨#[]⟩ : ByteArray)):=(blk_cell BK133.out 1).trans rfl;have hcz30_2 : w29.cell? ⟨gb133,2,none⟩ = some (.int .i64 0):=(blk_cell BK133.out 2).trans rfl;have hcz30_3 : w29.cell? ⟨gb133,3,none⟩ = some (.int .i64 0):=(blk_cell BK133.out 3).trans rfl;have hcz30_4 : w29.cell? ⟨gb133,4,none⟩ = some (.bool false):=(blk_cell BK133.out 4).trans rfl;have hfz30_0:=blk_frozen BK133.out 0;have hfz30_1:=blk_frozen BK133.out 1;have hfz30_2:=blk_frozen BK133.out 2;have hfz30_3:=blk_frozen BK133.out 3;have hfz30_4:=blk_frozen BK133.out 4))
        generalize hW_ : World.setCell _ _ _ = w902
        have n0_ : Aside0 (w902.heap[gb133]? = some (.cells #[.int .i64 t127,.string t128,.int .i64 t129,.int .i64 t130,.bool false] 46 (0,0))):=⟨by rw [← hW_];exact (by (with_reducible repeat (first|refine blk_drewN ?_ _|refine blk_drew ?_|refine blk_alloc ?_ _));refine blk_put (cs:=#[.int .i64 t127,.string t128,.int .i64 t129,.int .i64 t130,.bool t131]) ?_ 4 _ rfl;(with_reducible repeat (first|refine blk_drewN ?_ _|refine blk_drew ?_|refine blk_alloc ?_ _));refine blk_put (cs:=#[.int .i64 t127,.string t128,.int .i64 t129,.int .i64 t130,.bool false]) ?_ 4 _ rfl;(with_reducible repeat (first|refine blk_drewN ?_ _|refine blk_drew ?_|refine blk_alloc ?_ _));refine blk_put (cs:=#[.int .i64 t127,.string t128,.int .i64 t129,.int .i64 0,.bool false]) ?_ 3 _ rfl;(with_reducible repeat (first|refine blk_drewN ?_ _|refine blk_drew ?_|refine blk_alloc ?_ _));refine blk_put (cs:=#[.int .i64 t127,.string t128,.int .i64 0,.int .i64 0,.bool false]) ?_ 2 _ rfl;(with_reducible repeat (first|refine blk_drewN ?_ _|refine blk_drew ?_|refine blk_alloc ?_ _));refine blk_put (cs:=#[.int .i64 t127,.string (⟨#[]⟩ : ByteArray),.int .i64 0,.int .i64 0,.bool false]) ?_ 1 _ rfl;(with_reducible repeat (first|refine blk_drewN ?_ _|refine blk_drew ?_|refine blk_alloc ?_ _));refine blk_put (cs:=#[.int .i64 0,.string (⟨#[]⟩ : ByteArray),.int .i64 0,.int .i64 0,.bool false]) ?_ 0 _ rfl;(with_reducible repeat (first|refine blk_drewN ?_ _|refine blk_drew ?_|refine blk_alloc ?_ _));exact BK133.out)⟩
        have n1_ : Aside0 (Below w.heap.size w w902):=⟨by rw [← hW_];exact (by repeat (first|(with_reducible first|exact HB.out|apply below_alloc|apply pw_below_drewN|apply below_drew1|refine below_set ?_ GE133.out)|exact HB.out))⟩
        have n2_ : Aside0 (Kd.R k46 46 w902 w.heap.size (fun k_ => k_ ≠ gb133) u4 x4_1):=⟨by rw [← hW_];exact (by (with_reducible repeat (first|apply Kd.R_alloc|apply Kd.R_drewN|apply Kd.R_drew));exact Kd.R_mono (Kd.R_far (p:=⟨gb133,4,none⟩) (Kd.R_far (p:=⟨gb133,4,none⟩) (Kd.R_far (p:=⟨gb133,3,none⟩) (Kd.R_far (p:=⟨gb133,2,none⟩) (Kd.R_far (p:=⟨gb133,1,none⟩) (Kd.R_far (p:=⟨gb133,0,none⟩) (Kd.R_mono HO_4.out (fun k_ hk => (⟨hk,hk.2⟩ : _ ∧ k_ ≠ gb133))) (fun _ hk => hk.2) (.int .i64 t127)) (fun _ hk => hk.2) (.string t128)) (fun _ hk => hk.2) (.int .i64 t129)) (fun _ hk => hk.2) (.int .i64 t130)) (fun _ hk => hk.2) (.bool t131)) (fun _ hk => hk.2) (.bool false)) (fun _ hk => hk.1.2))⟩
        clear hW_ BK133 HB HO_4
        have BK133:=n0_
        have HB:=n1_
        have HO_4:=n2_
        clear n0_ n1_ n2_
        have hsz_0 : w902.cell? ⟨gb133,0,none⟩ = some (.int .i64 t127):=(blk_cell BK133.out 0).trans rfl
        have hsz_1 : w902.cell? ⟨gb133,1,none⟩ = some (.string t128):=(blk_cell BK133.out 1).trans rfl
        have hsz_2 : w902.cell? ⟨gb133,2,none⟩ = some (.int .i64 t129):=(blk_cell BK133.out 2).trans rfl
        have hsz_3 : w902.cell? ⟨gb133,3,none⟩ = some (.int .i64 t130):=(blk_cell BK133.out 3).trans rfl
        have hsz_4 : w902.cell? ⟨gb133,4,none⟩ = some (.bool false):=(blk_cell BK133.out 4).trans rfl
        have hsf_0:=blk_frozen BK133.out 0
        have hsf_1:=blk_frozen BK133.out 1
        have hsf_2:=blk_frozen BK133.out 2
        have hsf_3:=blk_frozen BK133.out 3
        have hsf_4:=blk_frozen BK133.out 4
        go_wp2_with (first|((with_reducible refine gate_builtin (b:=.append) (xs:=#[.tmp 56,.tmp 58]) rfl ?_);at_builtin;refine Kd.R_append k46 (w0:=w) w.heap.size rfl (.tmp 56) (.tmp 58) 39 46 (.agg #[(.int .i64 0),(.string ⟨#[]⟩),(.int .i64 0),(.int .i64 0),(.bool false)]) 48 rfl Try.underlying39 info46 rfl (by decide) (by omega) u4 x4_1 (⟨t127,t128,t129,t130,false⟩ : S46) [.int .i64 t127,.string t128,.int .i64 t129,.int .i64 t130,.bool false] (fun k_ => k_ ≠ gb133) (fun _ => False) rfl (by first|(go_simp;done)|(go_simp;rfl)) ?aP (fun _ hk => hk.elim) ?aF ?aO ?aB ?aS ?aL ?_;(case aP => exact k46_mkM _ _ _ (⟨t127,t128,t129,t130,false⟩ : S46));(case aB => exact (by repeat (first|(with_reducible first|exact HB.out|apply below_alloc|apply pw_below_drewN|apply below_drew1|refine below_set ?_ GE133.out)|exact HB.out)));(case aF => exact (fun k_ hk => Kd.freshB (g:=gb133) (o:=.cells #[.int .i64 t127,.string t128,.int .i64 t129,.int .i64 t130,.bool false] 46 (0,0)) (by (with_reducible repeat (first|refine blk_drewN ?_ _|refine blk_drew ?_|refine blk_alloc ?_ _));exact BK133.out) k_ hk));(case aO => exact (by (with_reducible repeat (first|apply Kd.R_alloc|apply Kd.R_drewN|apply Kd.R_drew));exact HO_4.out));(case aS => exact (below_size (by repeat (first|(with_reducible first|exact HB.out|apply below_alloc|apply pw_below_drewN|apply below_drew1|refine below_set ?_ GE133.out)|exact HB.out))));(case aL => have:=LMc27.out;omega);intro v138 w31 ho hb hg hat;rw [← Ny137.out] at ho;have n0_:=Aside0.mk (blk_grown (g:=gb133) (o:=.cells #[.int .i64 t127,.string t128,.int .i64 t129,.int .i64 t130,.bool false] 46 (0,0)) (by (with_reducible repeat (first|refine blk_drewN ?_ _|refine blk_drew ?_|refine blk_alloc ?_ _));exact BK133.out) hg (Kd.R_away HO_4.out (fun _ hk => hk)));have n1_:=Aside0.mk (hb);have n2_:=Aside0.mk (ho);clear BK133;clear HB;clear HO_4;have BK133:=n0_;have HB:=n1_;have HO139:=n2_;clear n0_ n1_ n2_;clear ho hb hg hat))
        go_roundg k1
        case measure => have:=HK1.out;omega
        case rel => exact ⟨(y137),(t132),(by first|rfl|(simp;done)|(simp [*];done)),H',⟨by have:=HK1.out;omega⟩,⟨by (with_reducible repeat (first|apply Kd.R_alloc|apply Kd.R_drewN|apply Kd.R_drew));exact Kd.R_mono HO139.out (fun _ hk => trivial)⟩,⟨by repeat (first|(with_reducible first|exact HB.out|apply below_alloc|apply pw_below_drewN|apply below_drew1|refine below_set ?_ GE133.out)|exact HB.out)⟩⟩
    ·rw [if_neg c7] at H
     have c7b0 : decide (x5_1 < (a0.size : Int)) = false:=decide_eq_false c7
     clear c7
     simp only [Option.some.injEq,Prod.mk.injEq] at H
     obtain ⟨rfl,rfl⟩:=H
     go_wp2
     go_ret2
     exact ⟨_,by first|rfl|(simp [errW_none,errW_some] <;> rfl)|(simp [*,errW_none,errW_some] <;> rfl),by (with_reducible repeat (first|apply Kd.R_alloc|apply Kd.R_drewN|apply Kd.R_drew));exact HO_4.out,by repeat (first|(with_reducible first|exact HB.out|apply below_alloc|apply pw_below_drewN|apply below_drew1)|exact HB.out)⟩

-- NOT PRINTED: function 55 (impl_run)

/-! ### impl_within: function 47 -/
def impl_within.f (a0 : Int) (a1 : Int) (a2 : Int) : Option (Bool):=if a0 ≥ a1 then (some (decide (a0 ≤ a2))) else (some false)
set_option maxHeartbeats 8000000 in
set_option maxRecDepth 100000 in
theorem impl_within.calls (a0 : Int) (a1 : Int) (a2 : Int) (r : Bool) (w : World) (h : impl_within.f a0 a1 a2 = some r) :
  Calls Try.prog 47 #[.int .i64 a0,.int .i64 a1,.int .i64 a2] w fun e w' => e = .returned (.bool r) ∧ Drawn0 w w':=by
 have H : (if a0 ≥ a1 then (some (decide (a0 ≤ a2))) else (some false)) = some r:=h
 clear h
 by_cases c4 : a0 ≥ a1
 ·rw [if_pos c4] at H
  have c4b0 : decide (a1 ≤ a0) = true:=decide_eq_true c4
  clear c4
  obtain rfl:=Option.some.inj H
  go_enter Try.func47,Try.ntmps47
  go_wp2
  go_ret
  exact ⟨by first|rfl|(simp;done)|(simp [*];done),by repeat (first|exact Drawn0.refl _|apply Drawn0.step)⟩
 ·rw [if_neg c4] at H
  have c4b0 : decide (a1 ≤ a0) = false:=decide_eq_false c4
  clear c4
  obtain rfl:=Option.some.inj H
  go_enter Try.func47,Try.ntmps47
  go_wp2
  go_ret
  exact ⟨by first|rfl|(simp;done)|(simp [*];done),by repeat (first|exact Drawn0.refl _|apply Drawn0.step)⟩

/-! ### impl_endsHere: function 70 -/
def impl_endsHere.f (k : Nat) (a0 : ByteArray) (a1 : Int) : Option (Bool):=if 0 ≤ a1 then (if a1 < (a0.size : Int) then (if (bt a0 a1) = 46 then (if a1 > 0 then (if 0 ≤ (wrap64 (a1 - 1)) then (if (wrap64 (a1 - 1)) < (a0.size : Int) then ((impl_SymbolByte.f k (bt a0 (wrap64 (a1 - 1)))).bind fun t140 => (if t140 = true then (some false) else (if (wrap64 (a1 + 1)) = (a0.size : Int) then (some true) else (if 0 ≤ (wrap64 (a1 + 1)) then (if (wrap64 (a1 + 1)) < (a0.size : Int) then ((fk_strings_IndexByte.f k (⟨#[32,9,10,37]⟩ : ByteArray) (bt a0 (wrap64 (a1 + 1)))).bind fun t141 => (some (decide (t141 ≥ 0)))) else (none)) else (none))))) else (none)) else (none)) else (if (wrap64 (a1 + 1)) = (a0.size : Int) then (some true) else (if 0 ≤ (wrap64 (a1 + 1)) then (if (wrap64 (a1 + 1)) < (a0.size : Int) then ((fk_strings_IndexByte.f k (⟨#[32,9,10,37]⟩ : ByteArray) (bt a0 (wrap64 (a1 + 1)))).bind fun t142 => (some (decide (t142 ≥ 0)))) else (none)) else (none)))) else (some false)) else (none)) else (none)
theorem impl_endsHere.mono : ∀ a0 a1 k,LeO (impl_endsHere.f k a0 a1) (impl_endsHere.f (k + 1) a0 a1):=by
 intro a0 a1 k
 unfold impl_endsHere.f
 repeat' first
   | (with_reducible exact fk_strings_IndexByte.mono _ _ _)
   | (with_reducible exact impl_SymbolByte.mono _ _)
   | (with_reducible exact LeO.refl _)
   | (with_reducible exact LeO.none _)
   | (with_reducible refine LeO.ite ?_ ?_)
   | (with_reducible refine LeO.bind ?_ (fun _ => ?_))
   | exact fk_strings_IndexByte.mono _ _ _
   | exact impl_SymbolByte.mono _ _
   | exact LeO.none _
   | refine LeO.ite ?_ ?_
   | refine LeO.bind ?_ (fun _ => ?_)
set_option maxHeartbeats 8000000 in
set_option maxRecDepth 100000 in
theorem impl_endsHere.calls (k : Nat) (a0 : ByteArray) (a1 : Int) (r : Bool) (w : World) (h : impl_endsHere.f k a0 a1 = some r) :
  Calls Try.prog 70 #[.string a0,.int .i64 a1] w fun e w' => e = .returned (.bool r) ∧ Below w.heap.size w w':=by
 have HB:=Aside0.mk (Below.refl w.heap.size w)
 have H : (if 0 ≤ a1 then (if a1 < (a0.size : Int) then (if (bt a0 a1) = 46 then (if a1 > 0 then (if 0 ≤ (wrap64 (a1 - 1)) then (if (wrap64 (a1 - 1)) < (a0.size : Int) then ((impl_SymbolByte.f k (bt a0 (wrap64 (a1 - 1)))).bind fun t140 => (if t140 = true then (some false) else (if (wrap64 (a1 + 1)) = (a0.size : Int) then (some true) else (if 0 ≤ (wrap64 (a1 + 1)) then (if (wrap64 (a1 + 1)) < (a0.size : Int) then ((fk_strings_IndexByte.f k (⟨#[32,9,10,37]⟩ : ByteArray) (bt a0 (wrap64 (a1 + 1)))).bind fun t141 => (some (decide (t141 ≥ 0)))) else (none)) else (none))))) else (none)) else (none)) else (if (wrap64 (a1 + 1)) = (a0.size : Int) then (some true) else (if 0 ≤ (wrap64 (a1 + 1)) then (if (wrap64 (a1 + 1)) < (a0.size : Int) then ((fk_strings_IndexByte.f k (⟨#[32,9,10,37]⟩ : ByteArray) (bt a0 (wrap64 (a1 + 1)))).bind fun t142 => (some (decide (t142 ≥ 0)))) else (none)) else (none)))) else (some false)) else (none)) else (none)) = some r:=h
 clear h
 by_cases c3 : 0 ≤ a1
 rotate_left
 ·rw [if_neg c3] at H
  exact absurd H (by simp)
 rw [if_pos c3] at H
 have c3b0 : decide (0 ≤ a1) = true:=decide_eq_true c3
 clear c3
 by_cases c4 : a1 < (a0.size : Int)
 rotate_left
 ·rw [if_neg c4] at H
  exact absurd H (by simp)
 rw [if_pos c4] at H
 have c4b0 : decide (a1 < (a0.size : Int)) = true:=decide_eq_true c4
 clear c4
 by_cases c6 : (bt a0 a1) = 46
 ·rw [if_pos c6] at H
  have c6b0 : ((bt a0 a1) == 46) = true:=beq_iff_eq.mpr c6
  have c6b1 : ((bt a0 a1) != 46) = false:=bne_eq_false_iff_eq.mpr c6
  clear c6
  by_cases c7 : a1 > 0
  ·rw [if_pos c7] at H
   have c7b0 : decide (0 < a1) = true:=decide_eq_true c7
   clear c7
   obtain ⟨ji8,hji8⟩ : ∃ j_ : Int,(wrap64 (a1 - 1)) = j_:=⟨_,rfl⟩
   replace H : (if 0 ≤ (ji8) then (if (ji8) < (a0.size : Int) then ((impl_SymbolByte.f k (bt a0 (ji8))).bind fun t140 => (if t140 = true then (some false) else (if (wrap64 (a1 + 1)) = (a0.size : Int) then (some true) else (if 0 ≤ (wrap64 (a1 + 1)) then (if (wrap64 (a1 + 1)) < (a0.size : Int) then ((fk_strings_IndexByte.f k (⟨#[32,9,10,37]⟩ : ByteArray) (bt a0 (wrap64 (a1 + 1)))).bind fun t141 => (some (decide (t141 ≥ 0)))) else (none)) else (none))))) else (none)) else (none)) = some r:=by first|(rw [hji8] at H;exact H)|(simp only [hji8] at H ⊢;exact H)
   have hji8w : (IntKind.i64.wrap (a1 - 1)) = ji8:=(i64_w _).trans hji8
   by_cases c9 : 0 ≤ (ji8)
   rotate_left
   ·rw [if_neg c9] at H
    exact absurd H (by simp)
   rw [if_pos c9] at H
   have c9b0 : decide (0 ≤ (ji8)) = true:=decide_eq_true c9
   clear c9
   by_cases c10 : (ji8) < (a0.size : Int)
   rotate_left
   ·rw [if_neg c10] at H
    exact absurd H (by simp)
   rw [if_pos c10] at H
   have c10b0 : decide ((ji8) < (a0.size : Int)) = true:=decide_eq_true c10
   clear c10
   replace H:=Option.bind_eq_some_iff.mp H
   obtain ⟨t140,A120,H⟩:=H
   replace H : (if t140 = true then (some false) else (if (wrap64 (a1 + 1)) = (a0.size : Int) then (some true) else (if 0 ≤ (wrap64 (a1 + 1)) then (if (wrap64 (a1 + 1)) < (a0.size : Int) then ((fk_strings_IndexByte.f k (⟨#[32,9,10,37]⟩ : ByteArray) (bt a0 (wrap64 (a1 + 1)))).bind fun t141 => (some (decide (t141 ≥ 0)))) else (none)) else (none)))) = some r:=H
   have A12:=Aside0.mk A120
   clear A120
   by_cases c13 : t140 = true
   ·subst c13
    have H1 : (some false) = some r:=by rw [if_pos rfl] at H;exact H
    clear H
    have H:=H1
    clear H1
    obtain rfl:=Option.some.inj H
    have p5 : 0 ≤ (a1 : Int):=of_decide_eq_true (by first|(with_reducible assumption)|assumption)
    have q5 : a1 < (a0.size : Int):=of_decide_eq_true (by first|(with_reducible assumption)|assumption)
    have hx5:=bt_at a0 a1
    replace p5:=eq_true p5
    replace q5:=eq_true q5
    have p11 : 0 ≤ ((ji8) : Int):=of_decide_eq_true (by first|(with_reducible assumption)|assumption)
    have q11 : (ji8) < (a0.size : Int):=of_decide_eq_true (by first|(with_reducible assumption)|assumption)
    have hx11:=bt_at a0 (ji8)
    replace p11:=eq_true p11
    replace q11:=eq_true q11
    go_enter Try.func70,Try.ntmps70
    go_wp2_with (first|(go_at_call 14;(with_reducible refine (impl_SymbolByte.calls k (bt a0 (ji8)) true _ A12.out).mono ?_);rintro e w14 ⟨rfl,hb⟩;have n0_:=Aside0.mk (below_step (by repeat (first|(with_reducible first|exact HB.out|apply below_alloc|apply pw_below_drewN|apply below_drew1)|exact HB.out)) hb);clear HB;have HB:=n0_;clear n0_;(try clear hb)))
    go_ret
    exact ⟨by first|rfl|(simp [errW_none,errW_some] <;> rfl)|(simp only [← hji8];first|rfl|(simp [errW_none,errW_some] <;> rfl))|(simp [*,errW_none,errW_some] <;> rfl),by repeat (first|(with_reducible first|exact HB.out|apply below_alloc|apply pw_below_drewN|apply below_drew1)|exact HB.out)⟩
   ·replace c13:=Bool.eq_false_iff.mpr c13
    subst c13
    have H1 : (if (wrap64 (a1 + 1)) = (a0.size : Int) then (some true) else (if 0 ≤ (wrap64 (a1 + 1)) then (if (wrap64 (a1 + 1)) < (a0.size : Int) then ((fk_strings_IndexByte.f k (⟨#[32,9,10,37]⟩ : ByteArray) (bt a0 (wrap64 (a1 + 1)))).bind fun t141 => (some (decide (t141 ≥ 0)))) else (none)) else (none))) = some r:=by rw [if_neg (show ¬ (false = true) by decide)] at H;exact H
    clear H
    have H:=H1
    clear H1
    by_cases c15 : (wrap64 (a1 + 1)) = (a0.size : Int)
    ·rw [if_pos c15] at H
     have c15b0 : ((wrap64 (a1 + 1)) == (a0.size : Int)) = true:=beq_iff_eq.mpr c15
     have c15b1 : ((wrap64 (a1 + 1)) != (a0.size : Int)) = false:=bne_eq_false_iff_eq.mpr c15
     clear c15
     obtain rfl:=Option.some.inj H
     have p5 : 0 ≤ (a1 : Int):=of_decide_eq_true (by first|(with_reducible assumption)|assumption)
     have q5 : a1 < (a0.size : Int):=of_decide_eq_true (by first|(with_reducible assumption)|assumption)
     have hx5:=bt_at a0 a1
     replace p5:=eq_true p5
     replace q5:=eq_true q5
     have p11 : 0 ≤ ((ji8) : Int):=of_decide_eq_true (by first|(with_reducible assumption)|assumption)
     have q11 : (ji8) < (a0.size : Int):=of_decide_eq_true (by first|(with_reducible assumption)|assumption)
     have hx11:=bt_at a0 (ji8)
     replace p11:=eq_true p11
     replace q11:=eq_true q11
     go_enter Try.func70,Try.ntmps70
     go_wp2_with (first|(go_at_call 14;(with_reducible refine (impl_SymbolByte.calls k (bt a0 (ji8)) false _ A12.out).mono ?_);rintro e w16 ⟨rfl,hb⟩;have n0_:=Aside0.mk (below_step (by repeat (first|(with_reducible first|exact HB.out|apply below_alloc|apply pw_below_drewN|apply below_drew1)|exact HB.out)) hb);clear HB;have HB:=n0_;clear n0_;(try clear hb)))
     go_ret
     exact ⟨by first|rfl|(simp [errW_none,errW_some] <;> rfl)|(simp only [← hji8];first|rfl|(simp [errW_none,errW_some] <;> rfl))|(simp [*,errW_none,errW_some] <;> rfl),by repeat (first|(with_reducible first|exact HB.out|apply below_alloc|apply pw_below_drewN|apply below_drew1)|exact HB.out)⟩
    ·rw [if_neg c15] at H
     have c15b0 : ((wrap64 (a1 + 1)) == (a0.size : Int)) = false:=beq_eq_false_iff_ne.mpr c15
     have c15b1 : ((wrap64 (a1 + 1)) != (a0.size : Int)) = true:=bne_iff_ne.mpr c15
     obtain ⟨ji17,hji17⟩ : ∃ j_ : Int,(wrap64 (a1 + 1)) = j_:=⟨_,rfl⟩
     replace H : (if 0 ≤ (ji17) then (if (ji17) < (a0.size : Int) then ((fk_strings_IndexByte.f k (⟨#[32,9,10,37]⟩ : ByteArray) (bt a0 (ji17))).bind fun t141 => (some (decide (t141 ≥ 0)))) else (none)) else (none)) = some r:=by first|(rw [hji17] at H;exact H)|(simp only [hji17] at H ⊢;exact H)
     (try rw [hji17] at c15b0)
     (try rw [hji17] at c15b1)
     (try rw [hji17] at A12)
     have hji17w : (IntKind.i64.wrap (a1 + 1)) = ji17:=(i64_w _).trans hji17
     by_cases c18 : 0 ≤ (ji17)
     rotate_left
     ·rw [if_neg c18] at H
      exact absurd H (by simp)
     rw [if_pos c18] at H
     have c18b0 : decide (0 ≤ (ji17)) = true:=decide_eq_true c18
     clear c18
     by_cases c19 : (ji17) < (a0.size : Int)
     rotate_left
     ·rw [if_neg c19] at H
      exact absurd H (by simp)
     rw [if_pos c19] at H
     have c19b0 : decide ((ji17) < (a0.size : Int)) = true:=decide_eq_true c19
     clear c19
     replace H:=Option.bind_eq_some_iff.mp H
     obtain ⟨t141,A210,H⟩:=H
     replace H : (some (decide (t141 ≥ 0))) = some r:=H
     have A21:=Aside0.mk A210
     clear A210
     obtain rfl:=Option.some.inj H
     have p5 : 0 ≤ (a1 : Int):=of_decide_eq_true (by first|(with_reducible assumption)|assumption)
     have q5 : a1 < (a0.size : Int):=of_decide_eq_true (by first|(with_reducible assumption)|assumption)
     have hx5:=bt_at a0 a1
     replace p5:=eq_true p5
     replace q5:=eq_true q5
     have p11 : 0 ≤ ((ji8) : Int):=of_decide_eq_true (by first|(with_reducible assumption)|assumption)
     have q11 : (ji8) < (a0.size : Int):=of_decide_eq_true (by first|(with_reducible assumption)|assumption)
     have hx11:=bt_at a0 (ji8)
     replace p11:=eq_true p11
     replace q11:=eq_true q11
     go_enter Try.func70,Try.ntmps70
     go_wp2_with (first|(go_at_call 14;(with_reducible refine (impl_SymbolByte.calls k (bt a0 (ji8)) false _ A12.out).mono ?_);rintro e w22 ⟨rfl,hb⟩;have n0_:=Aside0.mk (below_step (by repeat (first|(with_reducible first|exact HB.out|apply below_alloc|apply pw_below_drewN|apply below_drew1)|exact HB.out)) hb);clear HB;have HB:=n0_;clear n0_;(try clear hb);(try clear hb2);(try clear hk);(try clear hi);have p20 : 0 ≤ ((ji17) : Int):=of_decide_eq_true (by first|(with_reducible assumption)|assumption);have q20 : (ji17) < (a0.size : Int):=of_decide_eq_true (by first|(with_reducible assumption)|assumption);have hx20:=bt_at a0 (ji17);replace p20:=eq_true p20;replace q20:=eq_true q20)|(go_at_call 40;(with_reducible refine (fk_strings_IndexByte.calls k (⟨#[32,9,10,37]⟩ : ByteArray) (bt a0 (ji17)) t141 _ A21.out).mono ?_);rintro e w23 ⟨rfl,hb⟩;have n0_:=Aside0.mk (below_step (by repeat (first|(with_reducible first|exact HB.out|apply below_alloc|apply pw_below_drewN|apply below_drew1)|exact HB.out)) hb);clear HB;have HB:=n0_;clear n0_;(try clear hb)))
     go_ret
     exact ⟨by first|rfl|(simp [errW_none,errW_some] <;> rfl)|(simp only [← hji8,← hji17];first|rfl|(simp [errW_none,errW_some] <;> rfl))|(simp [*,errW_none,errW_some] <;> rfl),by repeat (first|(with_reducible first|exact HB.out|apply below_alloc|apply pw_below_drewN|apply below_drew1)|exact HB.out)⟩
  ·rw [if_neg c7] at H
   have c7b0 : decide (0 < a1) = false:=decide_eq_false c7
   clear c7
   by_cases c24 : (wrap64 (a1 + 1)) = (a0.size : Int)
   ·rw [if_pos c24] at H
    have c24b0 : ((wrap64 (a1 + 1)) == (a0.size : Int)) = true:=beq_iff_eq.mpr c24
    have c24b1 : ((wrap64 (a1 + 1)) != (a0.size : Int)) = false:=bne_eq_false_iff_eq.mpr c24
    clear c24
    obtain rfl:=Option.some.inj H
    have p5 : 0 ≤ (a1 : Int):=of_decide_eq_true (by first|(with_reducible assumption)|assumption)
    have q5 : a1 < (a0.size : Int):=of_decide_eq_true (by first|(with_reducible assumption)|assumption)
    have hx5:=bt_at a0 a1
    replace p5:=eq_true p5
    replace q5:=eq_true q5
    go_enter Try.func70,Try.ntmps70
    go_wp2
    go_ret
    exact ⟨by first|rfl|(simp [errW_none,errW_some] <;> rfl)|(simp [*,errW_none,errW_some] <;> rfl),by repeat (first|(with_reducible first|exact HB.out|apply below_alloc|apply pw_below_drewN|apply below_drew1)|exact HB.out)⟩
   ·rw [if_neg c24] at H
    have c24b0 : ((wrap64 (a1 + 1)) == (a0.size : Int)) = false:=beq_eq_false_iff_ne.mpr c24
    have c24b1 : ((wrap64 (a1 + 1)) != (a0.size : Int)) = true:=bne_iff_ne.mpr c24
    obtain ⟨ji25,hji25⟩ : ∃ j_ : Int,(wrap64 (a1 + 1)) = j_:=⟨_,rfl⟩
    replace H : (if 0 ≤ (ji25) then (if (ji25) < (a0.size : Int) then ((fk_strings_IndexByte.f k (⟨#[32,9,10,37]⟩ : ByteArray) (bt a0 (ji25))).bind fun t142 => (some (decide (t142 ≥ 0)))) else (none)) else (none)) = some r:=by first|(rw [hji25] at H;exact H)|(simp only [hji25] at H ⊢;exact H)
    (try rw [hji25] at c24b0)
    (try rw [hji25] at c24b1)
    have hji25w : (IntKind.i64.wrap (a1 + 1)) = ji25:=(i64_w _).trans hji25
    by_cases c26 : 0 ≤ (ji25)
    rotate_left
    ·rw [if_neg c26] at H
     exact absurd H (by simp)
    rw [if_pos c26] at H
    have c26b0 : decide (0 ≤ (ji25)) = true:=decide_eq_true c26
    clear c26
    by_cases c27 : (ji25) < (a0.size : Int)
    rotate_left
    ·rw [if_neg c27] at H
     exact absurd H (by simp)
    rw [if_pos c27] at H
    have c27b0 : decide ((ji25) < (a0.size : Int)) = true:=decide_eq_true c27
    clear c27
    replace H:=Option.bind_eq_some_iff.mp H
    obtain ⟨t142,A290,H⟩:=H
    replace H : (some (decide (t142 ≥ 0))) = some r:=H
    have A29:=Aside0.mk A290
    clear A290
    obtain rfl:=Option.some.inj H
    have p5 : 0 ≤ (a1 : Int):=of_decide_eq_true (by first|(with_reducible assumption)|assumption)
    have q5 : a1 < (a0.size : Int):=of_decide_eq_true (by first|(with_reducible assumption)|assumption)
    have hx5:=bt_at a0 a1
    replace p5:=eq_true p5
    replace q5:=eq_true q5
    have p28 : 0 ≤ ((ji25) : Int):=of_decide_eq_true (by first|(with_reducible assumption)|assumption)
    have q28 : (ji25) < (a0.size : Int):=of_decide_eq_true (by first|(with_reducible assumption)|assumption)
    have hx28:=bt_at a0 (ji25)
    replace p28:=eq_true p28
    replace q28:=eq_true q28
    go_enter Try.func70,Try.ntmps70
    go_wp2_with (first|(go_at_call 40;(with_reducible refine (fk_strings_IndexByte.calls k (⟨#[32,9,10,37]⟩ : ByteArray) (bt a0 (ji25)) t142 _ A29.out).mono ?_);rintro e w30 ⟨rfl,hb⟩;have n0_:=Aside0.mk (below_step (by repeat (first|(with_reducible first|exact HB.out|apply below_alloc|apply pw_below_drewN|apply below_drew1)|exact HB.out)) hb);clear HB;have HB:=n0_;clear n0_;(try clear hb)))
    go_ret
    exact ⟨by first|rfl|(simp [errW_none,errW_some] <;> rfl)|(simp only [← hji25];first|rfl|(simp [errW_none,errW_some] <;> rfl))|(simp [*,errW_none,errW_some] <;> rfl),by repeat (first|(with_reducible first|exact HB.out|apply below_alloc|apply pw_below_drewN|apply below_drew1)|exact HB.out)⟩
 ·rw [if_neg c6] at H
  have c6b0 : ((bt a0 a1) == 46) = false:=beq_eq_false_iff_ne.mpr c6
  have c6b1 : ((bt a0 a1) != 46) = true:=bne_iff_ne.mpr c6
  obtain rfl:=Option.some.inj H
  have p5 : 0 ≤ (a1 : Int):=of_decide_eq_true (by first|(with_reducible assumption)|assumption)
  have q5 : a1 < (a0.size : Int):=of_decide_eq_true (by first|(with_reducible assumption)|assumption)
  have hx5:=bt_at a0 a1
  replace p5:=eq_true p5
  replace q5:=eq_true q5
  go_enter Try.func70,Try.ntmps70
  go_wp2
  go_ret
  exact ⟨by first|rfl|(simp [errW_none,errW_some] <;> rfl)|(simp [*,errW_none,errW_some] <;> rfl),by repeat (first|(with_reducible first|exact HB.out|apply below_alloc|apply pw_below_drewN|apply below_drew1)|exact HB.out)⟩

/-! ### impl_lower: function 71 -/
def impl_lower.f (a0 : Int) : Option (Bool):=if a0 ≥ 97 then (some (decide (a0 ≤ 122))) else (some false)
set_option maxHeartbeats 8000000 in
set_option maxRecDepth 100000 in
theorem impl_lower.calls (a0 : Int) (r : Bool) (w : World) (h : impl_lower.f a0 = some r) :
  Calls Try.prog 71 #[.int .u8 a0] w fun e w' => e = .returned (.bool r) ∧ Drawn0 w w':=by
 have H : (if a0 ≥ 97 then (some (decide (a0 ≤ 122))) else (some false)) = some r:=h
 clear h
 by_cases c2 : a0 ≥ 97
 ·rw [if_pos c2] at H
  have c2b0 : decide (97 ≤ a0) = true:=decide_eq_true c2
  clear c2
  obtain rfl:=Option.some.inj H
  go_enter Try.func71,Try.ntmps71
  go_wp2
  go_ret
  exact ⟨by first|rfl|(simp;done)|(simp [*];done),by repeat (first|exact Drawn0.refl _|apply Drawn0.step)⟩
 ·rw [if_neg c2] at H
  have c2b0 : decide (97 ≤ a0) = false:=decide_eq_false c2
  clear c2
  obtain rfl:=Option.some.inj H
  go_enter Try.func71,Try.ntmps71
  go_wp2
  go_ret
  exact ⟨by first|rfl|(simp;done)|(simp [*];done),by repeat (first|exact Drawn0.refl _|apply Drawn0.step)⟩

/-! ### impl_upper: function 72 -/
def impl_upper.f (a0 : Int) : Option (Bool):=if a0 ≥ 65 then (some (decide (a0 ≤ 90))) else (some false)
set_option maxHeartbeats 8000000 in
set_option maxRecDepth 100000 in
theorem impl_upper.calls (a0 : Int) (r : Bool) (w : World) (h : impl_upper.f a0 = some r) :
  Calls Try.prog 72 #[.int .u8 a0] w fun e w' => e = .returned (.bool r) ∧ Drawn0 w w':=by
 have H : (if a0 ≥ 65 then (some (decide (a0 ≤ 90))) else (some false)) = some r:=h
 clear h
 by_cases c2 : a0 ≥ 65
 ·rw [if_pos c2] at H
  have c2b0 : decide (65 ≤ a0) = true:=decide_eq_true c2
  clear c2
  obtain rfl:=Option.some.inj H
  go_enter Try.func72,Try.ntmps72
  go_wp2
  go_ret
  exact ⟨by first|rfl|(simp;done)|(simp [*];done),by repeat (first|exact Drawn0.refl _|apply Drawn0.step)⟩
 ·rw [if_neg c2] at H
  have c2b0 : decide (65 ≤ a0) = false:=decide_eq_false c2
  clear c2
  obtain rfl:=Option.some.inj H
  go_enter Try.func72,Try.ntmps72
  go_wp2
  go_ret
  exact ⟨by first|rfl|(simp;done)|(simp [*];done),by repeat (first|exact Drawn0.refl _|apply Drawn0.step)⟩

/-! ### impl_figure: function 74 -/
def impl_figure.f (a0 : Int) : Option (Bool):=if a0 ≥ 48 then (some (decide (a0 ≤ 57))) else (some false)
set_option maxHeartbeats 8000000 in
set_option maxRecDepth 100000 in
theorem impl_figure.calls (a0 : Int) (r : Bool) (w : World) (h : impl_figure.f a0 = some r) :
  Calls Try.prog 74 #[.int .u8 a0] w fun e w' => e = .returned (.bool r) ∧ Drawn0 w w':=by
 have H : (if a0 ≥ 48 then (some (decide (a0 ≤ 57))) else (some false)) = some r:=h
 clear h
 by_cases c2 : a0 ≥ 48
 ·rw [if_pos c2] at H
  have c2b0 : decide (48 ≤ a0) = true:=decide_eq_true c2
  clear c2
  obtain rfl:=Option.some.inj H
  go_enter Try.func74,Try.ntmps74
  go_wp2
  go_ret
  exact ⟨by first|rfl|(simp;done)|(simp [*];done),by repeat (first|exact Drawn0.refl _|apply Drawn0.step)⟩
 ·rw [if_neg c2] at H
  have c2b0 : decide (48 ≤ a0) = false:=decide_eq_false c2
  clear c2
  obtain rfl:=Option.some.inj H
  go_enter Try.func74,Try.ntmps74
  go_wp2
  go_ret
  exact ⟨by first|rfl|(simp;done)|(simp [*];done),by repeat (first|exact Drawn0.refl _|apply Drawn0.step)⟩

/-! ### impl_wordByte: function 73 -/
def impl_wordByte.f (a0 : Int) : Option (Bool):=(impl_lower.f a0).bind fun t143 => (if t143 = true then (some true) else ((impl_upper.f a0).bind fun t144 => (if t144 = true then (some true) else ((impl_figure.f a0).bind fun t145 => (if t145 = true then (some true) else (some (a0 == 95)))))))
set_option maxHeartbeats 8000000 in
set_option maxRecDepth 100000 in
theorem impl_wordByte.calls (a0 : Int) (r : Bool) (w : World) (h : impl_wordByte.f a0 = some r) :
  Calls Try.prog 73 #[.int .u8 a0] w fun e w' => e = .returned (.bool r) ∧ Drawn0 w w':=by
 have H : ((impl_lower.f a0).bind fun t143 => (if t143 = true then (some true) else ((impl_upper.f a0).bind fun t144 => (if t144 = true then (some true) else ((impl_figure.f a0).bind fun t145 => (if t145 = true then (some true) else (some (a0 == 95)))))))) = some r:=h
 clear h
 replace H:=Option.bind_eq_some_iff.mp H
 obtain ⟨t143,A20,H⟩:=H
 replace H : (if t143 = true then (some true) else ((impl_upper.f a0).bind fun t144 => (if t144 = true then (some true) else ((impl_figure.f a0).bind fun t145 => (if t145 = true then (some true) else (some (a0 == 95))))))) = some r:=H
 have A2:=Aside0.mk A20
 clear A20
 by_cases c3 : t143 = true
 ·subst c3
  have H1 : (some true) = some r:=by rw [if_pos rfl] at H;exact H
  clear H
  have H:=H1
  clear H1
  obtain rfl:=Option.some.inj H
  go_enter Try.func73,Try.ntmps73
  go_wp2_with (first|((with_reducible refine gate_callee (f:=71) rfl ?_);refine goesL_ (some 4) rfl rfl Try.func71 (by kernel_rfl) rfl #[.int .u8 a0] rfl (by (try simp only [List.map_toArray,List.map_cons,List.map_nil]);first|done|rfl|(simp only [List.length_drop,List.length_take];rfl)) ?_;(with_reducible refine (impl_lower.calls a0 true _ A2.out).mono ?_);rintro e w' ⟨rfl,⟨nd,rfl⟩⟩;refine ⟨_,rfl,?_⟩))
  go_ret
  exact ⟨by first|rfl|(simp;done)|(simp [*];done),by repeat (first|exact Drawn0.refl _|apply Drawn0.step)⟩
 ·replace c3:=Bool.eq_false_iff.mpr c3
  subst c3
  have H1 : ((impl_upper.f a0).bind fun t144 => (if t144 = true then (some true) else ((impl_figure.f a0).bind fun t145 => (if t145 = true then (some true) else (some (a0 == 95)))))) = some r:=by rw [if_neg (show ¬ (false = true) by decide)] at H;exact H
  clear H
  have H:=H1
  clear H1
  replace H:=Option.bind_eq_some_iff.mp H
  obtain ⟨t144,A40,H⟩:=H
  replace H : (if t144 = true then (some true) else ((impl_figure.f a0).bind fun t145 => (if t145 = true then (some true) else (some (a0 == 95))))) = some r:=H
  have A4:=Aside0.mk A40
  clear A40
  by_cases c5 : t144 = true
  ·subst c5
   have H1 : (some true) = some r:=by rw [if_pos rfl] at H;exact H
   clear H
   have H:=H1
   clear H1
   obtain rfl:=Option.some.inj H
   go_enter Try.func73,Try.ntmps73
   go_wp2_with (first|((with_reducible refine gate_callee (f:=71) rfl ?_);refine goesL_ (some 4) rfl rfl Try.func71 (by kernel_rfl) rfl #[.int .u8 a0] rfl (by (try simp only [List.map_toArray,List.map_cons,List.map_nil]);first|done|rfl|(simp only [List.length_drop,List.length_take];rfl)) ?_;(with_reducible refine (impl_lower.calls a0 false _ A2.out).mono ?_);rintro e w' ⟨rfl,⟨nd,rfl⟩⟩;refine ⟨_,rfl,?_⟩)|(go_at_call 72;(with_reducible refine (impl_upper.calls a0 true _ A4.out).mono ?_);rintro e w' ⟨rfl,⟨nd,rfl⟩⟩))
   go_ret
   exact ⟨by first|rfl|(simp;done)|(simp [*];done),by repeat (first|exact Drawn0.refl _|apply Drawn0.step)⟩
  ·replace c5:=Bool.eq_false_iff.mpr c5
   subst c5
   have H1 : ((impl_figure.f a0).bind fun t145 => (if t145 = true then (some true) else (some (a0 == 95)))) = some r:=by rw [if_neg (show ¬ (false = true) by decide)] at H;exact H
   clear H
   have H:=H1
   clear H1
   replace H:=Option.bind_eq_some_iff.mp H
   obtain ⟨t145,A60,H⟩:=H
   replace H : (if t145 = true then (some true) else (some (a0 == 95))) = some r:=H
   have A6:=Aside0.mk A60
   clear A60
   by_cases c7 : t145 = true
   ·subst c7
    have H1 : (some true) = some r:=by rw [if_pos rfl] at H;exact H
    clear H
    have H:=H1
    clear H1
    obtain rfl:=Option.some.inj H
    go_enter Try.func73,Try.ntmps73
    go_wp2_with (first|((with_reducible refine gate_callee (f:=71) rfl ?_);refine goesL_ (some 4) rfl rfl Try.func71 (by kernel_rfl) rfl #[.int .u8 a0] rfl (by (try simp only [List.map_toArray,List.map_cons,List.map_nil]);first|done|rfl|(simp only [List.length_drop,List.length_take];rfl)) ?_;(with_reducible refine (impl_lower.calls a0 false _ A2.out).mono ?_);rintro e w' ⟨rfl,⟨nd,rfl⟩⟩;refine ⟨_,rfl,?_⟩)|(go_at_call 72;(with_reducible refine (impl_upper.calls a0 false _ A4.out).mono ?_);rintro e w' ⟨rfl,⟨nd,rfl⟩⟩)|(go_at_call 74;(with_reducible refine (impl_figure.calls a0 true _ A6.out).mono ?_);rintro e w' ⟨rfl,⟨nd,rfl⟩⟩))
    go_ret
    exact ⟨by first|rfl|(simp;done)|(simp [*];done),by repeat (first|exact Drawn0.refl _|apply Drawn0.step)⟩
   ·replace c7:=Bool.eq_false_iff.mpr c7
    subst c7
    have H1 : (some (a0 == 95)) = some r:=by rw [if_neg (show ¬ (false = true) by decide)] at H;exact H
    clear H
    have H:=H1
    clear H1
    obtain rfl:=Option.some.inj H
    go_enter Try.func73,Try.ntmps73
    go_wp2_with (first|((with_reducible refine gate_callee (f:=71) rfl ?_);refine goesL_ (some 4) rfl rfl Try.func71 (by kernel_rfl) rfl #[.int .u8 a0] rfl (by (try simp only [List.map_toArray,List.map_cons,List.map_nil]);first|done|rfl|(simp only [List.length_drop,List.length_take];rfl)) ?_;(with_reducible refine (impl_lower.calls a0 false _ A2.out).mono ?_);rintro e w' ⟨rfl,⟨nd,rfl⟩⟩;refine ⟨_,rfl,?_⟩)|(go_at_call 72;(with_reducible refine (impl_upper.calls a0 false _ A4.out).mono ?_);rintro e w' ⟨rfl,⟨nd,rfl⟩⟩)|(go_at_call 74;(with_reducible refine (impl_figure.calls a0 false _ A6.out).mono ?_);rintro e w' ⟨rfl,⟨nd,rfl⟩⟩))
    go_ret
    exact ⟨by first|rfl|(simp;done)|(simp [*];done),by repeat (first|exact Drawn0.refl _|apply Drawn0.step)⟩

end Go.Proofs.Ytbkibnjpolnajaa.KSn
