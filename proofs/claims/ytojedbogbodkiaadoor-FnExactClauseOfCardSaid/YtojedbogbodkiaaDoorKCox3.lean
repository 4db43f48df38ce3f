/- Of this claim's own making; what nothing names is struck (fewall.py). -/
import Derived.Test.YtojedbogbodkiaaDoorKCox0
import Derived.Test.YtojedbogbodkiaaDoorKCox2
namespace Go.Proofs.YtojedbogbodkiaaDoor.KCo
open Go.RowKit Go.Proofs.YtojedbogbodkiaaDoorW.PrintWords Go.Proofs.YtojedbogbodkiaaDoorW.PrintLast Go.Proofs.YtojedbogbodkiaaDoorW.PrintMore
attribute [local go_sem] max2_int min2_int max_two min_two max_three min_three max_four min_four   -- for this text's walks alone
set_option linter.unusedVariables false
set_option linter.unusedSimpArgs false
set_option linter.unusedSectionVars false
variable [fk_laws_szTerm] [fk_laws_eqTerm] [fk_spec_l34Term] [fk_strconv_Itoa]
def spec_Decimal.l0 : Nat → Int → Bool → ByteArray → Option (ByteArray)
 | 0,_,_,_ => none
 | k + 1,x0,x3,x4 => if x0 = 0 then (if x3 = true then (if 1 + x4.size ≤ 9223372036854775807 then (some ((⟨#[45]⟩ : ByteArray) ++ x4)) else (none)) else (some x4)) else (if (Int.tmod x0 10) < 0 then ((spec_l01Figure.f (wrap64 (-(Int.tmod x0 10)))).bind fun t128 => ((some (([t128] : List Int) : List Int)).bind fun y129 => (if (strOfNums y129).size + x4.size ≤ 9223372036854775807 then (spec_Decimal.l0 k (wrap64 (Int.tdiv x0 10)) x3 ((strOfNums y129) ++ x4)) else (none)))) else ((spec_l01Figure.f (Int.tmod x0 10)).bind fun t132 => ((some (([t132] : List Int) : List Int)).bind fun y133 => (if (strOfNums y133).size + x4.size ≤ 9223372036854775807 then (spec_Decimal.l0 k (wrap64 (Int.tdiv x0 10)) x3 ((strOfNums y133) ++ x4)) else (none)))))
def spec_Decimal.f (k : Nat) (a0 : Int) : Option (ByteArray):=if a0 = 0 then (some (⟨#[48]⟩ : ByteArray)) else (spec_Decimal.l0 k a0 (decide (a0 < 0)) (⟨#[]⟩ : ByteArray))
theorem spec_Decimal.mono_l : ∀ k,(∀ y0 y1 y2,LeO (spec_Decimal.l0 k y0 y1 y2) (spec_Decimal.l0 (k + 1) y0 y1 y2))
 | 0 => fun _ _ _ r h => by simp [spec_Decimal.l0] at h
 | k + 1 => by
  have ih0:=spec_Decimal.mono_l k
  ·intro y0 y1 y2
   unfold spec_Decimal.l0
   repeat' first
   | (with_reducible exact ih0 _ _ _)
   | (with_reducible exact LeO.refl _)
   | (with_reducible exact LeO.none _)
   | (with_reducible refine LeO.ite ?_ ?_)
   | (with_reducible refine LeO.bind ?_ (fun _ => ?_))
   | exact ih0 _ _ _
   | exact LeO.none _
   | refine LeO.ite ?_ ?_
   | refine LeO.bind ?_ (fun _ => ?_)
theorem spec_Decimal.mono : ∀ a0 k,LeO (spec_Decimal.f k a0) (spec_Decimal.f (k + 1) a0):=by
 intro a0 k
 have ih0:=spec_Decimal.mono_l k
 unfold spec_Decimal.f
 repeat' first
   | (with_reducible exact ih0 _ _ _)
   | (with_reducible exact LeO.refl _)
   | (with_reducible exact LeO.none _)
   | (with_reducible refine LeO.ite ?_ ?_)
   | (with_reducible refine LeO.bind ?_ (fun _ => ?_))
   | exact ih0 _ _ _
   | exact LeO.none _
   | refine LeO.ite ?_ ?_
   | refine LeO.bind ?_ (fun _ => ?_)
set_option maxHeartbeats 8000000 in
set_option maxRecDepth 100000 in
theorem spec_Decimal.calls (k : Nat) (a0 : Int) (r : ByteArray) (w : World) (h : spec_Decimal.f k a0 = some r) :
  Calls Tryd.prog 43 #[.int .i64 a0] w fun e w' => e = .returned (.string r) ∧ Below w.heap.size w w':=by
 have HB:=Aside0.mk (Below.refl w.heap.size w)
 have H : (if a0 = 0 then (some (⟨#[48]⟩ : ByteArray)) else (spec_Decimal.l0 k a0 (decide (a0 < 0)) (⟨#[]⟩ : ByteArray))) = some r:=h
 clear h
 by_cases c2 : a0 = 0
 ·rw [if_pos c2] at H
  have c2b0 : (a0 == 0) = true:=beq_iff_eq.mpr c2
  have c2b1 : (a0 != 0) = false:=bne_eq_false_iff_eq.mpr c2
  clear c2
  obtain rfl:=Option.some.inj H
  go_enter Tryd.func43,Tryd.ntmps43
  go_wp2
  all_goals (try (exfalso;omega))
  go_ret
  exact ⟨by first|rfl|(simp [errW_none,errW_some] <;> rfl)|(simp [*,errW_none,errW_some] <;> rfl),by repeat (first|(with_reducible first|exact HB.out|apply below_alloc|apply pw_below_drewN|apply below_drew1)|exact HB.out)⟩
 ·rw [if_neg c2] at H
  have c2b0 : (a0 == 0) = false:=beq_eq_false_iff_ne.mpr c2
  have c2b1 : (a0 != 0) = true:=bne_iff_ne.mpr c2
  have H':=Aside0.mk H
  clear H
  go_enter Tryd.func43,Tryd.ntmps43
  go_wp2
  all_goals (try (exfalso;omega))
  go_loopg [0,4] k (fun kq v0 v4 w' => ∃ (x0_1 : Int) (x4_1 : ByteArray),v0 = .int .i64 x0_1 ∧ v4 = .string x4_1 ∧ Aside0 (spec_Decimal.l0 kq x0_1 (decide (a0 < 0)) x4_1 = some r) ∧ Aside0 (kq ≤ k) ∧ Aside0 (Below w.heap.size w w'))
  case atStart => exact ⟨(a0),((⟨#[]⟩ : ByteArray)),(by first|rfl|(simp;done)|(simp [*];done)),(by first|rfl|(simp;done)|(simp [*];done)),H',⟨Nat.le_refl _⟩,⟨by repeat (first|(with_reducible first|exact HB.out|apply below_alloc|apply pw_below_drewN|apply below_drew1)|exact HB.out)⟩⟩
  case round =>
   clear H'
   try clear c2
   try clear c2b0
   try clear c2b1
   obtain ⟨x0_1,x4_1,rfl,rfl,HA,HK1,HB⟩:=hrel
   cases gk with
   | zero => exact absurd HA.out (by simp [spec_Decimal.l0])
   | succ k1 =>
    have H:=HA.out
    clear HA
    simp only [spec_Decimal.l0] at H
    by_cases c3 : x0_1 = 0
    ·rw [if_pos c3] at H
     have c3b0 : (x0_1 == 0) = true:=beq_iff_eq.mpr c3
     have c3b1 : (x0_1 != 0) = false:=bne_eq_false_iff_eq.mpr c3
     clear c3
     by_cases c4 : (decide (a0 < 0)) = true
     ·rw [if_pos c4] at H
      have c4b0 : (decide (a0 < 0)) = true:=c4
      have c4b7 : a0 < 0:=of_decide_eq_true c4
      clear c4
      by_cases c5 : 1 + x4_1.size ≤ 9223372036854775807
      rotate_left
      ·rw [if_neg c5] at H
       exact absurd H (by simp)
      rw [if_pos c5] at H
      have c5b0:=eq_true c5
      have c5b1 : decide (1 + x4_1.size ≤ 9223372036854775807) = true:=decide_eq_true c5
      try have c5b2 : (9223372036854775807 < 1 + x4_1.size) = False:=eq_false (Nat.not_lt.2 c5)
      obtain rfl:=Option.some.inj H
      go_wp2
      all_goals (try (exfalso;omega))
      go_ret
      exact ⟨by first|rfl|(simp [errW_none,errW_some] <;> rfl)|(simp [*,errW_none,errW_some] <;> rfl),by repeat (first|(with_reducible first|exact HB.out|apply below_alloc|apply pw_below_drewN|apply below_drew1)|exact HB.out)⟩
     ·rw [if_neg c4] at H
      have c4b0 : (decide (a0 < 0)) = false:=by simpa using c4
      have c4b7 : ¬(a0 < 0):=fun h_ => c4 (decide_eq_true h_)
      clear c4
      obtain rfl:=Option.some.inj H
      go_wp2
      all_goals (try (exfalso;omega))
      go_ret
      exact ⟨by first|rfl|(simp [errW_none,errW_some] <;> rfl)|(simp [*,errW_none,errW_some] <;> rfl),by repeat (first|(with_reducible first|exact HB.out|apply below_alloc|apply pw_below_drewN|apply below_drew1)|exact HB.out)⟩
    ·rw [if_neg c3] at H
     have c3b0 : (x0_1 == 0) = false:=beq_eq_false_iff_ne.mpr c3
     have c3b1 : (x0_1 != 0) = true:=bne_iff_ne.mpr c3
     by_cases c6 : (Int.tmod x0_1 10) < 0
     ·rw [if_pos c6] at H
      have c6b0 : decide ((Int.tmod x0_1 10) < 0) = true:=decide_eq_true c6
      clear c6
      replace H:=Option.bind_eq_some_iff.mp H
      obtain ⟨t128,A70,H⟩:=H
      replace H : ((some (([t128] : List Int) : List Int)).bind fun y129 => (if (strOfNums y129).size + x4_1.size ≤ 9223372036854775807 then (spec_Decimal.l0 k1 (wrap64 (Int.tdiv x0_1 10)) (decide (a0 < 0)) ((strOfNums y129) ++ x4_1)) else (none))) = some r:=H
      have A7:=Aside0.mk A70
      clear A70
      obtain ⟨y129,hy129⟩ : ∃ y_ : List Int,y_ = (([t128] : List Int)):=⟨_,rfl⟩
      replace H : (if (strOfNums y129).size + x4_1.size ≤ 9223372036854775807 then (spec_Decimal.l0 k1 (wrap64 (Int.tdiv x0_1 10)) (decide (a0 < 0)) ((strOfNums y129) ++ x4_1)) else (none)) = some r:=by first|(rw [hy129];with_reducible exact H)|(have H2_:=(Option.bind_some _ _).symm.trans H;rw [hy129];with_reducible exact H2_)|(have H2_:=(Option.bind_some _ _).symm.trans H;with_reducible exact H2_)|with_reducible exact H|(rw [hy129];exact H)|exact H
      have Ny129:=Aside0.mk hy129
      clear hy129
      by_cases c8 : (strOfNums y129).size + x4_1.size ≤ 9223372036854775807
      rotate_left
      ·rw [if_neg c8] at H
       exact absurd H (by simp)
      rw [if_pos c8] at H
      have c8b0:=eq_true c8
      have c8b1 : decide ((strOfNums y129).size + x4_1.size ≤ 9223372036854775807) = true:=decide_eq_true c8
      try have c8b2 : (9223372036854775807 < (strOfNums y129).size + x4_1.size) = False:=eq_false (Nat.not_lt.2 c8)
      have H':=Aside0.mk H
      clear H
      go_wp2_with (first|((with_reducible refine gate_callee (f:=82) rfl ?_);refine goesL_ (some 19) rfl rfl Tryd.func82 (by kernel_rfl) rfl #[.int .i64 (wrap64 (-(Int.tmod x0_1 10)))] rfl (by (try simp only [List.map_toArray,List.map_cons,List.map_nil]);first|done|rfl|(simp only [List.length_drop,List.length_take];rfl)) ?_;(with_reducible refine (spec_l01Figure.calls (wrap64 (-(Int.tmod x0_1 10))) t128 _ A7.out).mono ?_);rintro e w' ⟨rfl,⟨nd,rfl⟩⟩;refine ⟨_,rfl,?_⟩)|((with_reducible refine gate_dst (N:=20) rfl ?_);refine Kd.R_lit (Kd.int .u8) _ 5 ?hg (N:=20) ?hd (xs:=([t128] : List Int)) (inner:=[.int .u8 t128]) (ok:=fun _ => True) (okp:=fun _ => True) ?hr ?hp (fun _ hk => hk) trivial (Below.refl _ _) (Nat.le_refl _) (by simp) ?_;(case hd => rfl);(case hg => rfl);(case hr => first|(go_simp;done)|(go_simp;rfl));(case hp => exact (Reps.one (show Kd.M (Kd.int .u8) _ _ _ t128 [.int .u8 t128] from rfl) (Reps.none _ _)));intro v130 w9 ho10 hb hg_ hnew_;clear hg_ hnew_;(first|rw [← Ny129.out] at ho10|(simp only [Int.reduceToNat] at ho10;rw [← Ny129.out] at ho10));have n0_:=Aside0.mk (Kd.R_lower ho10 (below_size (by repeat (first|(with_reducible first|exact HB.out|apply below_alloc|apply pw_below_drewN|apply below_drew1)|exact HB.out))));have n1_:=Aside0.mk (below_step (by repeat (first|(with_reducible first|exact HB.out|apply below_alloc|apply pw_below_drewN|apply below_drew1)|exact HB.out)) hb);clear HB;have HO131:=n0_;have HB:=n1_;clear n0_ n1_;clear hb ho10;have hcv11:=own_string (P:=Tryd.prog) Tryd.underlying97 Tryd.underlying5 Tryd.underlying9 (Kd.own_of_R HO131.out)))
      go_roundg k1
      case measure => have:=HK1.out;omega
      case rel => exact ⟨(wrap64 (Int.tdiv x0_1 10)),((strOfNums y129) ++ x4_1),(by first|rfl|(simp;done)|(simp [*];done)),(by first|rfl|(simp;done)|(simp [*];done)),H',⟨by have:=HK1.out;omega⟩,⟨by repeat (first|(with_reducible first|exact HB.out|apply below_alloc|apply pw_below_drewN|apply below_drew1)|exact HB.out)⟩⟩
     ·rw [if_neg c6] at H
      have c6b0 : decide ((Int.tmod x0_1 10) < 0) = false:=decide_eq_false c6
      clear c6
      replace H:=Option.bind_eq_some_iff.mp H
      obtain ⟨t132,A120,H⟩:=H
      replace H : ((some (([t132] : List Int) : List Int)).bind fun y133 => (if (strOfNums y133).size + x4_1.size ≤ 9223372036854775807 then (spec_Decimal.l0 k1 (wrap64 (Int.tdiv x0_1 10)) (decide (a0 < 0)) ((strOfNums y133) ++ x4_1)) else (none))) = some r:=H
      have A12:=Aside0.mk A120
      clear A120
      obtain ⟨y133,hy133⟩ : ∃ y_ : List Int,y_ = (([t132] : List Int)):=⟨_,rfl⟩
      replace H : (if (strOfNums y133).size + x4_1.size ≤ 9223372036854775807 then (spec_Decimal.l0 k1 (wrap64 (Int.tdiv x0_1 10)) (decide (a0 < 0)) ((strOfNums y133) ++ x4_1)) else (none)) = some r:=by first|(rw [hy133];with_reducible exact H)|(have H2_:=(Option.bind_some _ _).symm.trans H;rw [hy133];with_reducible exact H2_)|(have H2_:=(Option.bind_some _ _).symm.trans H;with_reducible exact H2_)|with_reducible exact H|(rw [hy133];exact H)|exact H
      have Ny133:=Aside0.mk hy133
      clear hy133
      by_cases c13 : (strOfNums y133).size + x4_1.size ≤ 9223372036854775807
      rotate_left
      ·rw [if_neg c13] at H
       exact absurd H (by simp)
      rw [if_pos c13] at H
      have c13b0:=eq_true c13
      have c13b1 : decide ((strOfNums y133).size + x4_1.size ≤ 9223372036854775807) = true:=decide_eq_true c13
      try have c13b2 : (9223372036854775807 < (strOfNums y133).size + x4_1.size) = False:=eq_false (Nat.not_lt.2 c13)
      have H':=Aside0.mk H
      clear H
      go_wp2_with (first|((with_reducible refine gate_callee (f:=82) rfl ?_);refine goesL_ (some 19) rfl rfl Tryd.func82 (by kernel_rfl) rfl #[.int .i64 (Int.tmod x0_1 10)] rfl (by (try simp only [List.map_toArray,List.map_cons,List.map_nil]);first|done|rfl|(simp only [List.length_drop,List.length_take];rfl)) ?_;(with_reducible refine (spec_l01Figure.calls (Int.tmod x0_1 10) t132 _ A12.out).mono ?_);rintro e w' ⟨rfl,⟨nd,rfl⟩⟩;refine ⟨_,rfl,?_⟩)|((with_reducible refine gate_dst (N:=20) rfl ?_);refine Kd.R_lit (Kd.int .u8) _ 5 ?hg (N:=20) ?hd (xs:=([t132] : List Int)) (inner:=[.int .u8 t132]) (ok:=fun _ => True) (okp:=fun _ => True) ?hr ?hp (fun _ hk => hk) trivial (Below.refl _ _) (Nat.le_refl _) (by simp) ?_;(case hd => rfl);(case hg => rfl);(case hr => first|(go_simp;done)|(go_simp;rfl));(case hp => exact (Reps.one (show Kd.M (Kd.int .u8) _ _ _ t132 [.int .u8 t132] from rfl) (Reps.none _ _)));intro v134 w14 ho15 hb hg_ hnew_;clear hg_ hnew_;(first|rw [← Ny133.out] at ho15|(simp only [Int.reduceToNat] at ho15;rw [← Ny133.out] at ho15));have n0_:=Aside0.mk (Kd.R_lower ho15 (below_size (by repeat (first|(with_reducible first|exact HB.out|apply below_alloc|apply pw_below_drewN|apply below_drew1)|exact HB.out))));have n1_:=Aside0.mk (below_step (by repeat (first|(with_reducible first|exact HB.out|apply below_alloc|apply pw_below_drewN|apply below_drew1)|exact HB.out)) hb);clear HB;have HO135:=n0_;have HB:=n1_;clear n0_ n1_;clear hb ho15;have hcv16:=own_string (P:=Tryd.prog) Tryd.underlying97 Tryd.underlying5 Tryd.underlying9 (Kd.own_of_R HO135.out)))
      go_roundg k1
      case measure => have:=HK1.out;omega
      case rel => exact ⟨(wrap64 (Int.tdiv x0_1 10)),((strOfNums y133) ++ x4_1),(by first|rfl|(simp;done)|(simp [*];done)),(by first|rfl|(simp;done)|(simp [*];done)),H',⟨by have:=HK1.out;omega⟩,⟨by repeat (first|(with_reducible first|exact HB.out|apply below_alloc|apply pw_below_drewN|apply below_drew1)|exact HB.out)⟩⟩
def spec_PredOf.f (k : Nat) (a0_0 : Int) (a0_1 : ByteArray) (a0_2 : Int) (l0_3 : List (S29)) : Option (ByteArray):=if a0_0 = 2 then (if a0_1.size + 1 ≤ 9223372036854775807 then ((spec_Decimal.f k (l0_3.length : Int)).bind fun t137 => (if (a0_1 ++ (⟨#[47]⟩ : ByteArray)).size + t137.size ≤ 9223372036854775807 then (some ((a0_1 ++ (⟨#[47]⟩ : ByteArray)) ++ t137)) else (none))) else (none)) else (if a0_0 = 4 then (if a0_1.size + 1 ≤ 9223372036854775807 then ((spec_Decimal.f k (l0_3.length : Int)).bind fun t138 => (if (a0_1 ++ (⟨#[47]⟩ : ByteArray)).size + t138.size ≤ 9223372036854775807 then (some ((a0_1 ++ (⟨#[47]⟩ : ByteArray)) ++ t138)) else (none))) else (none)) else (some (⟨#[]⟩ : ByteArray)))
theorem spec_PredOf.mono : ∀ a0 a1 a2 a3 k,LeO (spec_PredOf.f k a0 a1 a2 a3) (spec_PredOf.f (k + 1) a0 a1 a2 a3):=by
 intro a0 a1 a2 a3 k
 unfold spec_PredOf.f
 repeat' first
   | (with_reducible exact spec_Decimal.mono _ _)
   | (with_reducible exact LeO.refl _)
   | (with_reducible exact LeO.none _)
   | (with_reducible refine LeO.ite ?_ ?_)
   | (with_reducible refine LeO.bind ?_ (fun _ => ?_))
   | exact spec_Decimal.mono _ _
   | exact LeO.none _
   | refine LeO.ite ?_ ?_
   | refine LeO.bind ?_ (fun _ => ?_)
def spec_PredOf.T3 : Bool × List (List Nat × List Nat):=(true,[([],[]),([0],[0]),([1],[1]),([],[]),([3],[3]),([4],[4]),([5],[5]),([2,6],[2,6]),([7,6,0,1,2,3,4,5,6,7],[7])])
def spec_PredOf.B3 : List Nat:=[0,1,3,0,8,24,56,127,255]
theorem spec_PredOf.tab3 : rtab .any (opsOf Tryd.f11 3) = spec_PredOf.T3:=by kernel_rfl
theorem spec_PredOf.bits3 : waitsOk spec_PredOf.T3.2 spec_PredOf.B3 = true:=by kernel_rfl
set_option maxHeartbeats 8000000 in
set_option maxRecDepth 100000 in
theorem spec_PredOf.calls (k : Nat) (a0_0 : Int) (a0_1 : ByteArray) (a0_2 : Int) (A0_3 : Option Addr) (c0_3 : Nat) (l0_3 : List (S29)) (r : ByteArray) (w : World) (hr0_3 : Kd.C k29 w A0_3 l0_3.length l0_3) (hc0_3 : l0_3.length ≤ c0_3) (h : spec_PredOf.f k a0_0 a0_1 a0_2 l0_3 = some r) :
  Calls Tryd.prog 11 #[.agg #[.int .i64 a0_0,.string a0_1,.int .i64 a0_2,.slice A0_3 l0_3.length c0_3]] w fun e w' => e = .returned (.string r) ∧ Below w.heap.size w w':=by
 have hu29:=Tryd.underlying29
 have HR0_3:=Aside0.mk hr0_3
 have HC0_3:=Aside0.mk hc0_3
 clear hr0_3 hc0_3
 have HB:=Aside0.mk (Below.refl w.heap.size w)
 have H : (if a0_0 = 2 then (if a0_1.size + 1 ≤ 9223372036854775807 then ((spec_Decimal.f k (l0_3.length : Int)).bind fun t137 => (if (a0_1 ++ (⟨#[47]⟩ : ByteArray)).size + t137.size ≤ 9223372036854775807 then (some ((a0_1 ++ (⟨#[47]⟩ : ByteArray)) ++ t137)) else (none))) else (none)) else (if a0_0 = 4 then (if a0_1.size + 1 ≤ 9223372036854775807 then ((spec_Decimal.f k (l0_3.length : Int)).bind fun t138 => (if (a0_1 ++ (⟨#[47]⟩ : ByteArray)).size + t138.size ≤ 9223372036854775807 then (some ((a0_1 ++ (⟨#[47]⟩ : ByteArray)) ++ t138)) else (none))) else (none)) else (some (⟨#[]⟩ : ByteArray)))) = some r:=h
 clear h
 by_cases c2 : a0_0 = 2
 ·rw [if_pos c2] at H
  have c2b0 : (a0_0 == 2) = true:=beq_iff_eq.mpr c2
  have c2b1 : (a0_0 != 2) = false:=bne_eq_false_iff_eq.mpr c2
  clear c2
  by_cases c3 : a0_1.size + 1 ≤ 9223372036854775807
  rotate_left
  ·rw [if_neg c3] at H
   exact absurd H (by simp)
  rw [if_pos c3] at H
  have c3b0:=eq_true c3
  have c3b1 : decide (a0_1.size + 1 ≤ 9223372036854775807) = true:=decide_eq_true c3
  try have c3b2 : (9223372036854775807 < a0_1.size + 1) = False:=eq_false (Nat.not_lt.2 c3)
  replace H:=Option.bind_eq_some_iff.mp H
  obtain ⟨t137,A40,H⟩:=H
  replace H : (if (a0_1 ++ (⟨#[47]⟩ : ByteArray)).size + t137.size ≤ 9223372036854775807 then (some ((a0_1 ++ (⟨#[47]⟩ : ByteArray)) ++ t137)) else (none)) = some r:=H
  have A4:=Aside0.mk A40
  clear A40
  by_cases c5 : (a0_1 ++ (⟨#[47]⟩ : ByteArray)).size + t137.size ≤ 9223372036854775807
  rotate_left
  ·rw [if_neg c5] at H
   exact absurd H (by simp)
  rw [if_pos c5] at H
  have c5b0:=eq_true c5
  have c5b1 : decide ((a0_1 ++ (⟨#[47]⟩ : ByteArray)).size + t137.size ≤ 9223372036854775807) = true:=decide_eq_true c5
  try have c5b2 : (9223372036854775807 < (a0_1 ++ (⟨#[47]⟩ : ByteArray)).size + t137.size) = False:=eq_false (Nat.not_lt.2 c5)
  try have c5b3 : (9223372036854775807 < a0_1.size + 1 + t137.size) = False:=by rw [ByteArray.size_append] at c5b2;exact c5b2
  obtain rfl:=Option.some.inj H
  go_enter Tryd.func11,Tryd.ntmps11
  try go_wp2_with (first|((with_reducible refine gate_dst (N:=1) rfl ?_);refine box_event ?hg (N:=1) ?hd (cs:=#[.int .i64 a0_0,.string a0_1,.int .i64 a0_2,.slice A0_3 l0_3.length c0_3]) (t:=29) ?hr ?_;(case hd => rfl);(case hg => rfl);(case hr => first|(go_simp;done)|(go_simp;rfl));intro gb136 hg w6 hbox hb;have n0_:=Aside0.mk (below_step (by repeat (first|(with_reducible first|exact HB.out|apply below_alloc|apply pw_below_drewN|apply below_drew1)|exact HB.out)) hb);have n1_:=Aside0.mk (hbox);have n2_:=Aside0.mk ((by rw [hg];exact (below_size (by repeat (first|(with_reducible first|exact HB.out|apply below_alloc|apply pw_below_drewN|apply below_drew1)|exact HB.out))) : w.heap.size ≤ gb136));have n3_:=Aside0.mk ((by rw [hg];exact (below_size (by repeat (first|(with_reducible first|exact HB.out|apply below_alloc|apply pw_below_drewN|apply below_drew1)|exact HB.out))) : w.heap.size ≤ gb136));clear HB;have HB:=n0_;have BK136:=n1_;have GW136:=n2_;have GE136:=n3_;clear n0_ n1_ n2_ n3_;clear hb hbox hg;have hcz7_0 : w6.cell? ⟨gb136,0,none⟩ = some (.int .i64 a0_0):=(blk_cell BK136.out 0).trans rfl;have hcz7_1 : w6.cell? ⟨gb136,1,none⟩ = some (.string a0_1):=(blk_cell BK136.out 1).trans rfl;have hcz7_2 : w6.cell? ⟨gb136,2,none⟩ = some (.int .i64 a0_2):=(blk_cell BK136.out 2).trans rfl;have hcz7_3 : w6.cell? ⟨gb136,3,none⟩ = some (.slice A0_3 l0_3.length c0_3):=(blk_cell BK136.out 3).trans rfl;have hfz7_0:=blk_frozen BK136.out 0;have hfz7_1:=blk_frozen BK136.out 1;have hfz7_2:=blk_frozen BK136.out 2;have hfz7_3:=blk_frozen BK136.out 3))
  have n0_:=Aside0.mk (blk_drew BK136.out)
  have n1_:=Aside0.mk (below_drew1 HB.out)
  clear BK136
  clear HB
  have BK136:=n0_
  have HB:=n1_
  clear n0_ n1_
  refine start_ (n:=9) (S:=fun w' => w'.cell? ⟨gb136,0,none⟩ = some (.int .i64 a0_0) ∧ w'.cell? ⟨gb136,1,none⟩ = some (.string a0_1) ∧ w'.cell? ⟨gb136,2,none⟩ = some (.int .i64 a0_2) ∧ w'.cell? ⟨gb136,3,none⟩ = some (.slice A0_3 l0_3.length c0_3)) (ds:=[]) #[false,false,false,false,false,false,false,false,false] (by kernel_rfl) rfl rfl ⟨(blk_cell BK136.out 0).trans rfl,(blk_cell BK136.out 1).trans rfl,(blk_cell BK136.out 2).trans rfl,(blk_cell BK136.out 3).trans rfl⟩ (fun hHeld => ?_);refine with_tabW spec_PredOf.tab3 spec_PredOf.bits3 (fun HT_ HW_ => ?_)
  generalize w6.drew = w8 at BK136 HB hHeld ⊢
  refine pure_ (i:=0) (N:=some 11) (v:=?_) (a':=?_) #[true,false,false,false,false,false,false,false,false] rfl rfl (any_of HT_.out (by kernel_rfl)) (fun _ _ _ h => h) (Or.inl ⟨by rfl,?_⟩) ?_ ?_
  rotate_left
  ·intro w'
   go_simp
   with_reducible rfl
  rotate_left
  ·simp only [Act.put,List.setIfInBounds_toArray,List.set_cons_zero,List.set_cons_succ,i64_w,i32_w]
   rfl
  refine pure_ (i:=3) (N:=some 14) (v:=?_) (a':=?_) #[true,false,false,true,false,false,false,false,false] rfl rfl (any_of HT_.out (by kernel_rfl)) (fun _ _ _ h => h) (Or.inl ⟨by rfl,?_⟩) ?_ ?_
  rotate_left
  ·intro w'
   go_simp
   with_reducible rfl
  rotate_left
  ·simp only [Act.put,List.setIfInBounds_toArray,List.set_cons_zero,List.set_cons_succ,i64_w,i32_w]
   rfl
  refine take_ (i:=1) (N:=some 12) (v:=?_) (a':=?_) #[true,true,false,true,false,false,false,false,false] rfl rfl (take_ofW HT_.out HW_.out (by kernel_rfl)) (fun _ _ _ h => h) (Or.inl ⟨by rfl,?_⟩) hHeld ?_ ?_
  rotate_left
  ·rintro w' ⟨s0,s1,s2,s3⟩
   go_simp
   with_reducible rfl
  rotate_left
  ·simp only [Act.put,List.setIfInBounds_toArray,List.set_cons_zero,List.set_cons_succ,i64_w,i32_w]
   rfl
  refine pure_ (i:=2) (N:=some 13) (v:=?_) (a':=?_) #[true,true,true,true,false,false,false,false,false] rfl rfl (any_of HT_.out (by kernel_rfl)) (fun _ _ _ h => h) (Or.inl ⟨by rfl,?_⟩) ?_ ?_
  rotate_left
  ·intro w'
   go_simp
   with_reducible rfl
  rotate_left
  ·simp only [Act.put,List.setIfInBounds_toArray,List.set_cons_zero,List.set_cons_succ,i64_w,i32_w]
   rfl
  refine take_ (i:=4) (N:=some 15) (v:=?_) (a':=?_) #[true,true,true,true,true,false,false,false,false] rfl rfl (take_ofW HT_.out HW_.out (by kernel_rfl)) (fun _ _ _ h => h) (Or.inl ⟨by rfl,?_⟩) hHeld ?_ ?_
  rotate_left
  ·rintro w' ⟨s0,s1,s2,s3⟩
   go_simp
   with_reducible rfl
  rotate_left
  ·simp only [Act.put,List.setIfInBounds_toArray,List.set_cons_zero,List.set_cons_succ,i64_w,i32_w]
   rfl
  refine pure_ (i:=5) (N:=some 16) (v:=?_) (a':=?_) #[true,true,true,true,true,true,false,false,false] rfl rfl (any_of HT_.out (by kernel_rfl)) (fun _ _ _ h => h) (Or.inl ⟨by rfl,?_⟩) ?_ ?_
  rotate_left
  ·intro w'
   go_simp
   with_reducible rfl
  rotate_left
  ·simp only [Act.put,List.setIfInBounds_toArray,List.set_cons_zero,List.set_cons_succ,i64_w,i32_w]
   rfl
  refine one_ (i:=6) (N:=some 17) #[true,true,true,true,true,true,true,false,false] rfl rfl (one_of HT_.out (by kernel_rfl)) (by decide) (fun K hK => ?_)
  refine goes_ Tryd.func43 (by kernel_rfl) rfl #[.int .i64 (l0_3.length : Int)] (by rfl) rfl rfl (by (try simp only [List.map_toArray,List.map_cons,List.map_nil]);first|done|rfl|(simp only [List.length_drop,List.length_take];rfl)) ?_
  with_reducible refine (spec_Decimal.calls k (l0_3.length : Int) t137 _ A4.out).mono ?_
  rintro e w9 ⟨rfl,hb⟩
  refine ⟨_,rfl,?_⟩
  have n0_:=Aside0.mk (blk_below (g:=gb136) (o:=.cells #[.int .i64 a0_0,.string a0_1,.int .i64 a0_2,.slice A0_3 l0_3.length c0_3] 29 (0,0)) (by (with_reducible repeat (first|refine blk_drewN ?_ _|refine blk_drew ?_|refine blk_alloc ?_ _));exact BK136.out) hb)
  have n1_:=Aside0.mk (below_step (by repeat (first|(with_reducible first|exact HB.out|apply below_alloc|apply pw_below_drewN|apply below_drew1|refine below_set ?_ GE136.out)|exact HB.out)) hb)
  clear BK136
  clear HB
  have BK136:=n0_
  have HB:=n1_
  clear n0_ n1_
  (try clear hb)
  refine hK.out _ _ ⟨(blk_cell BK136.out 0).trans rfl,(blk_cell BK136.out 1).trans rfl,(blk_cell BK136.out 2).trans rfl,(blk_cell BK136.out 3).trans rfl⟩ (fun hHeld => ?_)
  clear hK K
  refine norm_ (a':=?_) ?_ ?_
  rotate_left
  ·show Act.put _ (some 17) _ = _
   simp only [Act.put,List.setIfInBounds_toArray,List.set_cons_zero,List.set_cons_succ,i64_w,i32_w]
   rfl
  refine pure_ (i:=7) (N:=some 18) (v:=?_) (a':=?_) #[true,true,true,true,true,true,true,true,false] rfl rfl (any_of HT_.out (by kernel_rfl)) (fun _ _ _ h => h) (Or.inl ⟨by rfl,?_⟩) ?_ ?_
  rotate_left
  ·intro w'
   go_simp
   with_reducible rfl
  rotate_left
  ·simp only [Act.put,List.setIfInBounds_toArray,List.set_cons_zero,List.set_cons_succ,i64_w,i32_w]
   rfl
  refine pure_ (i:=8) (N:=some 2) (v:=?_) (a':=?_) #[true,true,true,true,true,true,true,true,true] rfl rfl (any_of HT_.out (by kernel_rfl)) (fun _ _ _ h => h) (Or.inl ⟨by rfl,?_⟩) ?_ ?_
  rotate_left
  ·intro w'
   go_simp
   with_reducible rfl
  rotate_left
  ·simp only [Act.put,List.setIfInBounds_toArray,List.set_cons_zero,List.set_cons_succ,i64_w,i32_w]
   rfl
  refine done_ (done_of HT_.out (by kernel_rfl)) ?_
  try go_wp2
  go_ret
  exact ⟨by first|rfl|(simp [errW_none,errW_some] <;> rfl)|(simp [*,errW_none,errW_some] <;> rfl),by repeat (first|(with_reducible first|exact HB.out|apply below_alloc|apply pw_below_drewN|apply below_drew1|refine below_set ?_ GE136.out)|exact HB.out)⟩
 ·rw [if_neg c2] at H
  have c2b0 : (a0_0 == 2) = false:=beq_eq_false_iff_ne.mpr c2
  have c2b1 : (a0_0 != 2) = true:=bne_iff_ne.mpr c2
  by_cases c10 : a0_0 = 4
  ·rw [if_pos c10] at H
   have c10b0 : (a0_0 == 4) = true:=beq_iff_eq.mpr c10
   have c10b1 : (a0_0 != 4) = false:=bne_eq_false_iff_eq.mpr c10
   clear c10
   by_cases c11 : a0_1.size + 1 ≤ 9223372036854775807
   rotate_left
   ·rw [if_neg c11] at H
    exact absurd H (by simp)
   rw [if_pos c11] at H
   have c11b0:=eq_true c11
   have c11b1 : decide (a0_1.size + 1 ≤ 9223372036854775807) = true:=decide_eq_true c11
   try have c11b2 : (9223372036854775807 < a0_1.size + 1) = False:=eq_false (Nat.not_lt.2 c11)
   replace H:=Option.bind_eq_some_iff.mp H
   obtain ⟨t138,A120,H⟩:=H
   replace H : (if (a0_1 ++ (⟨#[47]⟩ : ByteArray)).size + t138.size ≤ 9223372036854775807 then (some ((a0_1 ++ (⟨#[47]⟩ : ByteArray)) ++ t138)) else (none)) = some r:=H
   have A12:=Aside0.mk A120
   clear A120
   by_cases c13 : (a0_1 ++ (⟨#[47]⟩ : ByteArray)).size + t138.size ≤ 9223372036854775807
   rotate_left
   ·rw [if_neg c13] at H
    exact absurd H (by simp)
   rw [if_pos c13] at H
   have c13b0:=eq_true c13
   have c13b1 : decide ((a0_1 ++ (⟨#[47]⟩ : ByteArray)).size + t138.size ≤ 9223372036854775807) = true:=decide_eq_true c13
   try have c13b2 : (9223372036854775807 < (a0_1 ++ (⟨#[47]⟩ : ByteArray)).size + t138.size) = False:=eq_false (Nat.not_lt.2 c13)
   try have c13b3 : (9223372036854775807 < a0_1.size + 1 + t138.size) = False:=by rw [ByteArray.size_append] at c13b2;exact c13b2
   obtain rfl:=Option.some.inj H
   go_enter Tryd.func11,Tryd.ntmps11
   try go_wp2_with (first|((with_reducible refine gate_dst (N:=1) rfl ?_);refine box_event ?hg (N:=1) ?hd (cs:=#[.int .i64 a0_0,.string a0_1,.int .i64 a0_2,.slice A0_3 l0_3.length c0_3]) (t:=29) ?hr ?_;(case hd => rfl);(case hg => rfl);(case hr => first|(go_simp;done)|(go_simp;rfl));intro gb136 hg w14 hbox hb;have n0_:=Aside0.mk (below_step (by repeat (first|(with_reducible first|exact HB.out|apply below_alloc|apply pw_below_drewN|apply below_drew1)|exact HB.out)) hb);have n1_:=Aside0.mk (hbox);have n2_:=Aside0.mk ((by rw [hg];exact (below_size (by repeat (first|(with_reducible first|exact HB.out|apply below_alloc|apply pw_below_drewN|apply below_drew1)|exact HB.out))) : w.heap.size ≤ gb136));have n3_:=Aside0.mk ((by rw [hg];exact (below_size (by repeat (first|(with_reducible first|exact HB.out|apply below_alloc|apply pw_below_drewN|apply below_drew1)|exact HB.out))) : w.heap.size ≤ gb136));clear HB;have HB:=n0_;have BK136:=n1_;have GW136:=n2_;have GE136:=n3_;clear n0_ n1_ n2_ n3_;clear hb hbox hg;have hcz15_0 : w14.cell? ⟨gb136,0,none⟩ = some (.int .i64 a0_0):=(blk_cell BK136.out 0).trans rfl;have hcz15_1 : w14.cell? ⟨gb136,1,none⟩ = some (.string a0_1):=(blk_cell BK136.out 1).trans rfl;have hcz15_2 : w14.cell? ⟨gb136,2,none⟩ = some (.int .i64 a0_2):=(blk_cell BK136.out 2).trans rfl;have hcz15_3 : w14.cell? ⟨gb136,3,none⟩ = some (.slice A0_3 l0_3.length c0_3):=(blk_cell BK136.out 3).trans rfl;have hfz15_0:=blk_frozen BK136.out 0;have hfz15_1:=blk_frozen BK136.out 1;have hfz15_2:=blk_frozen BK136.out 2;have hfz15_3:=blk_frozen BK136.out 3))
   have n0_:=Aside0.mk (blk_drew BK136.out)
   have n1_:=Aside0.mk (below_drew1 HB.out)
   clear BK136
   clear HB
   have BK136:=n0_
   have HB:=n1_
   clear n0_ n1_
   refine start_ (n:=9) (S:=fun w' => w'.cell? ⟨gb136,0,none⟩ = some (.int .i64 a0_0) ∧ w'.cell? ⟨gb136,1,none⟩ = some (.string a0_1) ∧ w'.cell? ⟨gb136,2,none⟩ = some (.int .i64 a0_2) ∧ w'.cell? ⟨gb136,3,none⟩ = some (.slice A0_3 l0_3.length c0_3)) (ds:=[]) #[false,false,false,false,false,false,false,false,false] (by kernel_rfl) rfl rfl ⟨(blk_cell BK136.out 0).trans rfl,(blk_cell BK136.out 1).trans rfl,(blk_cell BK136.out 2).trans rfl,(blk_cell BK136.out 3).trans rfl⟩ (fun hHeld => ?_);refine with_tabW spec_PredOf.tab3 spec_PredOf.bits3 (fun HT_ HW_ => ?_)
   generalize w14.drew = w16 at BK136 HB hHeld ⊢
   refine pure_ (i:=0) (N:=some 11) (v:=?_) (a':=?_) #[true,false,false,false,false,false,false,false,false] rfl rfl (any_of HT_.out (by kernel_rfl)) (fun _ _ _ h => h) (Or.inl ⟨by rfl,?_⟩) ?_ ?_
   rotate_left
   ·intro w'
    go_simp
    with_reducible rfl
   rotate_left
   ·simp only [Act.put,List.setIfInBounds_toArray,List.set_cons_zero,List.set_cons_succ,i64_w,i32_w]
    rfl
   refine pure_ (i:=3) (N:=some 14) (v:=?_) (a':=?_) #[true,false,false,true,false,false,false,false,false] rfl rfl (any_of HT_.out (by kernel_rfl)) (fun _ _ _ h => h) (Or.inl ⟨by rfl,?_⟩) ?_ ?_
   rotate_left
   ·intro w'
    go_simp
    with_reducible rfl
   rotate_left
   ·simp only [Act.put,List.setIfInBounds_toArray,List.set_cons_zero,List.set_cons_succ,i64_w,i32_w]
    rfl
   refine take_ (i:=1) (N:=some 12) (v:=?_) (a':=?_) #[true,true,false,true,false,false,false,false,false] rfl rfl (take_ofW HT_.out HW_.out (by kernel_rfl)) (fun _ _ _ h => h) (Or.inl ⟨by rfl,?_⟩) hHeld ?_ ?_
   rotate_left
   ·rintro w' ⟨s0,s1,s2,s3⟩
    go_simp
    with_reducible rfl
   rotate_left
   ·simp only [Act.put,List.setIfInBounds_toArray,List.set_cons_zero,List.set_cons_succ,i64_w,i32_w]
    rfl
   refine pure_ (i:=2) (N:=some 13) (v:=?_) (a':=?_) #[true,true,true,true,false,false,false,false,false] rfl rfl (any_of HT_.out (by kernel_rfl)) (fun _ _ _ h => h) (Or.inl ⟨by rfl,?_⟩) ?_ ?_
   rotate_left
   ·intro w'
    go_simp
    with_reducible rfl
   rotate_left
   ·simp only [Act.put,List.setIfInBounds_toArray,List.set_cons_zero,List.set_cons_succ,i64_w,i32_w]
    rfl
   refine take_ (i:=4) (N:=some 15) (v:=?_) (a':=?_) #[true,true,true,true,true,false,false,false,false] rfl rfl (take_ofW HT_.out HW_.out (by kernel_rfl)) (fun _ _ _ h => h) (Or.inl ⟨by rfl,?_⟩) hHeld ?_ ?_
   rotate_left
   ·rintro w' ⟨s0,s1,s2,s3⟩
    go_simp
    with_reducible rfl
   rotate_left
   ·simp only [Act.put,List.setIfInBounds_toArray,List.set_cons_zero,List.set_cons_succ,i64_w,i32_w]
    rfl
   refine pure_ (i:=5) (N:=some 16) (v:=?_) (a':=?_) #[true,true,true,true,true,true,false,false,false] rfl rfl (any_of HT_.out (by kernel_rfl)) (fun _ _ _ h => h) (Or.inl ⟨by rfl,?_⟩) ?_ ?_
   rotate_left
   ·intro w'
    go_simp
    with_reducible rfl
   rotate_left
   ·simp only [Act.put,List.setIfInBounds_toArray,List.set_cons_zero,List.set_cons_succ,i64_w,i32_w]
    rfl
   refine one_ (i:=6) (N:=some 17) #[true,true,true,true,true,true,true,false,false] rfl rfl (one_of HT_.out (by kernel_rfl)) (by decide) (fun K hK => ?_)
   refine goes_ Tryd.func43 (by kernel_rfl) rfl #[.int .i64 (l0_3.length : Int)] (by rfl) rfl rfl (by (try simp only [List.map_toArray,List.map_cons,List.map_nil]);first|done|rfl|(simp only [List.length_drop,List.length_take];rfl)) ?_
   with_reducible refine (spec_Decimal.calls k (l0_3.length : Int) t138 _ A12.out).mono ?_
   rintro e w17 ⟨rfl,hb⟩
   refine ⟨_,rfl,?_⟩
   have n0_:=Aside0.mk (blk_below (g:=gb136) (o:=.cells #[.int .i64 a0_0,.string a0_1,.int .i64 a0_2,.slice A0_3 l0_3.length c0_3] 29 (0,0)) (by (with_reducible repeat (first|refine blk_drewN ?_ _|refine blk_drew ?_|refine blk_alloc ?_ _));exact BK136.out) hb)
   have n1_:=Aside0.mk (below_step (by repeat (first|(with_reducible first|exact HB.out|apply below_alloc|apply pw_below_drewN|apply below_drew1|refine below_set ?_ GE136.out)|exact HB.out)) hb)
   clear BK136
   clear HB
   have BK136:=n0_
   have HB:=n1_
   clear n0_ n1_
   (try clear hb)
   refine hK.out _ _ ⟨(blk_cell BK136.out 0).trans rfl,(blk_cell BK136.out 1).trans rfl,(blk_cell BK136.out 2).trans rfl,(blk_cell BK136.out 3).trans rfl⟩ (fun hHeld => ?_)
   clear hK K
   refine norm_ (a':=?_) ?_ ?_
   rotate_left
   ·show Act.put _ (some 17) _ = _
    simp only [Act.put,List.setIfInBounds_toArray,List.set_cons_zero,List.set_cons_succ,i64_w,i32_w]
    rfl
   refine pure_ (i:=7) (N:=some 18) (v:=?_) (a':=?_) #[true,true,true,true,true,true,true,true,false] rfl rfl (any_of HT_.out (by kernel_rfl)) (fun _ _ _ h => h) (Or.inl ⟨by rfl,?_⟩) ?_ ?_
   rotate_left
   ·intro w'
    go_simp
    with_reducible rfl
   rotate_left
   ·simp only [Act.put,List.setIfInBounds_toArray,List.set_cons_zero,List.set_cons_succ,i64_w,i32_w]
    rfl
   refine pure_ (i:=8) (N:=some 2) (v:=?_) (a':=?_) #[true,true,true,true,true,true,true,true,true] rfl rfl (any_of HT_.out (by kernel_rfl)) (fun _ _ _ h => h) (Or.inl ⟨by rfl,?_⟩) ?_ ?_
   rotate_left
   ·intro w'
    go_simp
    with_reducible rfl
   rotate_left
   ·simp only [Act.put,List.setIfInBounds_toArray,List.set_cons_zero,List.set_cons_succ,i64_w,i32_w]
    rfl
   refine done_ (done_of HT_.out (by kernel_rfl)) ?_
   try go_wp2
   go_ret
   exact ⟨by first|rfl|(simp [errW_none,errW_some] <;> rfl)|(simp [*,errW_none,errW_some] <;> rfl),by repeat (first|(with_reducible first|exact HB.out|apply below_alloc|apply pw_below_drewN|apply below_drew1|refine below_set ?_ GE136.out)|exact HB.out)⟩
  ·rw [if_neg c10] at H
   have c10b0 : (a0_0 == 4) = false:=beq_eq_false_iff_ne.mpr c10
   have c10b1 : (a0_0 != 4) = true:=bne_iff_ne.mpr c10
   obtain rfl:=Option.some.inj H
   go_enter Tryd.func11,Tryd.ntmps11
   go_wp2_with (first|((with_reducible refine gate_dst (N:=1) rfl ?_);refine box_event ?hg (N:=1) ?hd (cs:=#[.int .i64 a0_0,.string a0_1,.int .i64 a0_2,.slice A0_3 l0_3.length c0_3]) (t:=29) ?hr ?_;(case hd => rfl);(case hg => rfl);(case hr => first|(go_simp;done)|(go_simp;rfl));intro gb136 hg w18 hbox hb;have n0_:=Aside0.mk (below_step (by repeat (first|(with_reducible first|exact HB.out|apply below_alloc|apply pw_below_drewN|apply below_drew1)|exact HB.out)) hb);have n1_:=Aside0.mk (hbox);have n2_:=Aside0.mk ((by rw [hg];exact (below_size (by repeat (first|(with_reducible first|exact HB.out|apply below_alloc|apply pw_below_drewN|apply below_drew1)|exact HB.out))) : w.heap.size ≤ gb136));have n3_:=Aside0.mk ((by rw [hg];exact (below_size (by repeat (first|(with_reducible first|exact HB.out|apply below_alloc|apply pw_below_drewN|apply below_drew1)|exact HB.out))) : w.heap.size ≤ gb136));clear HB;have HB:=n0_;have BK136:=n1_;have GW136:=n2_;have GE136:=n3_;clear n0_ n1_ n2_ n3_;clear hb hbox hg;have hcz19_0 : w18.cell? ⟨gb136,0,none⟩ = some (.int .i64 a0_0):=(blk_cell BK136.out 0).trans rfl;have hcz19_1 : w18.cell? ⟨gb136,1,none⟩ = some (.string a0_1):=(blk_cell BK136.out 1).trans rfl;have hcz19_2 : w18.cell? ⟨gb136,2,none⟩ = some (.int .i64 a0_2):=(blk_cell BK136.out 2).trans rfl;have hcz19_3 : w18.cell? ⟨gb136,3,none⟩ = some (.slice A0_3 l0_3.length c0_3):=(blk_cell BK136.out 3).trans rfl;have hfz19_0:=blk_frozen BK136.out 0;have hfz19_1:=blk_frozen BK136.out 1;have hfz19_2:=blk_frozen BK136.out 2;have hfz19_3:=blk_frozen BK136.out 3))
   go_ret
   exact ⟨by first|rfl|(simp [errW_none,errW_some] <;> rfl)|(simp [*,errW_none,errW_some] <;> rfl),by repeat (first|(with_reducible first|exact HB.out|apply below_alloc|apply pw_below_drewN|apply below_drew1|refine below_set ?_ GE136.out)|exact HB.out)⟩
def spec_Control.j0 : Nat → ByteArray → Bool → Option (Bool)
 | 0,_,_ => none
 | k + 1,x3,x4 => if x4 = true then (some true) else (if x3.toList = ([61,47,50] : List UInt8) then (some true) else (if x3.toList = ([92,61,47,50] : List UInt8) then (some true) else (if x3.toList = ([61,61,47,50] : List UInt8) then (some true) else (if x3.toList = ([105,115,47,50] : List UInt8) then (some true) else (if x3.toList = ([60,47,50] : List UInt8) then (some true) else (if x3.toList = ([61,58,61,47,50] : List UInt8) then (some true) else (if x3.toList = ([118,97,114,47,49] : List UInt8) then (some true) else (if x3.toList = ([97,116,111,109,47,49] : List UInt8) then (some true) else (if x3.toList = ([119,114,105,116,101,47,49] : List UInt8) then (some true) else (if x3.toList = ([97,115,115,101,114,116,122,47,49] : List UInt8) then (some true) else (if x3.toList = ([114,101,116,114,97,99,116,47,49] : List UInt8) then (some true) else (if x3.toList = ([58,45,47,50] : List UInt8) then (some true) else (if x3.toList = ([58,45,47,49] : List UInt8) then (some true) else (if x3.toList = ([45,45,62,47,50] : List UInt8) then (some true) else (some false)))))))))))))))
def spec_Control.f (k : Nat) (a0 : ByteArray) : Option (Bool):=if a0.toList = ([116,114,117,101,47,48] : List UInt8) then (spec_Control.j0 k a0 (a0.toList == ([116,114,117,101,47,48] : List UInt8))) else (if a0.toList = ([102,97,105,108,47,48] : List UInt8) then (spec_Control.j0 k a0 (a0.toList == ([102,97,105,108,47,48] : List UInt8))) else (if a0.toList = ([33,47,48] : List UInt8) then (spec_Control.j0 k a0 (a0.toList == ([33,47,48] : List UInt8))) else (if a0.toList = ([44,47,50] : List UInt8) then (spec_Control.j0 k a0 (a0.toList == ([44,47,50] : List UInt8))) else (if a0.toList = ([59,47,50] : List UInt8) then (spec_Control.j0 k a0 (a0.toList == ([59,47,50] : List UInt8))) else (if a0.toList = ([45,62,47,50] : List UInt8) then (spec_Control.j0 k a0 (a0.toList == ([45,62,47,50] : List UInt8))) else (if a0.toList = ([92,43,47,49] : List UInt8) then (spec_Control.j0 k a0 (a0.toList == ([92,43,47,49] : List UInt8))) else (if a0.toList = ([99,97,108,108,47,49] : List UInt8) then (spec_Control.j0 k a0 (a0.toList == ([99,97,108,108,47,49] : List UInt8))) else (if a0.toList = ([99,97,108,108,47,50] : List UInt8) then (spec_Control.j0 k a0 (a0.toList == ([99,97,108,108,47,50] : List UInt8))) else (if a0.toList = ([99,97,108,108,47,51] : List UInt8) then (spec_Control.j0 k a0 (a0.toList == ([99,97,108,108,47,51] : List UInt8))) else (if a0.toList = ([99,97,116,99,104,47,51] : List UInt8) then (spec_Control.j0 k a0 (a0.toList == ([99,97,116,99,104,47,51] : List UInt8))) else (spec_Control.j0 k a0 (a0.toList == ([116,104,114,111,119,47,49] : List UInt8)))))))))))))
theorem spec_Control.mono_l : ∀ k,(∀ y0 y1,LeO (spec_Control.j0 k y0 y1) (spec_Control.j0 (k + 1) y0 y1))
 | 0 => fun _ _ r h => by simp [spec_Control.j0] at h
 | k + 1 => by
  have ih0:=spec_Control.mono_l k
  ·intro y0 y1
   unfold spec_Control.j0
   repeat' first
   | (with_reducible exact ih0 _ _)
   | (with_reducible exact LeO.refl _)
   | (with_reducible exact LeO.none _)
   | (with_reducible refine LeO.ite ?_ ?_)
   | (with_reducible refine LeO.bind ?_ (fun _ => ?_))
   | exact ih0 _ _
   | exact LeO.none _
   | refine LeO.ite ?_ ?_
   | refine LeO.bind ?_ (fun _ => ?_)
theorem spec_Control.mono : ∀ a0 k,LeO (spec_Control.f k a0) (spec_Control.f (k + 1) a0):=by
 intro a0 k
 have ih0:=spec_Control.mono_l k
 unfold spec_Control.f
 repeat' first
   | (with_reducible exact ih0 _ _)
   | (with_reducible exact LeO.refl _)
   | (with_reducible exact LeO.none _)
   | (with_reducible refine LeO.ite ?_ ?_)
   | (with_reducible refine LeO.bind ?_ (fun _ => ?_))
   | exact ih0 _ _
   | exact LeO.none _
   | refine LeO.ite ?_ ?_
   | refine LeO.bind ?_ (fun _ => ?_)
set_option maxHeartbeats 8000000 in
set_option maxRecDepth 100000 in
theorem spec_Control.calls (k : Nat) (a0 : ByteArray) (r : Bool) (w : World) (h : spec_Control.f k a0 = some r) :
  Calls Tryd.prog 109 #[.string a0] w fun e w' => e = .returned (.bool r) ∧ Drawn0 w w':=by
 have H : (if a0.toList = ([116,114,117,101,47,48] : List UInt8) then (spec_Control.j0 k a0 (a0.toList == ([116,114,117,101,47,48] : List UInt8))) else (if a0.toList = ([102,97,105,108,47,48] : List UInt8) then (spec_Control.j0 k a0 (a0.toList == ([102,97,105,108,47,48] : List UInt8))) else (if a0.toList = ([33,47,48] : List UInt8) then (spec_Control.j0 k a0 (a0.toList == ([33,47,48] : List UInt8))) else (if a0.toList = ([44,47,50] : List UInt8) then (spec_Control.j0 k a0 (a0.toList == ([44,47,50] : List UInt8))) else (if a0.toList = ([59,47,50] : List UInt8) then (spec_Control.j0 k a0 (a0.toList == ([59,47,50] : List UInt8))) else (if a0.toList = ([45,62,47,50] : List UInt8) then (spec_Control.j0 k a0 (a0.toList == ([45,62,47,50] : List UInt8))) else (if a0.toList = ([92,43,47,49] : List UInt8) then (spec_Control.j0 k a0 (a0.toList == ([92,43,47,49] : List UInt8))) else (if a0.toList = ([99,97,108,108,47,49] : List UInt8) then (spec_Control.j0 k a0 (a0.toList == ([99,97,108,108,47,49] : List UInt8))) else (if a0.toList = ([99,97,108,108,47,50] : List UInt8) then (spec_Control.j0 k a0 (a0.toList == ([99,97,108,108,47,50] : List UInt8))) else (if a0.toList = ([99,97,108,108,47,51] : List UInt8) then (spec_Control.j0 k a0 (a0.toList == ([99,97,108,108,47,51] : List UInt8))) else (if a0.toList = ([99,97,116,99,104,47,51] : List UInt8) then (spec_Control.j0 k a0 (a0.toList == ([99,97,116,99,104,47,51] : List UInt8))) else (spec_Control.j0 k a0 (a0.toList == ([116,104,114,111,119,47,49] : List UInt8)))))))))))))) = some r:=h
 clear h
 have HC2:=Aside0.mk H
 clear H
 go_enter Tryd.func109,Tryd.ntmps109
 go_upto_if 4 with (fail)
 go_cut [4] (fun v4 wc => ∃ (kq : Nat) (x4_1 : Bool),v4 = .bool x4_1 ∧ Aside0 (spec_Control.j0 kq a0 x4_1 = some r) ∧ Aside0 (kq ≤ k) ∧ Drawn0 w wc)
 case first =>
  have H:=HC2.out
  clear HC2
  by_cases c3 : a0.toList = ([116,114,117,101,47,48] : List UInt8)
  ·rw [if_pos c3] at H
   have c3b0 : (a0.toList == ([116,114,117,101,47,48] : List UInt8)) = true:=beq_iff_eq.mpr c3
   have c3b1 : (a0.toList != ([116,114,117,101,47,48] : List UInt8)) = false:=bne_eq_false_iff_eq.mpr c3
   clear c3
   (first|rw [c3b0]|(simp only [i64_w,i32_w];rw [c3b0])|skip)
   have H':=Aside0.mk H
   clear H
   go_wp2
   go_meet
   case rel => exact ⟨_,((a0.toList == ([116,114,117,101,47,48] : List UInt8))),(by first|rfl|(simp;done)|(simp [*];done)),H',⟨by first|omega|exact Nat.le_refl _⟩,by repeat (first|exact Drawn0.refl _|apply Drawn0.step)⟩
  ·rw [if_neg c3] at H
   have c3b0 : (a0.toList == ([116,114,117,101,47,48] : List UInt8)) = false:=beq_eq_false_iff_ne.mpr c3
   have c3b1 : (a0.toList != ([116,114,117,101,47,48] : List UInt8)) = true:=bne_iff_ne.mpr c3
   (first|rw [c3b0]|(simp only [i64_w,i32_w];rw [c3b0])|skip)
   by_cases c4 : a0.toList = ([102,97,105,108,47,48] : List UInt8)
   ·rw [if_pos c4] at H
    have c4b0 : (a0.toList == ([102,97,105,108,47,48] : List UInt8)) = true:=beq_iff_eq.mpr c4
    have c4b1 : (a0.toList != ([102,97,105,108,47,48] : List UInt8)) = false:=bne_eq_false_iff_eq.mpr c4
    clear c4
    have H':=Aside0.mk H
    clear H
    go_wp2
    go_meet
    case rel => exact ⟨_,((a0.toList == ([102,97,105,108,47,48] : List UInt8))),(by first|rfl|(simp;done)|(simp [*];done)),H',⟨by first|omega|exact Nat.le_refl _⟩,by repeat (first|exact Drawn0.refl _|apply Drawn0.step)⟩
   ·rw [if_neg c4] at H
    have c4b0 : (a0.toList == ([102,97,105,108,47,48] : List UInt8)) = false:=beq_eq_false_iff_ne.mpr c4
    have c4b1 : (a0.toList != ([102,97,105,108,47,48] : List UInt8)) = true:=bne_iff_ne.mpr c4
    by_cases c5 : a0.toList = ([33,47,48] : List UInt8)
    ·rw [if_pos c5] at H
     have c5b0 : (a0.toList == ([33,47,48] : List UInt8)) = true:=beq_iff_eq.mpr c5
     have c5b1 : (a0.toList != ([33,47,48] : List UInt8)) = false:=bne_eq_false_iff_eq.mpr c5
     clear c5
     have H':=Aside0.mk H
     clear H
     go_wp2
     go_meet
     case rel => exact ⟨_,((a0.toList == ([33,47,48] : List UInt8))),(by first|rfl|(simp;done)|(simp [*];done)),H',⟨by first|omega|exact Nat.le_refl _⟩,by repeat (first|exact Drawn0.refl _|apply Drawn0.step)⟩
    ·rw [if_neg c5] at H
     have c5b0 : (a0.toList == ([33,47,48] : List UInt8)) = false:=beq_eq_false_iff_ne.mpr c5
     have c5b1 : (a0.toList != ([33,47,48] : List UInt8)) = true:=bne_iff_ne.mpr c5
     by_cases c6 : a0.toList = ([44,47,50] : List UInt8)
     ·rw [if_pos c6] at H
      have c6b0 : (a0.toList == ([44,47,50] : List UInt8)) = true:=beq_iff_eq.mpr c6
      have c6b1 : (a0.toList != ([44,47,50] : List UInt8)) = false:=bne_eq_false_iff_eq.mpr c6
      clear c6
      have H':=Aside0.mk H
      clear H
      go_wp2
      go_meet
      case rel => exact ⟨_,((a0.toList == ([44,47,50] : List UInt8))),(by first|rfl|(simp;done)|(simp [*];done)),H',⟨by first|omega|exact Nat.le_refl _⟩,by repeat (first|exact Drawn0.refl _|apply Drawn0.step)⟩
     ·rw [if_neg c6] at H
      have c6b0 : (a0.toList == ([44,47,50] : List UInt8)) = false:=beq_eq_false_iff_ne.mpr c6
      have c6b1 : (a0.toList != ([44,47,50] : List UInt8)) = true:=bne_iff_ne.mpr c6
      by_cases c7 : a0.toList = ([59,47,50] : List UInt8)
      ·rw [if_pos c7] at H
       have c7b0 : (a0.toList == ([59,47,50] : List UInt8)) = true:=beq_iff_eq.mpr c7
       have c7b1 : (a0.toList != ([59,47,50] : List UInt8)) = false:=bne_eq_false_iff_eq.mpr c7
       clear c7
       have H':=Aside0.mk H
       clear H
       go_wp2
       go_meet
       case rel => exact ⟨_,((a0.toList == ([59,47,50] : List UInt8))),(by first|rfl|(simp;done)|(simp [*];done)),H',⟨by first|omega|exact Nat.le_refl _⟩,by repeat (first|exact Drawn0.refl _|apply Drawn0.step)⟩
      ·rw [if_neg c7] at H
       have c7b0 : (a0.toList == ([59,47,50] : List UInt8)) = false:=beq_eq_false_iff_ne.mpr c7
       have c7b1 : (a0.toList != ([59,47,50] : List UInt8)) = true:=bne_iff_ne.mpr c7
       by_cases c8 : a0.toList = ([45,62,47,50] : List UInt8)
       ·rw [if_pos c8] at H
        have c8b0 : (a0.toList == ([45,62,47,50] : List UInt8)) = true:=beq_iff_eq.mpr c8
        have c8b1 : (a0.toList != ([45,62,47,50] : List UInt8)) = false:=bne_eq_false_iff_eq.mpr c8
        clear c8
        have H':=Aside0.mk H
        clear H
        go_wp2
        go_meet
        case rel => exact ⟨_,((a0.toList == ([45,62,47,50] : List UInt8))),(by first|rfl|(simp;done)|(simp [*];done)),H',⟨by first|omega|exact Nat.le_refl _⟩,by repeat (first|exact Drawn0.refl _|apply Drawn0.step)⟩
       ·rw [if_neg c8] at H
        have c8b0 : (a0.toList == ([45,62,47,50] : List UInt8)) = false:=beq_eq_false_iff_ne.mpr c8
        have c8b1 : (a0.toList != ([45,62,47,50] : List UInt8)) = true:=bne_iff_ne.mpr c8
        by_cases c9 : a0.toList = ([92,43,47,49] : List UInt8)
        ·rw [if_pos c9] at H
         have c9b0 : (a0.toList == ([92,43,47,49] : List UInt8)) = true:=beq_iff_eq.mpr c9
         have c9b1 : (a0.toList != ([92,43,47,49] : List UInt8)) = false:=bne_eq_false_iff_eq.mpr c9
         clear c9
         have H':=Aside0.mk H
         clear H
         go_wp2
         go_meet
         case rel => exact ⟨_,((a0.toList == ([92,43,47,49] : List UInt8))),(by first|rfl|(simp;done)|(simp [*];done)),H',⟨by first|omega|exact Nat.le_refl _⟩,by repeat (first|exact Drawn0.refl _|apply Drawn0.step)⟩
        ·rw [if_neg c9] at H
         have c9b0 : (a0.toList == ([92,43,47,49] : List UInt8)) = false:=beq_eq_false_iff_ne.mpr c9
         have c9b1 : (a0.toList != ([92,43,47,49] : List UInt8)) = true:=bne_iff_ne.mpr c9
         by_cases c10 : a0.toList = ([99,97,108,108,47,49] : List UInt8)
         ·rw [if_pos c10] at H
          have c10b0 : (a0.toList == ([99,97,108,108,47,49] : List UInt8)) = true:=beq_iff_eq.mpr c10
          have c10b1 : (a0.toList != ([99,97,108,108,47,49] : List UInt8)) = false:=bne_eq_false_iff_eq.mpr c10
          clear c10
          have H':=Aside0.mk H
          clear H
          go_wp2
          go_meet
          case rel => exact ⟨_,((a0.toList == ([99,97,108,108,47,49] : List UInt8))),(by first|rfl|(simp;done)|(simp [*];done)),H',⟨by first|omega|exact Nat.le_refl _⟩,by repeat (first|exact Drawn0.refl _|apply Drawn0.step)⟩
         ·rw [if_neg c10] at H
          have c10b0 : (a0.toList == ([99,97,108,108,47,49] : List UInt8)) = false:=beq_eq_false_iff_ne.mpr c10
          have c10b1 : (a0.toList != ([99,97,108,108,47,49] : List UInt8)) = true:=bne_iff_ne.mpr c10
          by_cases c11 : a0.toList = ([99,97,108,108,47,50] : List UInt8)
          ·rw [if_pos c11] at H
           have c11b0 : (a0.toList == ([99,97,108,108,47,50] : List UInt8)) = true:=beq_iff_eq.mpr c11
           have c11b1 : (a0.toList != ([99,97,108,108,47,50] : List UInt8)) = false:=bne_eq_false_iff_eq.mpr c11
           clear c11
           have H':=Aside0.mk H
           clear H
           go_wp2
           go_meet
           case rel => exact ⟨_,((a0.toList == ([99,97,108,108,47,50] : List UInt8))),(by first|rfl|(simp;done)|(simp [*];done)),H',⟨by first|omega|exact Nat.le_refl _⟩,by repeat (first|exact Drawn0.refl _|apply Drawn0.step)⟩
          ·rw [if_neg c11] at H
           have c11b0 : (a0.toList == ([99,97,108,108,47,50] : List UInt8)) = false:=beq_eq_false_iff_ne.mpr c11
           have c11b1 : (a0.toList != ([99,97,108,108,47,50] : List UInt8)) = true:=bne_iff_ne.mpr c11
           by_cases c12 : a0.toList = ([99,97,108,108,47,51] : List UInt8)
           ·rw [if_pos c12] at H
            have c12b0 : (a0.toList == ([99,97,108,108,47,51] : List UInt8)) = true:=beq_iff_eq.mpr c12
            have c12b1 : (a0.toList != ([99,97,108,108,47,51] : List UInt8)) = false:=bne_eq_false_iff_eq.mpr c12
            clear c12
            have H':=Aside0.mk H
            clear H
            go_wp2
            go_meet
            case rel => exact ⟨_,((a0.toList == ([99,97,108,108,47,51] : List UInt8))),(by first|rfl|(simp;done)|(simp [*];done)),H',⟨by first|omega|exact Nat.le_refl _⟩,by repeat (first|exact Drawn0.refl _|apply Drawn0.step)⟩
           ·rw [if_neg c12] at H
            have c12b0 : (a0.toList == ([99,97,108,108,47,51] : List UInt8)) = false:=beq_eq_false_iff_ne.mpr c12
            have c12b1 : (a0.toList != ([99,97,108,108,47,51] : List UInt8)) = true:=bne_iff_ne.mpr c12
            by_cases c13 : a0.toList = ([99,97,116,99,104,47,51] : List UInt8)
            ·rw [if_pos c13] at H
             have c13b0 : (a0.toList == ([99,97,116,99,104,47,51] : List UInt8)) = true:=beq_iff_eq.mpr c13
             have c13b1 : (a0.toList != ([99,97,116,99,104,47,51] : List UInt8)) = false:=bne_eq_false_iff_eq.mpr c13
             clear c13
             have H':=Aside0.mk H
             clear H
             go_wp2
             go_meet
             case rel => exact ⟨_,((a0.toList == ([99,97,116,99,104,47,51] : List UInt8))),(by first|rfl|(simp;done)|(simp [*];done)),H',⟨by first|omega|exact Nat.le_refl _⟩,by repeat (first|exact Drawn0.refl _|apply Drawn0.step)⟩
            ·rw [if_neg c13] at H
             have c13b0 : (a0.toList == ([99,97,116,99,104,47,51] : List UInt8)) = false:=beq_eq_false_iff_ne.mpr c13
             have c13b1 : (a0.toList != ([99,97,116,99,104,47,51] : List UInt8)) = true:=bne_iff_ne.mpr c13
             have H':=Aside0.mk H
             clear H
             go_wp2
             go_meet
             case rel => exact ⟨_,((a0.toList == ([116,104,114,111,119,47,49] : List UInt8))),(by first|rfl|(simp;done)|(simp [*];done)),H',⟨by first|omega|exact Nat.le_refl _⟩,by repeat (first|exact Drawn0.refl _|apply Drawn0.step)⟩
 case rest =>
  clear HC2
  try clear c3
  try clear c3b0
  try clear c3b1
  try clear c4
  try clear c4b0
  try clear c4b1
  try clear c5
  try clear c5b0
  try clear c5b1
  try clear c6
  try clear c6b0
  try clear c6b1
  try clear c7
  try clear c7b0
  try clear c7b1
  try clear c8
  try clear c8b0
  try clear c8b1
  try clear c9
  try clear c9b0
  try clear c9b1
  try clear c10
  try clear c10b0
  try clear c10b1
  try clear c11
  try clear c11b0
  try clear c11b1
  try clear c12
  try clear c12b0
  try clear c12b1
  try clear c13
  try clear c13b0
  try clear c13b1
  obtain ⟨kq,x4_1,rfl,HA,HJ1,⟨mc1,rfl⟩⟩:=hcut
  cases kq with
  | zero => exact absurd HA.out (by simp [spec_Control.j0])
  | succ kj1 =>
   have H:=HA.out
   clear HA
   simp only [spec_Control.j0] at H
   by_cases c14 : x4_1 = true
   ·subst c14
    have H1 : (some true) = some r:=by rw [if_pos rfl] at H;exact H
    clear H
    have H:=H1
    clear H1
    obtain rfl:=Option.some.inj H
    go_wp2
    go_ret
    exact ⟨by first|rfl|(simp;done)|(simp [*];done),by repeat (first|exact Drawn0.refl _|apply Drawn0.step)⟩
   ·replace c14:=Bool.eq_false_iff.mpr c14
    subst c14
    have H1 : (if a0.toList = ([61,47,50] : List UInt8) then (some true) else (if a0.toList = ([92,61,47,50] : List UInt8) then (some true) else (if a0.toList = ([61,61,47,50] : List UInt8) then (some true) else (if a0.toList = ([105,115,47,50] : List UInt8) then (some true) else (if a0.toList = ([60,47,50] : List UInt8) then (some true) else (if a0.toList = ([61,58,61,47,50] : List UInt8) then (some true) else (if a0.toList = ([118,97,114,47,49] : List UInt8) then (some true) else (if a0.toList = ([97,116,111,109,47,49] : List UInt8) then (some true) else (if a0.toList = ([119,114,105,116,101,47,49] : List UInt8) then (some true) else (if a0.toList = ([97,115,115,101,114,116,122,47,49] : List UInt8) then (some true) else (if a0.toList = ([114,101,116,114,97,99,116,47,49] : List UInt8) then (some true) else (if a0.toList = ([58,45,47,50] : List UInt8) then (some true) else (if a0.toList = ([58,45,47,49] : List UInt8) then (some true) else (if a0.toList = ([45,45,62,47,50] : List UInt8) then (some true) else (some false))))))))))))))) = some r:=by rw [if_neg (show ¬ (false = true) by decide)] at H;exact H
    clear H
    have H:=H1
    clear H1
    by_cases c15 : a0.toList = ([61,47,50] : List UInt8)
    ·rw [if_pos c15] at H
     have c15b0 : (a0.toList == ([61,47,50] : List UInt8)) = true:=beq_iff_eq.mpr c15
     have c15b1 : (a0.toList != ([61,47,50] : List UInt8)) = false:=bne_eq_false_iff_eq.mpr c15
     clear c15
     obtain rfl:=Option.some.inj H
     go_wp2
     go_ret
     exact ⟨by first|rfl|(simp;done)|(simp [*];done),by repeat (first|exact Drawn0.refl _|apply Drawn0.step)⟩
    ·rw [if_neg c15] at H
     have c15b0 : (a0.toList == ([61,47,50] : List UInt8)) = false:=beq_eq_false_iff_ne.mpr c15
     have c15b1 : (a0.toList != ([61,47,50] : List UInt8)) = true:=bne_iff_ne.mpr c15
     by_cases c16 : a0.toList = ([92,61,47,50] : List UInt8)
     ·rw [if_pos c16] at H
      have c16b0 : (a0.toList == ([92,61,47,50] : List UInt8)) = true:=beq_iff_eq.mpr c16
      have c16b1 : (a0.toList != ([92,61,47,50] : List UInt8)) = false:=bne_eq_false_iff_eq.mpr c16
      clear c16
      obtain rfl:=Option.some.inj H
      go_wp2
      go_ret
      exact ⟨by first|rfl|(simp;done)|(simp [*];done),by repeat (first|exact Drawn0.refl _|apply Drawn0.step)⟩
     ·rw [if_neg c16] at H
      have c16b0 : (a0.toList == ([92,61,47,50] : List UInt8)) = false:=beq_eq_false_iff_ne.mpr c16
      have c16b1 : (a0.toList != ([92,61,47,50] : List UInt8)) = true:=bne_iff_ne.mpr c16
      by_cases c17 : a0.toList = ([61,61,47,50] : List UInt8)
      ·rw [if_pos c17] at H
       have c17b0 : (a0.toList == ([61,61,47,50] : List UInt8)) = true:=beq_iff_eq.mpr c17
       have c17b1 : (a0.toList != ([61,61,47,50] : List UInt8)) = false:=bne_eq_false_iff_eq.mpr c17
       clear c17
       obtain rfl:=Option.some.inj H
       go_wp2
       go_ret
       exact ⟨by first|rfl|(simp;done)|(simp [*];done),by repeat (first|exact Drawn0.refl _|apply Drawn0.step)⟩
      ·rw [if_neg c17] at H
       have c17b0 : (a0.toList == ([61,61,47,50] : List UInt8)) = false:=beq_eq_false_iff_ne.mpr c17
       have c17b1 : (a0.toList != ([61,61,47,50] : List UInt8)) = true:=bne_iff_ne.mpr c17
       by_cases c18 : a0.toList = ([105,115,47,50] : List UInt8)
       ·rw [if_pos c18] at H
        have c18b0 : (a0.toList == ([105,115,47,50] : List UInt8)) = true:=beq_iff_eq.mpr c18
        have c18b1 : (a0.toList != ([105,115,47,50] : List UInt8)) = false:=bne_eq_false_iff_eq.mpr c18
        clear c18
        obtain rfl:=Option.some.inj H
        go_wp2
        go_ret
        exact ⟨by first|rfl|(simp;done)|(simp [*];done),by repeat (first|exact Drawn0.refl _|apply Drawn0.step)⟩
       ·rw [if_neg c18] at H
        have c18b0 : (a0.toList == ([105,115,47,50] : List UInt8)) = false:=beq_eq_false_iff_ne.mpr c18
        have c18b1 : (a0.toList != ([105,115,47,50] : List UInt8)) = true:=bne_iff_ne.mpr c18
        by_cases c19 : a0.toList = ([60,47,50] : List UInt8)
        ·rw [if_pos c19] at H
         have c19b0 : (a0.toList == ([60,47,50] : List UInt8)) = true:=beq_iff_eq.mpr c19
         have c19b1 : (a0.toList != ([60,47,50] : List UInt8)) = false:=bne_eq_false_iff_eq.mpr c19
         clear c19
         obtain rfl:=Option.some.inj H
         go_wp2
         go_ret
         exact ⟨by first|rfl|(simp;done)|(simp [*];done),by repeat (first|exact Drawn0.refl _|apply Drawn0.step)⟩
        ·rw [if_neg c19] at H
         have c19b0 : (a0.toList == ([60,47,50] : List UInt8)) = false:=beq_eq_false_iff_ne.mpr c19
         have c19b1 : (a0.toList != ([60,47,50] : List UInt8)) = true:=bne_iff_ne.mpr c19
         by_cases c20 : a0.toList = ([61,58,61,47,50] : List UInt8)
         ·rw [if_pos c20] at H
          have c20b0 : (a0.toList == ([61,58,61,47,50] : List UInt8)) = true:=beq_iff_eq.mpr c20
          have c20b1 : (a0.toList != ([61,58,61,47,50] : List UInt8)) = false:=bne_eq_false_iff_eq.mpr c20
          clear c20
          obtain rfl:=Option.some.inj H
          go_wp2
          go_ret
          exact ⟨by first|rfl|(simp;done)|(simp [*];done),by repeat (first|exact Drawn0.refl _|apply Drawn0.step)⟩
         ·rw [if_neg c20] at H
          have c20b0 : (a0.toList == ([61,58,61,47,50] : List UInt8)) = false:=beq_eq_false_iff_ne.mpr c20
          have c20b1 : (a0.toList != ([61,58,61,47,50] : List UInt8)) = true:=bne_iff_ne.mpr c20
          by_cases c21 : a0.toList = ([118,97,114,47,49] : List UInt8)
          ·rw [if_pos c21] at H
           have c21b0 : (a0.toList == ([118,97,114,47,49] : List UInt8)) = true:=beq_iff_eq.mpr c21
           have c21b1 : (a0.toList != ([118,97,114,47,49] : List UInt8)) = false:=bne_eq_false_iff_eq.mpr c21
           clear c21
           obtain rfl:=Option.some.inj H
           go_wp2
           go_ret
           exact ⟨by first|rfl|(simp;done)|(simp [*];done),by repeat (first|exact Drawn0.refl _|apply Drawn0.step)⟩
          ·rw [if_neg c21] at H
           have c21b0 : (a0.toList == ([118,97,114,47,49] : List UInt8)) = false:=beq_eq_false_iff_ne.mpr c21
           have c21b1 : (a0.toList != ([118,97,114,47,49] : List UInt8)) = true:=bne_iff_ne.mpr c21
           by_cases c22 : a0.toList = ([97,116,111,109,47,49] : List UInt8)
           ·rw [if_pos c22] at H
            have c22b0 : (a0.toList == ([97,116,111,109,47,49] : List UInt8)) = true:=beq_iff_eq.mpr c22
            have c22b1 : (a0.toList != ([97,116,111,109,47,49] : List UInt8)) = false:=bne_eq_false_iff_eq.mpr c22
            clear c22
            obtain rfl:=Option.some.inj H
            go_wp2
            go_ret
            exact ⟨by first|rfl|(simp;done)|(simp [*];done),by repeat (first|exact Drawn0.refl _|apply Drawn0.step)⟩
           ·rw [if_neg c22] at H
            have c22b0 : (a0.toList == ([97,116,111,109,47,49] : List UInt8)) = false:=beq_eq_false_iff_ne.mpr c22
            have c22b1 : (a0.toList != ([97,116,111,109,47,49] : List UInt8)) = true:=bne_iff_ne.mpr c22
            by_cases c23 : a0.toList = ([119,114,105,116,101,47,49] : List UInt8)
            ·rw [if_pos c23] at H
             have c23b0 : (a0.toList == ([119,114,105,116,101,47,49] : List UInt8)) = true:=beq_iff_eq.mpr c23
             have c23b1 : (a0.toList != ([119,114,105,116,101,47,49] : List UInt8)) = false:=bne_eq_false_iff_eq.mpr c23
             clear c23
             obtain rfl:=Option.some.inj H
             go_wp2
             go_ret
             exact ⟨by first|rfl|(simp;done)|(simp [*];done),by repeat (first|exact Drawn0.refl _|apply Drawn0.step)⟩
            ·rw [if_neg c23] at H
             have c23b0 : (a0.toList == ([119,114,105,116,101,47,49] : List UInt8)) = false:=beq_eq_false_iff_ne.mpr c23
             have c23b1 : (a0.toList != ([119,114,105,116,101,47,49] : List UInt8)) = true:=bne_iff_ne.mpr c23
             by_cases c24 : a0.toList = ([97,115,115,101,114,116,122,47,49] : List UInt8)
             ·rw [if_pos c24] at H
              have c24b0 : (a0.toList == ([97,115,115,101,114,116,122,47,49] : List UInt8)) = true:=beq_iff_eq.mpr c24
              have c24b1 : (a0.toList != ([97,115,115,101,114,116,122,47,49] : List UInt8)) = false:=bne_eq_false_iff_eq.mpr c24
              clear c24
              obtain rfl:=Option.some.inj H
              go_wp2
              go_ret
              exact ⟨by first|rfl|(simp;done)|(simp [*];done),by repeat (first|exact Drawn0.refl _|apply Drawn0.step)⟩
             ·rw [if_neg c24] at H
              have c24b0 : (a0.toList == ([97,115,115,101,114,116,122,47,49] : List UInt8)) = false:=beq_eq_false_iff_ne.mpr c24
              have c24b1 : (a0.toList != ([97,115,115,101,114,116,122,47,49] : List UInt8)) = true:=bne_iff_ne.mpr c24
              by_cases c25 : a0.toList = ([114,101,116,114,97,99,116,47,49] : List UInt8)
              ·rw [if_pos c25] at H
               have c25b0 : (a0.toList == ([114,101,116,114,97,99,116,47,49] : List UInt8)) = true:=beq_iff_eq.mpr c25
               have c25b1 : (a0.toList != ([114,101,116,114,97,99,116,47,49] : List UInt8)) = false:=bne_eq_false_iff_eq.mpr c25
               clear c25
               obtain rfl:=Option.some.inj H
               go_wp2
               go_ret
               exact ⟨by first|rfl|(simp;done)|(simp [*];done),by repeat (first|exact Drawn0.refl _|apply Drawn0.step)⟩
              ·rw [if_neg c25] at H
               have c25b0 : (a0.toList == ([114,101,116,114,97,99,116,47,49] : List UInt8)) = false:=beq_eq_false_iff_ne.mpr c25
               have c25b1 : (a0.toList != ([114,101,116,114,97,99,116,47,49] : List UInt8)) = true:=bne_iff_ne.mpr c25
               by_cases c26 : a0.toList = ([58,45,47,50] : List UInt8)
               ·rw [if_pos c26] at H
                have c26b0 : (a0.toList == ([58,45,47,50] : List UInt8)) = true:=beq_iff_eq.mpr c26
                have c26b1 : (a0.toList != ([58,45,47,50] : List UInt8)) = false:=bne_eq_false_iff_eq.mpr c26
                clear c26
                obtain rfl:=Option.some.inj H
                go_wp2
                go_ret
                exact ⟨by first|rfl|(simp;done)|(simp [*];done),by repeat (first|exact Drawn0.refl _|apply Drawn0.step)⟩
               ·rw [if_neg c26] at H
                have c26b0 : (a0.toList == ([58,45,47,50] : List UInt8)) = false:=beq_eq_false_iff_ne.mpr c26
                have c26b1 : (a0.toList != ([58,45,47,50] : List UInt8)) = true:=bne_iff_ne.mpr c26
                by_cases c27 : a0.toList = ([58,45,47,49] : List UInt8)
                ·rw [if_pos c27] at H
                 have c27b0 : (a0.toList == ([58,45,47,49] : List UInt8)) = true:=beq_iff_eq.mpr c27
                 have c27b1 : (a0.toList != ([58,45,47,49] : List UInt8)) = false:=bne_eq_false_iff_eq.mpr c27
                 clear c27
                 obtain rfl:=Option.some.inj H
                 go_wp2
                 go_ret
                 exact ⟨by first|rfl|(simp;done)|(simp [*];done),by repeat (first|exact Drawn0.refl _|apply Drawn0.step)⟩
                ·rw [if_neg c27] at H
                 have c27b0 : (a0.toList == ([58,45,47,49] : List UInt8)) = false:=beq_eq_false_iff_ne.mpr c27
                 have c27b1 : (a0.toList != ([58,45,47,49] : List UInt8)) = true:=bne_iff_ne.mpr c27
                 by_cases c28 : a0.toList = ([45,45,62,47,50] : List UInt8)
                 ·rw [if_pos c28] at H
                  have c28b0 : (a0.toList == ([45,45,62,47,50] : List UInt8)) = true:=beq_iff_eq.mpr c28
                  have c28b1 : (a0.toList != ([45,45,62,47,50] : List UInt8)) = false:=bne_eq_false_iff_eq.mpr c28
                  clear c28
                  obtain rfl:=Option.some.inj H
                  go_wp2
                  go_ret
                  exact ⟨by first|rfl|(simp;done)|(simp [*];done),by repeat (first|exact Drawn0.refl _|apply Drawn0.step)⟩
                 ·rw [if_neg c28] at H
                  have c28b0 : (a0.toList == ([45,45,62,47,50] : List UInt8)) = false:=beq_eq_false_iff_ne.mpr c28
                  have c28b1 : (a0.toList != ([45,45,62,47,50] : List UInt8)) = true:=bne_iff_ne.mpr c28
                  obtain rfl:=Option.some.inj H
                  go_wp2
                  go_ret
                  exact ⟨by first|rfl|(simp;done)|(simp [*];done),by repeat (first|exact Drawn0.refl _|apply Drawn0.step)⟩
end Go.Proofs.YtojedbogbodkiaaDoor.KCo
