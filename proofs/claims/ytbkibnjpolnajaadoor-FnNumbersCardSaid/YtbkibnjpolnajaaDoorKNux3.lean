/- Contracts of functions of the program and of the reference, each a Lean function and the proof that Go comes to its answer. Written by wip/pp/pp.py out of the kit's print, for this claim; nothing of it is trusted: Lean checks it. -/
import Derived.Test.YtbkibnjpolnajaaDoorKNux0
import Derived.Test.YtbkibnjpolnajaaDoorKNux1
import Derived.Test.YtbkibnjpolnajaaDoorKNux2
namespace Go.Proofs.YtbkibnjpolnajaaDoor.KNu
open Go.RowKit Go.Proofs.YtbkibnjpolnajaaDoorW.PrintWords Go.Proofs.YtbkibnjpolnajaaDoorW.PrintLast Go.Proofs.YtbkibnjpolnajaaDoorW.PrintMore
attribute [local go_sem] max2_int min2_int max_two min_two max_three min_three max_four min_four   -- for this text's walks alone
set_option linter.unusedVariables false
set_option linter.unusedSimpArgs false

set_option linter.unusedSectionVars false
variable [fk_strconv_Itoa] [fk_impl_ReadDecimal] [fk_impl_Hex] [fk_impl_Unhex]
/-! ### laws_FnNumbers: function 6 -/
mutual
def laws_FnNumbers.j0 : Nat → List Int → Int → Bool → Option (Bool)
 | 0,_,_,_ => none
 | k + 1,x0,x3,x30 => if x30 = true then (laws_FnNumbers.j1 k x0 12345) else (laws_FnNumbers.j1 k x0 x3)
def laws_FnNumbers.j1 : Nat → List Int → Int → Option (Bool)
 | 0,_,_ => none
 | k + 1,x0,x3 => (impl_VarText.f k x3).bind fun bt198 => (if 1 + bt198.1.size ≤ 9223372036854775807 then (if ((⟨#[120]⟩ : ByteArray) ++ bt198.1).size + 1 ≤ 9223372036854775807 then ((impl_ReadVar.f k (((⟨#[120]⟩ : ByteArray) ++ bt198.1) ++ (⟨#[121]⟩ : ByteArray)) 1).bind fun bt200 => ((impl_Decimal.f k x3).bind fun t203 => ((fk_impl_ReadDecimal.f k t203).bind fun bt204 => ((spec_DrawHex.f k x0).bind fun t206 => (if (t206.size : Int) > 300 then (laws_FnNumbers.j2 k x3 bt198.1 bt198.2 bt200.1 bt200.2.1 bt200.2.2 bt204.1 bt204.2 (⟨#[97,98,99]⟩ : ByteArray)) else (laws_FnNumbers.j2 k x3 bt198.1 bt198.2 bt200.1 bt200.2.1 bt200.2.2 bt204.1 bt204.2 t206)))))) else (none)) else (none))
def laws_FnNumbers.j2 : Nat → Int → ByteArray → Bool → Int → Int → Bool → Int → Bool → ByteArray → Option (Bool)
 | 0,_,_,_,_,_,_,_,_,_ => none
 | k + 1,x3,x4,x5,x6,x7,x8,x9,x10,x11 => (impl_ShortText.f k x11).bind fun bt207 => ((impl_ReadShort.f k bt207.1 0).bind fun bt209 => ((fk_impl_Hex.f k x11).bind fun bt212 => ((fk_impl_Unhex.f k bt212.1).bind fun bt214 => (if x5 = true then (if x8 = true then (if x10 = true then (if bt207.2 = true then (if bt209.2.2 = true then (if bt212.2 = true then (if bt214.2 = true then (if x6 = x3 then (if x9 = x3 then (if x7 = (wrap64 ((x4.size : Int) + 1)) then (if bt209.1.toList = x11.toList then (if bt209.2.1 = (bt207.1.size : Int) then (some (bt214.1.toList == x11.toList)) else (some false)) else (some false)) else (some false)) else (some false)) else (some false)) else (some false)) else (some false)) else (some false)) else (some false)) else (some false)) else (some false)) else (some false)))))
end
def laws_FnNumbers.f (k : Nat) (l0 : List Int) : Option (Bool):=(laws_big.f l0).bind fun t196 => (if t196 = true then (some true) else ((spec_DrawVarText.f k l0).bind fun t197 => (if t197 < 0 then (laws_FnNumbers.j0 k l0 t197 true) else (laws_FnNumbers.j0 k l0 t197 (decide (t197 > 1000000000))))))
theorem laws_FnNumbers.mono_l : ∀ k,(∀ y0 y1 y2,LeO (laws_FnNumbers.j0 k y0 y1 y2) (laws_FnNumbers.j0 (k + 1) y0 y1 y2)) ∧ (∀ y0 y1,LeO (laws_FnNumbers.j1 k y0 y1) (laws_FnNumbers.j1 (k + 1) y0 y1)) ∧ (∀ y0 y1 y2 y3 y4 y5 y6 y7 y8,LeO (laws_FnNumbers.j2 k y0 y1 y2 y3 y4 y5 y6 y7 y8) (laws_FnNumbers.j2 (k + 1) y0 y1 y2 y3 y4 y5 y6 y7 y8))
 | 0 => ⟨fun _ _ _ r h => by simp [laws_FnNumbers.j0] at h,fun _ _ r h => by simp [laws_FnNumbers.j1] at h,fun _ _ _ _ _ _ _ _ _ r h => by simp [laws_FnNumbers.j2] at h⟩
 | k + 1 => by
  obtain ⟨ih0,ih1,ih2⟩:=laws_FnNumbers.mono_l k
  refine ⟨?_,?_,?_⟩
  ·intro y0 y1 y2
   unfold laws_FnNumbers.j0
   repeat' first
   | (with_reducible exact ih0 _ _ _)
   | (with_reducible exact ih1 _ _)
   | (with_reducible exact ih2 _ _ _ _ _ _ _ _ _)
   | (with_reducible exact fk_impl_Hex.mono _ _)
   | (with_reducible exact fk_impl_ReadDecimal.mono _ _)
   | (with_reducible exact fk_impl_Unhex.mono _ _)
   | (with_reducible exact impl_Decimal.mono _ _)
   | (with_reducible exact impl_ReadShort.mono _ _ _)
   | (with_reducible exact impl_ReadVar.mono _ _ _)
   | (with_reducible exact impl_ShortText.mono _ _)
   | (with_reducible exact impl_VarText.mono _ _)
   | (with_reducible exact spec_DrawHex.mono _ _)
   | (with_reducible exact spec_DrawVarText.mono _ _)
   | (with_reducible exact LeO.refl _)
   | (with_reducible exact LeO.none _)
   | (with_reducible refine LeO.ite ?_ ?_)
   | (with_reducible refine LeO.bind ?_ (fun _ => ?_))
   | exact ih0 _ _ _
   | exact ih1 _ _
   | exact ih2 _ _ _ _ _ _ _ _ _
   | exact fk_impl_Hex.mono _ _
   | exact fk_impl_ReadDecimal.mono _ _
   | exact fk_impl_Unhex.mono _ _
   | exact impl_Decimal.mono _ _
   | exact impl_ReadShort.mono _ _ _
   | exact impl_ReadVar.mono _ _ _
   | exact impl_ShortText.mono _ _
   | exact impl_VarText.mono _ _
   | exact spec_DrawHex.mono _ _
   | exact spec_DrawVarText.mono _ _
   | exact LeO.none _
   | refine LeO.ite ?_ ?_
   | refine LeO.bind ?_ (fun _ => ?_)
  ·intro y0 y1
   unfold laws_FnNumbers.j1
   repeat' first
   | (with_reducible exact ih0 _ _ _)
   | (with_reducible exact ih1 _ _)
   | (with_reducible exact ih2 _ _ _ _ _ _ _ _ _)
   | (with_reducible exact fk_impl_Hex.mono _ _)
   | (with_reducible exact fk_impl_ReadDecimal.mono _ _)
   | (with_reducible exact fk_impl_Unhex.mono _ _)
   | (with_reducible exact impl_Decimal.mono _ _)
   | (with_reducible exact impl_ReadShort.mono _ _ _)
   | (with_reducible exact impl_ReadVar.mono _ _ _)
   | (with_reducible exact impl_ShortText.mono _ _)
   | (with_reducible exact impl_VarText.mono _ _)
   | (with_reducible exact spec_DrawHex.mono _ _)
   | (with_reducible exact spec_DrawVarText.mono _ _)
   | (with_reducible exact LeO.refl _)
   | (with_reducible exact LeO.none _)
   | (with_reducible refine LeO.ite ?_ ?_)
   | (with_reducible refine LeO.bind ?_ (fun _ => ?_))
   | exact ih0 _ _ _
   | exact ih1 _ _
   | exact ih2 _ _ _ _ _ _ _ _ _
   | exact fk_impl_Hex.mono _ _
   | exact fk_impl_ReadDecimal.mono _ _
   | exact fk_impl_Unhex.mono _ _
   | exact impl_Decimal.mono _ _
   | exact impl_ReadShort.mono _ _ _
   | exact impl_ReadVar.mono _ _ _
   | exact impl_ShortText.mono _ _
   | exact impl_VarText.mono _ _
   | exact spec_DrawHex.mono _ _
   | exact spec_DrawVarText.mono _ _
   | exact LeO.none _
   | refine LeO.ite ?_ ?_
   | refine LeO.bind ?_ (fun _ => ?_)
  ·intro y0 y1 y2 y3 y4 y5 y6 y7 y8
   unfold laws_FnNumbers.j2
   repeat' first
   | (with_reducible exact ih0 _ _ _)
   | (with_reducible exact ih1 _ _)
   | (with_reducible exact ih2 _ _ _ _ _ _ _ _ _)
   | (with_reducible exact fk_impl_Hex.mono _ _)
   | (with_reducible exact fk_impl_ReadDecimal.mono _ _)
   | (with_reducible exact fk_impl_Unhex.mono _ _)
   | (with_reducible exact impl_Decimal.mono _ _)
   | (with_reducible exact impl_ReadShort.mono _ _ _)
   | (with_reducible exact impl_ReadVar.mono _ _ _)
   | (with_reducible exact impl_ShortText.mono _ _)
   | (with_reducible exact impl_VarText.mono _ _)
   | (with_reducible exact spec_DrawHex.mono _ _)
   | (with_reducible exact spec_DrawVarText.mono _ _)
   | (with_reducible exact LeO.refl _)
   | (with_reducible exact LeO.none _)
   | (with_reducible refine LeO.ite ?_ ?_)
   | (with_reducible refine LeO.bind ?_ (fun _ => ?_))
   | exact ih0 _ _ _
   | exact ih1 _ _
   | exact ih2 _ _ _ _ _ _ _ _ _
   | exact fk_impl_Hex.mono _ _
   | exact fk_impl_ReadDecimal.mono _ _
   | exact fk_impl_Unhex.mono _ _
   | exact impl_Decimal.mono _ _
   | exact impl_ReadShort.mono _ _ _
   | exact impl_ReadVar.mono _ _ _
   | exact impl_ShortText.mono _ _
   | exact impl_VarText.mono _ _
   | exact spec_DrawHex.mono _ _
   | exact spec_DrawVarText.mono _ _
   | exact LeO.none _
   | refine LeO.ite ?_ ?_
   | refine LeO.bind ?_ (fun _ => ?_)
theorem laws_FnNumbers.mono : ∀ a0 k,LeO (laws_FnNumbers.f k a0) (laws_FnNumbers.f (k + 1) a0):=by
 intro a0 k
 obtain ⟨ih0,ih1,ih2⟩:=laws_FnNumbers.mono_l k
 unfold laws_FnNumbers.f
 repeat' first
   | (with_reducible exact ih0 _ _ _)
   | (with_reducible exact ih1 _ _)
   | (with_reducible exact ih2 _ _ _ _ _ _ _ _ _)
   | (with_reducible exact fk_impl_Hex.mono _ _)
   | (with_reducible exact fk_impl_ReadDecimal.mono _ _)
   | (with_reducible exact fk_impl_Unhex.mono _ _)
   | (with_reducible exact impl_Decimal.mono _ _)
   | (with_reducible exact impl_ReadShort.mono _ _ _)
   | (with_reducible exact impl_ReadVar.mono _ _ _)
   | (with_reducible exact impl_ShortText.mono _ _)
   | (with_reducible exact impl_VarText.mono _ _)
   | (with_reducible exact spec_DrawHex.mono _ _)
   | (with_reducible exact spec_DrawVarText.mono _ _)
   | (with_reducible exact LeO.refl _)
   | (with_reducible exact LeO.none _)
   | (with_reducible refine LeO.ite ?_ ?_)
   | (with_reducible refine LeO.bind ?_ (fun _ => ?_))
   | exact ih0 _ _ _
   | exact ih1 _ _
   | exact ih2 _ _ _ _ _ _ _ _ _
   | exact fk_impl_Hex.mono _ _
   | exact fk_impl_ReadDecimal.mono _ _
   | exact fk_impl_Unhex.mono _ _
   | exact impl_Decimal.mono _ _
   | exact impl_ReadShort.mono _ _ _
   | exact impl_ReadVar.mono _ _ _
   | exact impl_ShortText.mono _ _
   | exact impl_VarText.mono _ _
   | exact spec_DrawHex.mono _ _
   | exact spec_DrawVarText.mono _ _
   | exact LeO.none _
   | refine LeO.ite ?_ ?_
   | refine LeO.bind ?_ (fun _ => ?_)
set_option maxHeartbeats 8000000 in
set_option maxRecDepth 100000 in
theorem laws_FnNumbers.calls (k : Nat) (A0 : Option Addr) (c0 : Nat) (l0 : List Int) (r : Bool) (w : World) (hTAB : TB w) (hr0 : Kd.C (Kd.int .u8) w A0 l0.length l0) (hc0 : l0.length ≤ c0) (h : laws_FnNumbers.f k l0 = some r) :
  Calls Tryd.prog 6 #[.slice A0 l0.length c0] w fun e w' => e = .returned (.bool r) ∧ Below w.heap.size w w':=by
 have HR0:=Aside0.mk hr0
 have HC0:=Aside0.mk hc0
 clear hr0 hc0
 have HB:=Aside0.mk (Below.refl w.heap.size w)
 have HTAB:=Aside0.mk hTAB
 clear hTAB
 have H : ((laws_big.f l0).bind fun t196 => (if t196 = true then (some true) else ((spec_DrawVarText.f k l0).bind fun t197 => (if t197 < 0 then (laws_FnNumbers.j0 k l0 t197 true) else (laws_FnNumbers.j0 k l0 t197 (decide (t197 > 1000000000))))))) = some r:=h
 clear h
 replace H:=Option.bind_eq_some_iff.mp H
 obtain ⟨t196,A20,H⟩:=H
 replace H : (if t196 = true then (some true) else ((spec_DrawVarText.f k l0).bind fun t197 => (if t197 < 0 then (laws_FnNumbers.j0 k l0 t197 true) else (laws_FnNumbers.j0 k l0 t197 (decide (t197 > 1000000000)))))) = some r:=H
 have A2:=Aside0.mk A20
 clear A20
 by_cases c3 : t196 = true
 ·subst c3
  have H1 : (some true) = some r:=by rw [if_pos rfl] at H;exact H
  clear H
  have H:=H1
  clear H1
  obtain rfl:=Option.some.inj H
  go_enter Tryd.func6,Tryd.ntmps6
  go_wp2_with (first|((with_reducible refine gate_callee (f:=16) rfl ?_);refine goesL_ (some 22) rfl rfl Tryd.func16 (by kernel_rfl) rfl #[.slice A0 l0.length c0] rfl (by (try simp only [List.map_toArray,List.map_cons,List.map_nil]);first|done|rfl|(simp only [List.length_drop,List.length_take];rfl)) ?_;(with_reducible refine (laws_big.calls _ _ l0 true _ ?side1 ?side2 A2.out).mono ?_);(case side1 => repeat (first|exact HR0.out|(with_reducible refine Kd.C_alloc ?_ _)|(with_reducible refine Kd.C_drewN ?_ _)|(with_reducible refine Kd.C_drew ?_)));(case side2 => exact HC0.out);rintro e w' ⟨rfl,⟨nd,rfl⟩⟩;refine ⟨_,rfl,?_⟩))
  go_ret
  exact ⟨by first|rfl|(simp [errW_none,errW_some] <;> rfl)|(simp [*,errW_none,errW_some] <;> rfl),by repeat (first|(with_reducible first|exact HB.out|apply below_alloc|apply pw_below_drewN|apply below_drew1)|exact HB.out)⟩
 ·replace c3:=Bool.eq_false_iff.mpr c3
  subst c3
  have H1 : ((spec_DrawVarText.f k l0).bind fun t197 => (if t197 < 0 then (laws_FnNumbers.j0 k l0 t197 true) else (laws_FnNumbers.j0 k l0 t197 (decide (t197 > 1000000000))))) = some r:=by rw [if_neg (show ¬ (false = true) by decide)] at H;exact H
  clear H
  have H:=H1
  clear H1
  replace H:=Option.bind_eq_some_iff.mp H
  obtain ⟨t197,A40,H⟩:=H
  replace H : (if t197 < 0 then (laws_FnNumbers.j0 k l0 t197 true) else (laws_FnNumbers.j0 k l0 t197 (decide (t197 > 1000000000)))) = some r:=H
  have A4:=Aside0.mk A40
  clear A40
  have HC5:=Aside0.mk H
  clear H
  go_enter Tryd.func6,Tryd.ntmps6
  go_upto_region 4 with (first|((with_reducible refine gate_callee (f:=16) rfl ?_);refine goesL_ (some 22) rfl rfl Tryd.func16 (by kernel_rfl) rfl #[.slice A0 l0.length c0] rfl (by (try simp only [List.map_toArray,List.map_cons,List.map_nil]);first|done|rfl|(simp only [List.length_drop,List.length_take];rfl)) ?_;(with_reducible refine (laws_big.calls _ _ l0 false _ ?side1 ?side2 A2.out).mono ?_);(case side1 => repeat (first|exact HR0.out|(with_reducible refine Kd.C_alloc ?_ _)|(with_reducible refine Kd.C_drewN ?_ _)|(with_reducible refine Kd.C_drew ?_)));(case side2 => exact HC0.out);rintro e w' ⟨rfl,⟨nd,rfl⟩⟩;refine ⟨_,rfl,?_⟩)|((with_reducible refine gate_callee (f:=17) rfl ?_);refine goesL_ (some 24) rfl rfl Tryd.func17 (by kernel_rfl) rfl #[.slice A0 l0.length c0] rfl (by (try simp only [List.map_toArray,List.map_cons,List.map_nil]);first|done|rfl|(simp only [List.length_drop,List.length_take];rfl)) ?_;(with_reducible refine (spec_DrawVarText.calls k _ _ l0 t197 _ ?side1 ?side2 A4.out).mono ?_);(case side1 => repeat (first|exact HR0.out|(with_reducible refine Kd.C_alloc ?_ _)|(with_reducible refine Kd.C_drewN ?_ _)|(with_reducible refine Kd.C_drew ?_)));(case side2 => exact HC0.out);rintro e w6 ⟨rfl,hb⟩;refine ⟨_,rfl,?_⟩;have n0_:=Aside0.mk (below_step (by repeat (first|(with_reducible first|exact HB.out|apply below_alloc|apply pw_below_drewN|apply below_drew1)|exact HB.out)) hb);clear HB;have HB:=n0_;clear n0_;(try clear hb)))
  (try simp only [Act.put,List.setIfInBounds_toArray,List.set_cons_zero,List.set_cons_succ])
  go_cut [30] (fun v30 wc => ∃ (kq : Nat) (x30_4 : Bool),v30 = .bool x30_4 ∧ Aside0 (laws_FnNumbers.j0 kq l0 t197 x30_4 = some r) ∧ Aside0 (kq ≤ k) ∧ Aside0 (Below w.heap.size w wc))
  case first =>
   have H:=HC5.out
   clear HC5
   by_cases c7 : t197 < 0
   ·rw [if_pos c7] at H
    have c7b0 : decide (t197 < 0) = true:=decide_eq_true c7
    clear c7
    (first|rw [c7b0]|(simp only [i64_w,i32_w];rw [c7b0])|skip)
    have H':=Aside0.mk H
    clear H
    go_wp2
    go_meet
    case rel => exact ⟨_,(true),(by first|rfl|(simp;done)|(simp [*];done)),H',⟨by first|omega|exact Nat.le_refl _⟩,⟨by repeat (first|(with_reducible first|exact HB.out|apply below_alloc|apply pw_below_drewN|apply below_drew1)|exact HB.out)⟩⟩
   ·rw [if_neg c7] at H
    have c7b0 : decide (t197 < 0) = false:=decide_eq_false c7
    clear c7
    (first|rw [c7b0]|(simp only [i64_w,i32_w];rw [c7b0])|skip)
    have H':=Aside0.mk H
    clear H
    go_wp2
    go_meet
    case rel => exact ⟨_,(decide (t197 > 1000000000)),(by first|rfl|(simp;done)|(simp [*];done)),H',⟨by first|omega|exact Nat.le_refl _⟩,⟨by repeat (first|(with_reducible first|exact HB.out|apply below_alloc|apply pw_below_drewN|apply below_drew1)|exact HB.out)⟩⟩
  case rest =>
   clear HC5
   try clear c3
   try clear c7
   try clear c7b0
   obtain ⟨kq,x30_4,rfl,HA,HJ4,HB⟩:=hcut
   cases kq with
   | zero => exact absurd HA.out (by simp [laws_FnNumbers.j0])
   | succ kj4 =>
    have H:=HA.out
    clear HA
    simp only [laws_FnNumbers.j0] at H
    have HC8:=Aside0.mk H
    clear H
    go_upto_if 30 with (fail)
    go_cut [3] (fun v3 wc => ∃ (kq : Nat) (x3_7 : Int),v3 = .int .i64 x3_7 ∧ Aside0 (laws_FnNumbers.j1 kq l0 x3_7 = some r) ∧ Aside0 (kq ≤ kj4) ∧ Aside0 (Below w.heap.size w wc))
    case first =>
     have H:=HC8.out
     clear HC8
     by_cases c9 : x30_4 = true
     ·subst c9
      have H1 : (laws_FnNumbers.j1 kj4 l0 12345) = some r:=by rw [if_pos rfl] at H;exact H
      clear H
      have H:=H1
      clear H1
      have H':=Aside0.mk H
      clear H
      go_wp2
      go_meet
      case rel => exact ⟨_,(12345),(by first|rfl|(simp;done)|(simp [*];done)),H',⟨by have:=HJ4.out;first|omega|exact Nat.le_refl _⟩,⟨by repeat (first|(with_reducible first|exact HB.out|apply below_alloc|apply pw_below_drewN|apply below_drew1)|exact HB.out)⟩⟩
     ·replace c9:=Bool.eq_false_iff.mpr c9
      subst c9
      have H1 : (laws_FnNumbers.j1 kj4 l0 t197) = some r:=by rw [if_neg (show ¬ (false = true) by decide)] at H;exact H
      clear H
      have H:=H1
      clear H1
      have H':=Aside0.mk H
      clear H
      go_wp2
      go_meet
      case rel => exact ⟨_,(t197),(by first|rfl|(simp;done)|(simp [*];done)),H',⟨by have:=HJ4.out;first|omega|exact Nat.le_refl _⟩,⟨by repeat (first|(with_reducible first|exact HB.out|apply below_alloc|apply pw_below_drewN|apply below_drew1)|exact HB.out)⟩⟩
    case rest =>
     clear HC8
     try clear c3
     try clear c7
     try clear c7b0
     try clear c9
     obtain ⟨kq,x3_7,rfl,HA,HJ7,HB⟩:=hcut
     cases kq with
     | zero => exact absurd HA.out (by simp [laws_FnNumbers.j1])
     | succ kj7 =>
      have H:=HA.out
      clear HA
      simp only [laws_FnNumbers.j1] at H
      replace H:=Option.bind_eq_some_iff.mp H
      obtain ⟨⟨t198,t199⟩,A100,H⟩:=H
      replace H : (if 1 + t198.size ≤ 9223372036854775807 then (if ((⟨#[120]⟩ : ByteArray) ++ t198).size + 1 ≤ 9223372036854775807 then ((impl_ReadVar.f kj7 (((⟨#[120]⟩ : ByteArray) ++ t198) ++ (⟨#[121]⟩ : ByteArray)) 1).bind fun bt200 => ((impl_Decimal.f kj7 x3_7).bind fun t203 => ((fk_impl_ReadDecimal.f kj7 t203).bind fun bt204 => ((spec_DrawHex.f kj7 l0).bind fun t206 => (if (t206.size : Int) > 300 then (laws_FnNumbers.j2 kj7 x3_7 t198 t199 bt200.1 bt200.2.1 bt200.2.2 bt204.1 bt204.2 (⟨#[97,98,99]⟩ : ByteArray)) else (laws_FnNumbers.j2 kj7 x3_7 t198 t199 bt200.1 bt200.2.1 bt200.2.2 bt204.1 bt204.2 t206)))))) else (none)) else (none)) = some r:=H
      have A10:=Aside0.mk A100
      clear A100
      by_cases c11 : 1 + t198.size ≤ 9223372036854775807
      rotate_left
      ·rw [if_neg c11] at H
       exact absurd H (by simp)
      rw [if_pos c11] at H
      have c11b0:=eq_true c11
      have c11b1 : decide (1 + t198.size ≤ 9223372036854775807) = true:=decide_eq_true c11
      try have c11b2 : (9223372036854775807 < 1 + t198.size) = False:=eq_false (Nat.not_lt.2 c11)
      by_cases c12 : ((⟨#[120]⟩ : ByteArray) ++ t198).size + 1 ≤ 9223372036854775807
      rotate_left
      ·rw [if_neg c12] at H
       exact absurd H (by simp)
      rw [if_pos c12] at H
      have c12b0:=eq_true c12
      have c12b7 : (1 + t198.size + 1 ≤ 9223372036854775807) = True:=eq_true (by have h_:=c12;rw [ByteArray.size_append] at h_;exact h_)
      have c12b8 : (9223372036854775807 < 1 + t198.size + 1) = False:=eq_false (Nat.not_lt.2 (by have h_:=c12;rw [ByteArray.size_append] at h_;exact h_))
      have c12b9 : decide (1 + t198.size + 1 ≤ 9223372036854775807) = true:=decide_eq_true (by have h_:=c12;rw [ByteArray.size_append] at h_;exact h_)
      have c12b1 : decide (((⟨#[120]⟩ : ByteArray) ++ t198).size + 1 ≤ 9223372036854775807) = true:=decide_eq_true c12
      try have c12b2 : (9223372036854775807 < ((⟨#[120]⟩ : ByteArray) ++ t198).size + 1) = False:=eq_false (Nat.not_lt.2 c12)
      replace H:=Option.bind_eq_some_iff.mp H
      obtain ⟨⟨t200,t201,t202⟩,A130,H⟩:=H
      replace H : ((impl_Decimal.f kj7 x3_7).bind fun t203 => ((fk_impl_ReadDecimal.f kj7 t203).bind fun bt204 => ((spec_DrawHex.f kj7 l0).bind fun t206 => (if (t206.size : Int) > 300 then (laws_FnNumbers.j2 kj7 x3_7 t198 t199 t200 t201 t202 bt204.1 bt204.2 (⟨#[97,98,99]⟩ : ByteArray)) else (laws_FnNumbers.j2 kj7 x3_7 t198 t199 t200 t201 t202 bt204.1 bt204.2 t206))))) = some r:=H
      have A13:=Aside0.mk A130
      clear A130
      replace H:=Option.bind_eq_some_iff.mp H
      obtain ⟨t203,A140,H⟩:=H
      replace H : ((fk_impl_ReadDecimal.f kj7 t203).bind fun bt204 => ((spec_DrawHex.f kj7 l0).bind fun t206 => (if (t206.size : Int) > 300 then (laws_FnNumbers.j2 kj7 x3_7 t198 t199 t200 t201 t202 bt204.1 bt204.2 (⟨#[97,98,99]⟩ : ByteArray)) else (laws_FnNumbers.j2 kj7 x3_7 t198 t199 t200 t201 t202 bt204.1 bt204.2 t206)))) = some r:=H
      have A14:=Aside0.mk A140
      clear A140
      replace H:=Option.bind_eq_some_iff.mp H
      obtain ⟨⟨t204,t205⟩,A150,H⟩:=H
      replace H : ((spec_DrawHex.f kj7 l0).bind fun t206 => (if (t206.size : Int) > 300 then (laws_FnNumbers.j2 kj7 x3_7 t198 t199 t200 t201 t202 t204 t205 (⟨#[97,98,99]⟩ : ByteArray)) else (laws_FnNumbers.j2 kj7 x3_7 t198 t199 t200 t201 t202 t204 t205 t206))) = some r:=H
      have A15:=Aside0.mk A150
      clear A150
      replace H:=Option.bind_eq_some_iff.mp H
      obtain ⟨t206,A160,H⟩:=H
      replace H : (if (t206.size : Int) > 300 then (laws_FnNumbers.j2 kj7 x3_7 t198 t199 t200 t201 t202 t204 t205 (⟨#[97,98,99]⟩ : ByteArray)) else (laws_FnNumbers.j2 kj7 x3_7 t198 t199 t200 t201 t202 t204 t205 t206)) = some r:=H
      have A16:=Aside0.mk A160
      clear A160
      have HC17:=Aside0.mk H
      clear H
      go_upto_if 54 with (first|((with_reducible refine gate_callee (f:=18) rfl ?_);refine goesL_ (some 33) rfl rfl Tryd.func18 (by kernel_rfl) rfl #[.int .i64 x3_7] rfl (by (try simp only [List.map_toArray,List.map_cons,List.map_nil]);first|done|rfl|(simp only [List.length_drop,List.length_take];rfl)) ?_;(with_reducible refine (impl_VarText.calls kj7 x3_7 t198 t199 _ A10.out).mono ?_);rintro e w18 ⟨rfl,hb⟩;refine ⟨_,rfl,?_⟩;have n0_:=Aside0.mk (below_step (by repeat (first|(with_reducible first|exact HB.out|apply below_alloc|apply pw_below_drewN|apply below_drew1)|exact HB.out)) hb);clear HB;have HB:=n0_;clear n0_;(try clear hb))|((with_reducible refine gate_callee (f:=19) rfl ?_);refine goesL_ (some 40) rfl rfl Tryd.func19 (by kernel_rfl) rfl #[.string (((⟨#[120]⟩ : ByteArray) ++ t198) ++ (⟨#[121]⟩ : ByteArray)),.int .i64 1] rfl (by (try simp only [List.map_toArray,List.map_cons,List.map_nil]);first|done|rfl|(simp only [List.length_drop,List.length_take];rfl)) ?_;(with_reducible refine (impl_ReadVar.calls kj7 (((⟨#[120]⟩ : ByteArray) ++ t198) ++ (⟨#[121]⟩ : ByteArray)) 1 t200 t201 t202 _ A13.out).mono ?_);rintro e w19 ⟨rfl,hb⟩;refine ⟨_,rfl,?_⟩;have n0_:=Aside0.mk (below_step (by repeat (first|(with_reducible first|exact HB.out|apply below_alloc|apply pw_below_drewN|apply below_drew1)|exact HB.out)) hb);clear HB;have HB:=n0_;clear n0_;(try clear hb))|((with_reducible refine gate_callee (f:=8) rfl ?_);refine goesL_ (some 46) rfl rfl Tryd.func8 (by kernel_rfl) rfl #[.int .i64 x3_7] rfl (by (try simp only [List.map_toArray,List.map_cons,List.map_nil]);first|done|rfl|(simp only [List.length_drop,List.length_take];rfl)) ?_;(with_reducible refine (impl_Decimal.calls kj7 x3_7 t203 _ (tab_at HTAB.out (by repeat (first|(with_reducible first|exact HB.out|apply below_alloc|apply pw_below_drewN|apply below_drew1)|exact HB.out))) A14.out).mono ?_);rintro e w20 ⟨rfl,hb⟩;refine ⟨_,rfl,?_⟩;have n0_:=Aside0.mk (below_step (by repeat (first|(with_reducible first|exact HB.out|apply below_alloc|apply pw_below_drewN|apply below_drew1)|exact HB.out)) hb);clear HB;have HB:=n0_;clear n0_;(try clear hb))|((with_reducible refine gate_callee (f:=15) rfl ?_);refine goesL_ (some 47) rfl rfl Tryd.func15 (by kernel_rfl) rfl #[.string t203] rfl (by (try simp only [List.map_toArray,List.map_cons,List.map_nil]);first|done|rfl|(simp only [List.length_drop,List.length_take];rfl)) ?_;(with_reducible refine (fk_impl_ReadDecimal.calls kj7 t203 t204 t205 _ (tab_at HTAB.out (by repeat (first|(with_reducible first|exact HB.out|apply below_alloc|apply pw_below_drewN|apply below_drew1)|exact HB.out))) A15.out).mono ?_);rintro e w21 ⟨rfl,hb⟩;refine ⟨_,rfl,?_⟩;have n0_:=Aside0.mk (below_step (by repeat (first|(with_reducible first|exact HB.out|apply below_alloc|apply pw_below_drewN|apply below_drew1)|exact HB.out)) hb);clear HB;have HB:=n0_;clear n0_;(try clear hb))|((with_reducible refine gate_callee (f:=20) rfl ?_);refine goesL_ (some 51) rfl rfl Tryd.func20 (by kernel_rfl) rfl #[.slice A0 l0.length c0] rfl (by (try simp only [List.map_toArray,List.map_cons,List.map_nil]);first|done|rfl|(simp only [List.length_drop,List.length_take];rfl)) ?_;(with_reducible refine (spec_DrawHex.calls kj7 _ _ l0 t206 _ ?side1 ?side2 A16.out).mono ?_);(case side1 => repeat (first|exact (Kd.C_below HR0.out HB.out)|(with_reducible refine Kd.C_alloc ?_ _)|(with_reducible refine Kd.C_drewN ?_ _)|(with_reducible refine Kd.C_drew ?_)));(case side2 => exact HC0.out);rintro e w22 ⟨rfl,hb⟩;refine ⟨_,rfl,?_⟩;have n0_:=Aside0.mk (below_step (by repeat (first|(with_reducible first|exact HB.out|apply below_alloc|apply pw_below_drewN|apply below_drew1)|exact HB.out)) hb);clear HB;have HB:=n0_;clear n0_;(try clear hb)))
      (try simp only [Act.put,List.setIfInBounds_toArray,List.set_cons_zero,List.set_cons_succ])
      go_cut [11] (fun v11 wc => ∃ (kq : Nat) (x11_16 : ByteArray),v11 = .string x11_16 ∧ Aside0 (laws_FnNumbers.j2 kq x3_7 t198 t199 t200 t201 t202 t204 t205 x11_16 = some r) ∧ Aside0 (kq ≤ kj7) ∧ Aside0 (Below w.heap.size w wc))
      case first =>
       have H:=HC17.out
       clear HC17
       by_cases c23 : (t206.size : Int) > 300
       ·rw [if_pos c23] at H
        have c23b0 : decide (300 < (t206.size : Int)) = true:=decide_eq_true c23
        have c23b1 : decide (300 < t206.size) = true:=decide_eq_true (by omega)
        clear c23
        (first|rw [c23b0]|(simp only [i64_w,i32_w];rw [c23b0])|skip)
        have H':=Aside0.mk H
        clear H
        go_wp2
        go_meet
        case rel => exact ⟨_,((⟨#[97,98,99]⟩ : ByteArray)),(by first|rfl|(simp;done)|(simp [*];done)),H',⟨by have:=HJ4.out;have:=HJ7.out;first|omega|exact Nat.le_refl _⟩,⟨by repeat (first|(with_reducible first|exact HB.out|apply below_alloc|apply pw_below_drewN|apply below_drew1)|exact HB.out)⟩⟩
       ·rw [if_neg c23] at H
        have c23b0 : decide (300 < (t206.size : Int)) = false:=decide_eq_false c23
        have c23b1 : decide (300 < t206.size) = false:=decide_eq_false (by omega)
        clear c23
        (first|rw [c23b0]|(simp only [i64_w,i32_w];rw [c23b0])|skip)
        have H':=Aside0.mk H
        clear H
        go_wp2
        go_meet
        case rel => exact ⟨_,(t206),(by first|rfl|(simp;done)|(simp [*];done)),H',⟨by have:=HJ4.out;have:=HJ7.out;first|omega|exact Nat.le_refl _⟩,⟨by repeat (first|(with_reducible first|exact HB.out|apply below_alloc|apply pw_below_drewN|apply below_drew1)|exact HB.out)⟩⟩
      case rest =>
       clear HC17
       try clear c3
       try clear c7
       try clear c7b0
       try clear c9
       try clear c11
       try clear c11b0
       try clear c11b1
       try clear c11b2
       try clear c12
       try clear c12b0
       try clear c12b1
       try clear c12b2
       try clear c23
       try clear c23b0
       try clear c23b1
       obtain ⟨kq,x11_16,rfl,HA,HJ16,HB⟩:=hcut
       cases kq with
       | zero => exact absurd HA.out (by simp [laws_FnNumbers.j2])
       | succ kj16 =>
        have H:=HA.out
        clear HA
        simp only [laws_FnNumbers.j2] at H
        replace H:=Option.bind_eq_some_iff.mp H
        obtain ⟨⟨t207,t208⟩,A240,H⟩:=H
        replace H : ((impl_ReadShort.f kj16 t207 0).bind fun bt209 => ((fk_impl_Hex.f kj16 x11_16).bind fun bt212 => ((fk_impl_Unhex.f kj16 bt212.1).bind fun bt214 => (if t199 = true then (if t202 = true then (if t205 = true then (if t208 = true then (if bt209.2.2 = true then (if bt212.2 = true then (if bt214.2 = true then (if t200 = x3_7 then (if t204 = x3_7 then (if t201 = (wrap64 ((t198.size : Int) + 1)) then (if bt209.1.toList = x11_16.toList then (if bt209.2.1 = (t207.size : Int) then (some (bt214.1.toList == x11_16.toList)) else (some false)) else (some false)) else (some false)) else (some false)) else (some false)) else (some false)) else (some false)) else (some false)) else (some false)) else (some false)) else (some false)) else (some false))))) = some r:=H
        have A24:=Aside0.mk A240
        clear A240
        replace H:=Option.bind_eq_some_iff.mp H
        obtain ⟨⟨t209,t210,t211⟩,A250,H⟩:=H
        replace H : ((fk_impl_Hex.f kj16 x11_16).bind fun bt212 => ((fk_impl_Unhex.f kj16 bt212.1).bind fun bt214 => (if t199 = true then (if t202 = true then (if t205 = true then (if t208 = true then (if t211 = true then (if bt212.2 = true then (if bt214.2 = true then (if t200 = x3_7 then (if t204 = x3_7 then (if t201 = (wrap64 ((t198.size : Int) + 1)) then (if t209.toList = x11_16.toList then (if t210 = (t207.size : Int) then (some (bt214.1.toList == x11_16.toList)) else (some false)) else (some false)) else (some false)) else (some false)) else (some false)) else (some false)) else (some false)) else (some false)) else (some false)) else (some false)) else (some false)) else (some false)))) = some r:=H
        have A25:=Aside0.mk A250
        clear A250
        replace H:=Option.bind_eq_some_iff.mp H
        obtain ⟨⟨t212,t213⟩,A260,H⟩:=H
        replace H : ((fk_impl_Unhex.f kj16 t212).bind fun bt214 => (if t199 = true then (if t202 = true then (if t205 = true then (if t208 = true then (if t211 = true then (if t213 = true then (if bt214.2 = true then (if t200 = x3_7 then (if t204 = x3_7 then (if t201 = (wrap64 ((t198.size : Int) + 1)) then (if t209.toList = x11_16.toList then (if t210 = (t207.size : Int) then (some (bt214.1.toList == x11_16.toList)) else (some false)) else (some false)) else (some false)) else (some false)) else (some false)) else (some false)) else (some false)) else (some false)) else (some false)) else (some false)) else (some false)) else (some false))) = some r:=H
        have A26:=Aside0.mk A260
        clear A260
        replace H:=Option.bind_eq_some_iff.mp H
        obtain ⟨⟨t214,t215⟩,A270,H⟩:=H
        replace H : (if t199 = true then (if t202 = true then (if t205 = true then (if t208 = true then (if t211 = true then (if t213 = true then (if t215 = true then (if t200 = x3_7 then (if t204 = x3_7 then (if t201 = (wrap64 ((t198.size : Int) + 1)) then (if t209.toList = x11_16.toList then (if t210 = (t207.size : Int) then (some (t214.toList == x11_16.toList)) else (some false)) else (some false)) else (some false)) else (some false)) else (some false)) else (some false)) else (some false)) else (some false)) else (some false)) else (some false)) else (some false)) else (some false)) = some r:=H
        have A27:=Aside0.mk A270
        clear A270
        by_cases c28 : t199 = true
        ·subst c28
         have H1 : (if t202 = true then (if t205 = true then (if t208 = true then (if t211 = true then (if t213 = true then (if t215 = true then (if t200 = x3_7 then (if t204 = x3_7 then (if t201 = (wrap64 ((t198.size : Int) + 1)) then (if t209.toList = x11_16.toList then (if t210 = (t207.size : Int) then (some (t214.toList == x11_16.toList)) else (some false)) else (some false)) else (some false)) else (some false)) else (some false)) else (some false)) else (some false)) else (some false)) else (some false)) else (some false)) else (some false)) = some r:=by rw [if_pos rfl] at H;exact H
         clear H
         have H:=H1
         clear H1
         by_cases c29 : t202 = true
         ·subst c29
          have H1 : (if t205 = true then (if t208 = true then (if t211 = true then (if t213 = true then (if t215 = true then (if t200 = x3_7 then (if t204 = x3_7 then (if t201 = (wrap64 ((t198.size : Int) + 1)) then (if t209.toList = x11_16.toList then (if t210 = (t207.size : Int) then (some (t214.toList == x11_16.toList)) else (some false)) else (some false)) else (some false)) else (some false)) else (some false)) else (some false)) else (some false)) else (some false)) else (some false)) else (some false)) = some r:=by rw [if_pos rfl] at H;exact H
          clear H
          have H:=H1
          clear H1
          by_cases c30 : t205 = true
          ·subst c30
           have H1 : (if t208 = true then (if t211 = true then (if t213 = true then (if t215 = true then (if t200 = x3_7 then (if t204 = x3_7 then (if t201 = (wrap64 ((t198.size : Int) + 1)) then (if t209.toList = x11_16.toList then (if t210 = (t207.size : Int) then (some (t214.toList == x11_16.toList)) else (some false)) else (some false)) else (some false)) else (some false)) else (some false)) else (some false)) else (some false)) else (some false)) else (some false)) = some r:=by rw [if_pos rfl] at H;exact H
           clear H
           have H:=H1
           clear H1
           by_cases c31 : t208 = true
           ·subst c31
            have H1 : (if t211 = true then (if t213 = true then (if t215 = true then (if t200 = x3_7 then (if t204 = x3_7 then (if t201 = (wrap64 ((t198.size : Int) + 1)) then (if t209.toList = x11_16.toList then (if t210 = (t207.size : Int) then (some (t214.toList == x11_16.toList)) else (some false)) else (some false)) else (some false)) else (some false)) else (some false)) else (some false)) else (some false)) else (some false)) = some r:=by rw [if_pos rfl] at H;exact H
            clear H
            have H:=H1
            clear H1
            by_cases c32 : t211 = true
            ·subst c32
             have H1 : (if t213 = true then (if t215 = true then (if t200 = x3_7 then (if t204 = x3_7 then (if t201 = (wrap64 ((t198.size : Int) + 1)) then (if t209.toList = x11_16.toList then (if t210 = (t207.size : Int) then (some (t214.toList == x11_16.toList)) else (some false)) else (some false)) else (some false)) else (some false)) else (some false)) else (some false)) else (some false)) = some r:=by rw [if_pos rfl] at H;exact H
             clear H
             have H:=H1
             clear H1
             by_cases c33 : t213 = true
             ·subst c33
              have H1 : (if t215 = true then (if t200 = x3_7 then (if t204 = x3_7 then (if t201 = (wrap64 ((t198.size : Int) + 1)) then (if t209.toList = x11_16.toList then (if t210 = (t207.size : Int) then (some (t214.toList == x11_16.toList)) else (some false)) else (some false)) else (some false)) else (some false)) else (some false)) else (some false)) = some r:=by rw [if_pos rfl] at H;exact H
              clear H
              have H:=H1
              clear H1
              by_cases c34 : t215 = true
              ·subst c34
               have H1 : (if t200 = x3_7 then (if t204 = x3_7 then (if t201 = (wrap64 ((t198.size : Int) + 1)) then (if t209.toList = x11_16.toList then (if t210 = (t207.size : Int) then (some (t214.toList == x11_16.toList)) else (some false)) else (some false)) else (some false)) else (some false)) else (some false)) = some r:=by rw [if_pos rfl] at H;exact H
               clear H
               have H:=H1
               clear H1
               by_cases c35 : t200 = x3_7
               ·rw [if_pos c35] at H
                have c35b0 : (t200 == x3_7) = true:=beq_iff_eq.mpr c35
                have c35b1 : (t200 != x3_7) = false:=bne_eq_false_iff_eq.mpr c35
                clear c35
                by_cases c36 : t204 = x3_7
                ·rw [if_pos c36] at H
                 have c36b0 : (t204 == x3_7) = true:=beq_iff_eq.mpr c36
                 have c36b1 : (t204 != x3_7) = false:=bne_eq_false_iff_eq.mpr c36
                 clear c36
                 by_cases c37 : t201 = (wrap64 ((t198.size : Int) + 1))
                 ·rw [if_pos c37] at H
                  have c37b0 : (t201 == (wrap64 ((t198.size : Int) + 1))) = true:=beq_iff_eq.mpr c37
                  have c37b1 : (t201 != (wrap64 ((t198.size : Int) + 1))) = false:=bne_eq_false_iff_eq.mpr c37
                  clear c37
                  by_cases c38 : t209.toList = x11_16.toList
                  ·rw [if_pos c38] at H
                   have c38b0 : (t209.toList == x11_16.toList) = true:=beq_iff_eq.mpr c38
                   have c38b1 : (t209.toList != x11_16.toList) = false:=bne_eq_false_iff_eq.mpr c38
                   clear c38
                   by_cases c39 : t210 = (t207.size : Int)
                   ·rw [if_pos c39] at H
                    have c39b0 : (t210 == (t207.size : Int)) = true:=beq_iff_eq.mpr c39
                    have c39b1 : (t210 != (t207.size : Int)) = false:=bne_eq_false_iff_eq.mpr c39
                    clear c39
                    obtain rfl:=Option.some.inj H
                    go_wp2_with (first|((with_reducible refine gate_callee (f:=21) rfl ?_);refine goesL_ (some 57) rfl rfl Tryd.func21 (by kernel_rfl) rfl #[.string x11_16] rfl (by (try simp only [List.map_toArray,List.map_cons,List.map_nil]);first|done|rfl|(simp only [List.length_drop,List.length_take];rfl)) ?_;(with_reducible refine (impl_ShortText.calls kj16 x11_16 t207 true _ A24.out).mono ?_);rintro e w40 ⟨rfl,hb⟩;refine ⟨_,rfl,?_⟩;have n0_:=Aside0.mk (below_step (by repeat (first|(with_reducible first|exact HB.out|apply below_alloc|apply pw_below_drewN|apply below_drew1)|exact HB.out)) hb);clear HB;have HB:=n0_;clear n0_;(try clear hb))|((with_reducible refine gate_callee (f:=22) rfl ?_);refine goesL_ (some 62) rfl rfl Tryd.func22 (by kernel_rfl) rfl #[.string t207,.int .i64 0] rfl (by (try simp only [List.map_toArray,List.map_cons,List.map_nil]);first|done|rfl|(simp only [List.length_drop,List.length_take];rfl)) ?_;(with_reducible refine (impl_ReadShort.calls kj16 t207 0 t209 t210 true _ A25.out).mono ?_);rintro e w41 ⟨rfl,hb⟩;refine ⟨_,rfl,?_⟩;have n0_:=Aside0.mk (below_step (by repeat (first|(with_reducible first|exact HB.out|apply below_alloc|apply pw_below_drewN|apply below_drew1)|exact HB.out)) hb);clear HB;have HB:=n0_;clear n0_;(try clear hb))|((with_reducible refine gate_callee (f:=23) rfl ?_);refine goesL_ (some 68) rfl rfl Tryd.func23 (by kernel_rfl) rfl #[.string x11_16] rfl (by (try simp only [List.map_toArray,List.map_cons,List.map_nil]);first|done|rfl|(simp only [List.length_drop,List.length_take];rfl)) ?_;(with_reducible refine (fk_impl_Hex.calls kj16 x11_16 t212 true _ A26.out).mono ?_);rintro e w42 ⟨rfl,hb⟩;refine ⟨_,rfl,?_⟩;have n0_:=Aside0.mk (below_step (by repeat (first|(with_reducible first|exact HB.out|apply below_alloc|apply pw_below_drewN|apply below_drew1)|exact HB.out)) hb);clear HB;have HB:=n0_;clear n0_;(try clear hb))|((with_reducible refine gate_callee (f:=24) rfl ?_);refine goesL_ (some 73) rfl rfl Tryd.func24 (by kernel_rfl) rfl #[.string t212] rfl (by (try simp only [List.map_toArray,List.map_cons,List.map_nil]);first|done|rfl|(simp only [List.length_drop,List.length_take];rfl)) ?_;(with_reducible refine (fk_impl_Unhex.calls kj16 t212 t214 true _ A27.out).mono ?_);rintro e w43 ⟨rfl,hb⟩;refine ⟨_,rfl,?_⟩;have n0_:=Aside0.mk (below_step (by repeat (first|(with_reducible first|exact HB.out|apply below_alloc|apply pw_below_drewN|apply below_drew1)|exact HB.out)) hb);clear HB;have HB:=n0_;clear n0_;(try clear hb)))
                    go_ret
                    exact ⟨by first|rfl|(simp [errW_none,errW_some] <;> rfl)|(simp [*,errW_none,errW_some] <;> rfl),by repeat (first|(with_reducible first|exact HB.out|apply below_alloc|apply pw_below_drewN|apply below_drew1)|exact HB.out)⟩
                   ·rw [if_neg c39] at H
                    have c39b0 : (t210 == (t207.size : Int)) = false:=beq_eq_false_iff_ne.mpr c39
                    have c39b1 : (t210 != (t207.size : Int)) = true:=bne_iff_ne.mpr c39
                    obtain rfl:=Option.some.inj H
                    go_wp2_with (first|((with_reducible refine gate_callee (f:=21) rfl ?_);refine goesL_ (some 57) rfl rfl Tryd.func21 (by kernel_rfl) rfl #[.string x11_16] rfl (by (try simp only [List.map_toArray,List.map_cons,List.map_nil]);first|done|rfl|(simp only [List.length_drop,List.length_take];rfl)) ?_;(with_reducible refine (impl_ShortText.calls kj16 x11_16 t207 true _ A24.out).mono ?_);rintro e w44 ⟨rfl,hb⟩;refine ⟨_,rfl,?_⟩;have n0_:=Aside0.mk (below_step (by repeat (first|(with_reducible first|exact HB.out|apply below_alloc|apply pw_below_drewN|apply below_drew1)|exact HB.out)) hb);clear HB;have HB:=n0_;clear n0_;(try clear hb))|((with_reducible refine gate_callee (f:=22) rfl ?_);refine goesL_ (some 62) rfl rfl Tryd.func22 (by kernel_rfl) rfl #[.string t207,.int .i64 0] rfl (by (try simp only [List.map_toArray,List.map_cons,List.map_nil]);first|done|rfl|(simp only [List.length_drop,List.length_take];rfl)) ?_;(with_reducible refine (impl_ReadShort.calls kj16 t207 0 t209 t210 true _ A25.out).mono ?_);rintro e w45 ⟨rfl,hb⟩;refine ⟨_,rfl,?_⟩;have n0_:=Aside0.mk (below_step (by repeat (first|(with_reducible first|exact HB.out|apply below_alloc|apply pw_below_drewN|apply below_drew1)|exact HB.out)) hb);clear HB;have HB:=n0_;clear n0_;(try clear hb))|((with_reducible refine gate_callee (f:=23) rfl ?_);refine goesL_ (some 68) rfl rfl Tryd.func23 (by kernel_rfl) rfl #[.string x11_16] rfl (by (try simp only [List.map_toArray,List.map_cons,List.map_nil]);first|done|rfl|(simp only [List.length_drop,List.length_take];rfl)) ?_;(with_reducible refine (fk_impl_Hex.calls kj16 x11_16 t212 true _ A26.out).mono ?_);rintro e w46 ⟨rfl,hb⟩;refine ⟨_,rfl,?_⟩;have n0_:=Aside0.mk (below_step (by repeat (first|(with_reducible first|exact HB.out|apply below_alloc|apply pw_below_drewN|apply below_drew1)|exact HB.out)) hb);clear HB;have HB:=n0_;clear n0_;(try clear hb))|((with_reducible refine gate_callee (f:=24) rfl ?_);refine goesL_ (some 73) rfl rfl Tryd.func24 (by kernel_rfl) rfl #[.string t212] rfl (by (try simp only [List.map_toArray,List.map_cons,List.map_nil]);first|done|rfl|(simp only [List.length_drop,List.length_take];rfl)) ?_;(with_reducible refine (fk_impl_Unhex.calls kj16 t212 t214 true _ A27.out).mono ?_);rintro e w47 ⟨rfl,hb⟩;refine ⟨_,rfl,?_⟩;have n0_:=Aside0.mk (below_step (by repeat (first|(with_reducible first|exact HB.out|apply below_alloc|apply pw_below_drewN|apply below_drew1)|exact HB.out)) hb);clear HB;have HB:=n0_;clear n0_;(try clear hb)))
                    go_ret
                    exact ⟨by first|rfl|(simp [errW_none,errW_some] <;> rfl)|(simp [*,errW_none,errW_some] <;> rfl),by repeat (first|(with_reducible first|exact HB.out|apply below_alloc|apply pw_below_drewN|apply below_drew1)|exact HB.out)⟩
                  ·rw [if_neg c38] at H
                   have c38b0 : (t209.toList == x11_16.toList) = false:=beq_eq_false_iff_ne.mpr c38
                   have c38b1 : (t209.toList != x11_16.toList) = true:=bne_iff_ne.mpr c38
                   obtain rfl:=Option.some.inj H
                   go_wp2_with (first|((with_reducible refine gate_callee (f:=21) rfl ?_);refine goesL_ (some 57) rfl rfl Tryd.func21 (by kernel_rfl) rfl #[.string x11_16] rfl (by (try simp only [List.map_toArray,List.map_cons,List.map_nil]);first|done|rfl|(simp only [List.length_drop,List.length_take];rfl)) ?_;(with_reducible refine (impl_ShortText.calls kj16 x11_16 t207 true _ A24.out).mono ?_);rintro e w48 ⟨rfl,hb⟩;refine ⟨_,rfl,?_⟩;have n0_:=Aside0.mk (below_step (by repeat (first|(with_reducible first|exact HB.out|apply below_alloc|apply pw_below_drewN|apply below_drew1)|exact HB.out)) hb);clear HB;have HB:=n0_;clear n0_;(try clear hb))|((with_reducible refine gate_callee (f:=22) rfl ?_);refine goesL_ (some 62) rfl rfl Tryd.func22 (by kernel_rfl) rfl #[.string t207,.int .i64 0] rfl (by (try simp only [List.map_toArray,List.map_cons,List.map_nil]);first|done|rfl|(simp only [List.length_drop,List.length_take];rfl)) ?_;(with_reducible refine (impl_ReadShort.calls kj16 t207 0 t209 t210 true _ A25.out).mono ?_);rintro e w49 ⟨rfl,hb⟩;refine ⟨_,rfl,?_⟩;have n0_:=Aside0.mk (below_step (by repeat (first|(with_reducible first|exact HB.out|apply below_alloc|apply pw_below_drewN|apply below_drew1)|exact HB.out)) hb);clear HB;have HB:=n0_;clear n0_;(try clear hb))|((with_reducible refine gate_callee (f:=23) rfl ?_);refine goesL_ (some 68) rfl rfl Tryd.func23 (by kernel_rfl) rfl #[.string x11_16] rfl (by (try simp only [List.map_toArray,List.map_cons,List.map_nil]);first|done|rfl|(simp only [List.length_drop,List.length_take];rfl)) ?_;(with_reducible refine (fk_impl_Hex.calls kj16 x11_16 t212 true _ A26.out).mono ?_);rintro e w50 ⟨rfl,hb⟩;refine ⟨_,rfl,?_⟩;have n0_:=Aside0.mk (below_step (by repeat (first|(with_reducible first|exact HB.out|apply below_alloc|apply pw_below_drewN|apply below_drew1)|exact HB.out)) hb);clear HB;have HB:=n0_;clear n0_;(try clear hb))|((with_reducible refine gate_callee (f:=24) rfl ?_);refine goesL_ (some 73) rfl rfl Tryd.func24 (by kernel_rfl) rfl #[.string t212] rfl (by (try simp only [List.map_toArray,List.map_cons,List.map_nil]);first|done|rfl|(simp only [List.length_drop,List.length_take];rfl)) ?_;(with_reducible refine (fk_impl_Unhex.calls kj16 t212 t214 true _ A27.out).mono ?_);rintro e w51 ⟨rfl,hb⟩;refine ⟨_,rfl,?_⟩;have n0_:=Aside0.mk (below_step (by repeat (first|(with_reducible first|exact HB.out|apply below_alloc|apply pw_below_drewN|apply below_drew1)|exact HB.out)) hb);clear HB;have HB:=n0_;clear n0_;(try clear hb)))
                   go_ret
                   exact ⟨by first|rfl|(simp [errW_none,errW_some] <;> rfl)|(simp [*,errW_none,errW_some] <;> rfl),by repeat (first|(with_reducible first|exact HB.out|apply below_alloc|apply pw_below_drewN|apply below_drew1)|exact HB.out)⟩
                 ·rw [if_neg c37] at H
                  have c37b0 : (t201 == (wrap64 ((t198.size : Int) + 1))) = false:=beq_eq_false_iff_ne.mpr c37
                  have c37b1 : (t201 != (wrap64 ((t198.size : Int) + 1))) = true:=bne_iff_ne.mpr c37
                  obtain rfl:=Option.some.inj H
                  go_wp2_with (first|((with_reducible refine gate_callee (f:=21) rfl ?_);refine goesL_ (some 57) rfl rfl Tryd.func21 (by kernel_rfl) rfl #[.string x11_16] rfl (by (try simp only [List.map_toArray,List.map_cons,List.map_nil]);first|done|rfl|(simp only [List.length_drop,List.length_take];rfl)) ?_;(with_reducible refine (impl_ShortText.calls kj16 x11_16 t207 true _ A24.out).mono ?_);rintro e w52 ⟨rfl,hb⟩;refine ⟨_,rfl,?_⟩;have n0_:=Aside0.mk (below_step (by repeat (first|(with_reducible first|exact HB.out|apply below_alloc|apply pw_below_drewN|apply below_drew1)|exact HB.out)) hb);clear HB;have HB:=n0_;clear n0_;(try clear hb))|((with_reducible refine gate_callee (f:=22) rfl ?_);refine goesL_ (some 62) rfl rfl Tryd.func22 (by kernel_rfl) rfl #[.string t207,.int .i64 0] rfl (by (try simp only [List.map_toArray,List.map_cons,List.map_nil]);first|done|rfl|(simp only [List.length_drop,List.length_take];rfl)) ?_;(with_reducible refine (impl_ReadShort.calls kj16 t207 0 t209 t210 true _ A25.out).mono ?_);rintro e w53 ⟨rfl,hb⟩;refine ⟨_,rfl,?_⟩;have n0_:=Aside0.mk (below_step (by repeat (first|(with_reducible first|exact HB.out|apply below_alloc|apply pw_below_drewN|apply below_drew1)|exact HB.out)) hb);clear HB;have HB:=n0_;clear n0_;(try clear hb))|((with_reducible refine gate_callee (f:=23) rfl ?_);refine goesL_ (some 68) rfl rfl Tryd.func23 (by kernel_rfl) rfl #[.string x11_16] rfl (by (try simp only [List.map_toArray,List.map_cons,List.map_nil]);first|done|rfl|(simp only [List.length_drop,List.length_take];rfl)) ?_;(with_reducible refine (fk_impl_Hex.calls kj16 x11_16 t212 true _ A26.out).mono ?_);rintro e w54 ⟨rfl,hb⟩;refine ⟨_,rfl,?_⟩;have n0_:=Aside0.mk (below_step (by repeat (first|(with_reducible first|exact HB.out|apply below_alloc|apply pw_below_drewN|apply below_drew1)|exact HB.out)) hb);clear HB;have HB:=n0_;clear n0_;(try clear hb))|((with_reducible refine gate_callee (f:=24) rfl ?_);refine goesL_ (some 73) rfl rfl Tryd.func24 (by kernel_rfl) rfl #[.string t212] rfl (by (try simp only [List.map_toArray,List.map_cons,List.map_nil]);first|done|rfl|(simp only [List.length_drop,List.length_take];rfl)) ?_;(with_reducible refine (fk_impl_Unhex.calls kj16 t212 t214 true _ A27.out).mono ?_);rintro e w55 ⟨rfl,hb⟩;refine ⟨_,rfl,?_⟩;have n0_:=Aside0.mk (below_step (by repeat (first|(with_reducible first|exact HB.out|apply below_alloc|apply pw_below_drewN|apply below_drew1)|exact HB.out)) hb);clear HB;have HB:=n0_;clear n0_;(try clear hb)))
                  go_ret
                  exact ⟨by first|rfl|(simp [errW_none,errW_some] <;> rfl)|(simp [*,errW_none,errW_some] <;> rfl),by repeat (first|(with_reducible first|exact HB.out|apply below_alloc|apply pw_below_drewN|apply below_drew1)|exact HB.out)⟩
                ·rw [if_neg c36] at H
                 have c36b0 : (t204 == x3_7) = false:=beq_eq_false_iff_ne.mpr c36
                 have c36b1 : (t204 != x3_7) = true:=bne_iff_ne.mpr c36
                 obtain rfl:=Option.some.inj H
                 go_wp2_with (first|((with_reducible refine gate_callee (f:=21) rfl ?_);refine goesL_ (some 57) rfl rfl Tryd.func21 (by kernel_rfl) rfl #[.string x11_16] rfl (by (try simp only [List.map_toArray,List.map_cons,List.map_nil]);first|done|rfl|(simp only [List.length_drop,List.length_take];rfl)) ?_;(with_reducible refine (impl_ShortText.calls kj16 x11_16 t207 true _ A24.out).mono ?_);rintro e w56 ⟨rfl,hb⟩;refine ⟨_,rfl,?_⟩;have n0_:=Aside0.mk (below_step (by repeat (first|(with_reducible first|exact HB.out|apply below_alloc|apply pw_below_drewN|apply below_drew1)|exact HB.out)) hb);clear HB;have HB:=n0_;clear n0_;(try clear hb))|((with_reducible refine gate_callee (f:=22) rfl ?_);refine goesL_ (some 62) rfl rfl Tryd.func22 (by kernel_rfl) rfl #[.string t207,.int .i64 0] rfl (by (try simp only [List.map_toArray,List.map_cons,List.map_nil]);first|done|rfl|(simp only [List.length_drop,List.length_take];rfl)) ?_;(with_reducible refine (impl_ReadShort.calls kj16 t207 0 t209 t210 true _ A25.out).mono ?_);rintro e w57 ⟨rfl,hb⟩;refine ⟨_,rfl,?_⟩;have n0_:=Aside0.mk (below_step (by repeat (first|(with_reducible first|exact HB.out|apply below_alloc|apply pw_below_drewN|apply below_drew1)|exact HB.out)) hb);clear HB;have HB:=n0_;clear n0_;(try clear hb))|((with_reducible refine gate_callee (f:=23) rfl ?_);refine goesL_ (some 68) rfl rfl Tryd.func23 (by kernel_rfl) rfl #[.string x11_16] rfl (by (try simp only [List.map_toArray,List.map_cons,List.map_nil]);first|done|rfl|(simp only [List.length_drop,List.length_take];rfl)) ?_;(with_reducible refine (fk_impl_Hex.calls kj16 x11_16 t212 true _ A26.out).mono ?_);rintro e w58 ⟨rfl,hb⟩;refine ⟨_,rfl,?_⟩;have n0_:=Aside0.mk (below_step (by repeat (first|(with_reducible first|exact HB.out|apply below_alloc|apply pw_below_drewN|apply below_drew1)|exact HB.out)) hb);clear HB;have HB:=n0_;clear n0_;(try clear hb))|((with_reducible refine gate_callee (f:=24) rfl ?_);refine goesL_ (some 73) rfl rfl Tryd.func24 (by kernel_rfl) rfl #[.string t212] rfl (by (try simp only [List.map_toArray,List.map_cons,List.map_nil]);first|done|rfl|(simp only [List.length_drop,List.length_take];rfl)) ?_;(with_reducible refine (fk_impl_Unhex.calls kj16 t212 t214 true _ A27.out).mono ?_);rintro e w59 ⟨rfl,hb⟩;refine ⟨_,rfl,?_⟩;have n0_:=Aside0.mk (below_step (by repeat (first|(with_reducible first|exact HB.out|apply below_alloc|apply pw_below_drewN|apply below_drew1)|exact HB.out)) hb);clear HB;have HB:=n0_;clear n0_;(try clear hb)))
                 go_ret
                 exact ⟨by first|rfl|(simp [errW_none,errW_some] <;> rfl)|(simp [*,errW_none,errW_some] <;> rfl),by repeat (first|(with_reducible first|exact HB.out|apply below_alloc|apply pw_below_drewN|apply below_drew1)|exact HB.out)⟩
               ·rw [if_neg c35] at H
                have c35b0 : (t200 == x3_7) = false:=beq_eq_false_iff_ne.mpr c35
                have c35b1 : (t200 != x3_7) = true:=bne_iff_ne.mpr c35
                obtain rfl:=Option.some.inj H
                go_wp2_with (first|((with_reducible refine gate_callee (f:=21) rfl ?_);refine goesL_ (some 57) rfl rfl Tryd.func21 (by kernel_rfl) rfl #[.string x11_16] rfl (by (try simp only [List.map_toArray,List.map_cons,List.map_nil]);first|done|rfl|(simp only [List.length_drop,List.length_take];rfl)) ?_;(with_reducible refine (impl_ShortText.calls kj16 x11_16 t207 true _ A24.out).mono ?_);rintro e w60 ⟨rfl,hb⟩;refine ⟨_,rfl,?_⟩;have n0_:=Aside0.mk (below_step (by repeat (first|(with_reducible first|exact HB.out|apply below_alloc|apply pw_below_drewN|apply below_drew1)|exact HB.out)) hb);clear HB;have HB:=n0_;clear n0_;(try clear hb))|((with_reducible refine gate_callee (f:=22) rfl ?_);refine goesL_ (some 62) rfl rfl Tryd.func22 (by kernel_rfl) rfl #[.string t207,.int .i64 0] rfl (by (try simp only [List.map_toArray,List.map_cons,List.map_nil]);first|done|rfl|(simp only [List.length_drop,List.length_take];rfl)) ?_;(with_reducible refine (impl_ReadShort.calls kj16 t207 0 t209 t210 true _ A25.out).mono ?_);rintro e w61 ⟨rfl,hb⟩;refine ⟨_,rfl,?_⟩;have n0_:=Aside0.mk (below_step (by repeat (first|(with_reducible first|exact HB.out|apply below_alloc|apply pw_below_drewN|apply below_drew1)|exact HB.out)) hb);clear HB;have HB:=n0_;clear n0_;(try clear hb))|((with_reducible refine gate_callee (f:=23) rfl ?_);refine goesL_ (some 68) rfl rfl Tryd.func23 (by kernel_rfl) rfl #[.string x11_16] rfl (by (try simp only [List.map_toArray,List.map_cons,List.map_nil]);first|done|rfl|(simp only [List.length_drop,List.length_take];rfl)) ?_;(with_reducible refine (fk_impl_Hex.calls kj16 x11_16 t212 true _ A26.out).mono ?_);rintro e w62 ⟨rfl,hb⟩;refine ⟨_,rfl,?_⟩;have n0_:=Aside0.mk (below_step (by repeat (first|(with_reducible first|exact HB.out|apply below_alloc|apply pw_below_drewN|apply below_drew1)|exact HB.out)) hb);clear HB;have HB:=n0_;clear n0_;(try clear hb))|((with_reducible refine gate_callee (f:=24) rfl ?_);refine goesL_ (some 73) rfl rfl Tryd.func24 (by kernel_rfl) rfl #[.string t212] rfl (by (try simp only [List.map_toArray,List.map_cons,List.map_nil]);first|done|rfl|(simp only [List.length_drop,List.length_take];rfl)) ?_;(with_reducible refine (fk_impl_Unhex.calls kj16 t212 t214 true _ A27.out).mono ?_);rintro e w63 ⟨rfl,hb⟩;refine ⟨_,rfl,?_⟩;have n0_:=Aside0.mk (below_step (by repeat (first|(with_reducible first|exact HB.out|apply below_alloc|apply pw_below_drewN|apply below_drew1)|exact HB.out)) hb);clear HB;have HB:=n0_;clear n0_;(try clear hb)))
                go_ret
                exact ⟨by first|rfl|(simp [errW_none,errW_some] <;> rfl)|(simp [*,errW_none,errW_some] <;> rfl),by repeat (first|(with_reducible first|exact HB.out|apply below_alloc|apply pw_below_drewN|apply below_drew1)|exact HB.out)⟩
              ·replace c34:=Bool.eq_false_iff.mpr c34
               subst c34
               have H1 : (some false) = some r:=by rw [if_neg (show ¬ (false = true) by decide)] at H;exact H
               clear H
               have H:=H1
               clear H1
               obtain rfl:=Option.some.inj H
               go_wp2_with (first|((with_reducible refine gate_callee (f:=21) rfl ?_);refine goesL_ (some 57) rfl rfl Tryd.func21 (by kernel_rfl) rfl #[.string x11_16] rfl (by (try simp only [List.map_toArray,List.map_cons,List.map_nil]);first|done|rfl|(simp only [List.length_drop,List.length_take];rfl)) ?_;(with_reducible refine (impl_ShortText.calls kj16 x11_16 t207 true _ A24.out).mono ?_);rintro e w64 ⟨rfl,hb⟩;refine ⟨_,rfl,?_⟩;have n0_:=Aside0.mk (below_step (by repeat (first|(with_reducible first|exact HB.out|apply below_alloc|apply pw_below_drewN|apply below_drew1)|exact HB.out)) hb);clear HB;have HB:=n0_;clear n0_;(try clear hb))|((with_reducible refine gate_callee (f:=22) rfl ?_);refine goesL_ (some 62) rfl rfl Tryd.func22 (by kernel_rfl) rfl #[.string t207,.int .i64 0] rfl (by (try simp only [List.map_toArray,List.map_cons,List.map_nil]);first|done|rfl|(simp only [List.length_drop,List.length_take];rfl)) ?_;(with_reducible refine (impl_ReadShort.calls kj16 t207 0 t209 t210 true _ A25.out).mono ?_);rintro e w65 ⟨rfl,hb⟩;refine ⟨_,rfl,?_⟩;have n0_:=Aside0.mk (below_step (by repeat (first|(with_reducible first|exact HB.out|apply below_alloc|apply pw_below_drewN|apply below_drew1)|exact HB.out)) hb);clear HB;have HB:=n0_;clear n0_;(try clear hb))|((with_reducible refine gate_callee (f:=23) rfl ?_);refine goesL_ (some 68) rfl rfl Tryd.func23 (by kernel_rfl) rfl #[.string x11_16] rfl (by (try simp only [List.map_toArray,List.map_cons,List.map_nil]);first|done|rfl|(simp only [List.length_drop,List.length_take];rfl)) ?_;(with_reducible refine (fk_impl_Hex.calls kj16 x11_16 t212 true _ A26.out).mono ?_);rintro e w66 ⟨rfl,hb⟩;refine ⟨_,rfl,?_⟩;have n0_:=Aside0.mk (below_step (by repeat (first|(with_reducible first|exact HB.out|apply below_alloc|apply pw_below_drewN|apply below_drew1)|exact HB.out)) hb);clear HB;have HB:=n0_;clear n0_;(try clear hb))|((with_reducible refine gate_callee (f:=24) rfl ?_);refine goesL_ (some 73) rfl rfl Tryd.func24 (by kernel_rfl) rfl #[.string t212] rfl (by (try simp only [List.map_toArray,List.map_cons,List.map_nil]);first|done|rfl|(simp only [List.length_drop,List.length_take];rfl)) ?_;(with_reducible refine (fk_impl_Unhex.calls kj16 t212 t214 false _ A27.out).mono ?_);rintro e w67 ⟨rfl,hb⟩;refine ⟨_,rfl,?_⟩;have n0_:=Aside0.mk (below_step (by repeat (first|(with_reducible first|exact HB.out|apply below_alloc|apply pw_below_drewN|apply below_drew1)|exact HB.out)) hb);clear HB;have HB:=n0_;clear n0_;(try clear hb)))
               go_ret
               exact ⟨by first|rfl|(simp [errW_none,errW_some] <;> rfl)|(simp [*,errW_none,errW_some] <;> rfl),by repeat (first|(with_reducible first|exact HB.out|apply below_alloc|apply pw_below_drewN|apply below_drew1)|exact HB.out)⟩
             ·replace c33:=Bool.eq_false_iff.mpr c33
              subst c33
              have H1 : (some false) = some r:=by rw [if_neg (show ¬ (false = true) by decide)] at H;exact H
              clear H
              have H:=H1
              clear H1
              obtain rfl:=Option.some.inj H
              go_wp2_with (first|((with_reducible refine gate_callee (f:=21) rfl ?_);refine goesL_ (some 57) rfl rfl Tryd.func21 (by kernel_rfl) rfl #[.string x11_16] rfl (by (try simp only [List.map_toArray,List.map_cons,List.map_nil]);first|done|rfl|(simp only [List.length_drop,List.length_take];rfl)) ?_;(with_reducible refine (impl_ShortText.calls kj16 x11_16 t207 true _ A24.out).mono ?_);rintro e w68 ⟨rfl,hb⟩;refine ⟨_,rfl,?_⟩;have n0_:=Aside0.mk (below_step (by repeat (first|(with_reducible first|exact HB.out|apply below_alloc|apply pw_below_drewN|apply below_drew1)|exact HB.out)) hb);clear HB;have HB:=n0_;clear n0_;(try clear hb))|((with_reducible refine gate_callee (f:=22) rfl ?_);refine goesL_ (some 62) rfl rfl Tryd.func22 (by kernel_rfl) rfl #[.string t207,.int .i64 0] rfl (by (try simp only [List.map_toArray,List.map_cons,List.map_nil]);first|done|rfl|(simp only [List.length_drop,List.length_take];rfl)) ?_;(with_reducible refine (impl_ReadShort.calls kj16 t207 0 t209 t210 true _ A25.out).mono ?_);rintro e w69 ⟨rfl,hb⟩;refine ⟨_,rfl,?_⟩;have n0_:=Aside0.mk (below_step (by repeat (first|(with_reducible first|exact HB.out|apply below_alloc|apply pw_below_drewN|apply below_drew1)|exact HB.out)) hb);clear HB;have HB:=n0_;clear n0_;(try clear hb))|((with_reducible refine gate_callee (f:=23) rfl ?_);refine goesL_ (some 68) rfl rfl Tryd.func23 (by kernel_rfl) rfl #[.string x11_16] rfl (by (try simp only [List.map_toArray,List.map_cons,List.map_nil]);first|done|rfl|(simp only [List.length_drop,List.length_take];rfl)) ?_;(with_reducible refine (fk_impl_Hex.calls kj16 x11_16 t212 false _ A26.out).mono ?_);rintro e w70 ⟨rfl,hb⟩;refine ⟨_,rfl,?_⟩;have n0_:=Aside0.mk (below_step (by repeat (first|(with_reducible first|exact HB.out|apply below_alloc|apply pw_below_drewN|apply below_drew1)|exact HB.out)) hb);clear HB;have HB:=n0_;clear n0_;(try clear hb))|((with_reducible refine gate_callee (f:=24) rfl ?_);refine goesL_ (some 73) rfl rfl Tryd.func24 (by kernel_rfl) rfl #[.string t212] rfl (by (try simp only [List.map_toArray,List.map_cons,List.map_nil]);first|done|rfl|(simp only [List.length_drop,List.length_take];rfl)) ?_;(with_reducible refine (fk_impl_Unhex.calls kj16 t212 t214 t215 _ A27.out).mono ?_);rintro e w71 ⟨rfl,hb⟩;refine ⟨_,rfl,?_⟩;have n0_:=Aside0.mk (below_step (by repeat (first|(with_reducible first|exact HB.out|apply below_alloc|apply pw_below_drewN|apply below_drew1)|exact HB.out)) hb);clear HB;have HB:=n0_;clear n0_;(try clear hb)))
              go_ret
              exact ⟨by first|rfl|(simp [errW_none,errW_some] <;> rfl)|(simp [*,errW_none,errW_some] <;> rfl),by repeat (first|(with_reducible first|exact HB.out|apply below_alloc|apply pw_below_drewN|apply below_drew1)|exact HB.out)⟩
            ·replace c32:=Bool.eq_false_iff.mpr c32
             subst c32
             have H1 : (some false) = some r:=by rw [if_neg (show ¬ (false = true) by decide)] at H;exact H
             clear H
             have H:=H1
             clear H1
             obtain rfl:=Option.some.inj H
             go_wp2_with (first|((with_reducible refine gate_callee (f:=21) rfl ?_);refine goesL_ (some 57) rfl rfl Tryd.func21 (by kernel_rfl) rfl #[.string x11_16] rfl (by (try simp only [List.map_toArray,List.map_cons,List.map_nil]);first|done|rfl|(simp only [List.length_drop,List.length_take];rfl)) ?_;(with_reducible refine (impl_ShortText.calls kj16 x11_16 t207 true _ A24.out).mono ?_);rintro e w72 ⟨rfl,hb⟩;refine ⟨_,rfl,?_⟩;have n0_:=Aside0.mk (below_step (by repeat (first|(with_reducible first|exact HB.out|apply below_alloc|apply pw_below_drewN|apply below_drew1)|exact HB.out)) hb);clear HB;have HB:=n0_;clear n0_;(try clear hb))|((with_reducible refine gate_callee (f:=22) rfl ?_);refine goesL_ (some 62) rfl rfl Tryd.func22 (by kernel_rfl) rfl #[.string t207,.int .i64 0] rfl (by (try simp only [List.map_toArray,List.map_cons,List.map_nil]);first|done|rfl|(simp only [List.length_drop,List.length_take];rfl)) ?_;(with_reducible refine (impl_ReadShort.calls kj16 t207 0 t209 t210 false _ A25.out).mono ?_);rintro e w73 ⟨rfl,hb⟩;refine ⟨_,rfl,?_⟩;have n0_:=Aside0.mk (below_step (by repeat (first|(with_reducible first|exact HB.out|apply below_alloc|apply pw_below_drewN|apply below_drew1)|exact HB.out)) hb);clear HB;have HB:=n0_;clear n0_;(try clear hb))|((with_reducible refine gate_callee (f:=23) rfl ?_);refine goesL_ (some 68) rfl rfl Tryd.func23 (by kernel_rfl) rfl #[.string x11_16] rfl (by (try simp only [List.map_toArray,List.map_cons,List.map_nil]);first|done|rfl|(simp only [List.length_drop,List.length_take];rfl)) ?_;(with_reducible refine (fk_impl_Hex.calls kj16 x11_16 t212 t213 _ A26.out).mono ?_);rintro e w74 ⟨rfl,hb⟩;refine ⟨_,rfl,?_⟩;have n0_:=Aside0.mk (below_step (by repeat (first|(with_reducible first|exact HB.out|apply below_alloc|apply pw_below_drewN|apply below_drew1)|exact HB.out)) hb);clear HB;have HB:=n0_;clear n0_;(try clear hb))|((with_reducible refine gate_callee (f:=24) rfl ?_);refine goesL_ (some 73) rfl rfl Tryd.func24 (by kernel_rfl) rfl #[.string t212] rfl (by (try simp only [List.map_toArray,List.map_cons,List.map_nil]);first|done|rfl|(simp only [List.length_drop,List.length_take];rfl)) ?_;(with_reducible refine (fk_impl_Unhex.calls kj16 t212 t214 t215 _ A27.out).mono ?_);rintro e w75 ⟨rfl,hb⟩;refine ⟨_,rfl,?_⟩;have n0_:=Aside0.mk (below_step (by repeat (first|(with_reducible first|exact HB.out|apply below_alloc|apply pw_below_drewN|apply below_drew1)|exact HB.out)) hb);clear HB;have HB:=n0_;clear n0_;(try clear hb)))
             go_ret
             exact ⟨by first|rfl|(simp [errW_none,errW_some] <;> rfl)|(simp [*,errW_none,errW_some] <;> rfl),by repeat (first|(with_reducible first|exact HB.out|apply below_alloc|apply pw_below_drewN|apply below_drew1)|exact HB.out)⟩
           ·replace c31:=Bool.eq_false_iff.mpr c31
            subst c31
            have H1 : (some false) = some r:=by rw [if_neg (show ¬ (false = true) by decide)] at H;exact H
            clear H
            have H:=H1
            clear H1
            obtain rfl:=Option.some.inj H
            go_wp2_with (first|((with_reducible refine gate_callee (f:=21) rfl ?_);refine goesL_ (some 57) rfl rfl Tryd.func21 (by kernel_rfl) rfl #[.string x11_16] rfl (by (try simp only [List.map_toArray,List.map_cons,List.map_nil]);first|done|rfl|(simp only [List.length_drop,List.length_take];rfl)) ?_;(with_reducible refine (impl_ShortText.calls kj16 x11_16 t207 false _ A24.out).mono ?_);rintro e w76 ⟨rfl,hb⟩;refine ⟨_,rfl,?_⟩;have n0_:=Aside0.mk (below_step (by repeat (first|(with_reducible first|exact HB.out|apply below_alloc|apply pw_below_drewN|apply below_drew1)|exact HB.out)) hb);clear HB;have HB:=n0_;clear n0_;(try clear hb))|((with_reducible refine gate_callee (f:=22) rfl ?_);refine goesL_ (some 62) rfl rfl Tryd.func22 (by kernel_rfl) rfl #[.string t207,.int .i64 0] rfl (by (try simp only [List.map_toArray,List.map_cons,List.map_nil]);first|done|rfl|(simp only [List.length_drop,List.length_take];rfl)) ?_;(with_reducible refine (impl_ReadShort.calls kj16 t207 0 t209 t210 t211 _ A25.out).mono ?_);rintro e w77 ⟨rfl,hb⟩;refine ⟨_,rfl,?_⟩;have n0_:=Aside0.mk (below_step (by repeat (first|(with_reducible first|exact HB.out|apply below_alloc|apply pw_below_drewN|apply below_drew1)|exact HB.out)) hb);clear HB;have HB:=n0_;clear n0_;(try clear hb))|((with_reducible refine gate_callee (f:=23) rfl ?_);refine goesL_ (some 68) rfl rfl Tryd.func23 (by kernel_rfl) rfl #[.string x11_16] rfl (by (try simp only [List.map_toArray,List.map_cons,List.map_nil]);first|done|rfl|(simp only [List.length_drop,List.length_take];rfl)) ?_;(with_reducible refine (fk_impl_Hex.calls kj16 x11_16 t212 t213 _ A26.out).mono ?_);rintro e w78 ⟨rfl,hb⟩;refine ⟨_,rfl,?_⟩;have n0_:=Aside0.mk (below_step (by repeat (first|(with_reducible first|exact HB.out|apply below_alloc|apply pw_below_drewN|apply below_drew1)|exact HB.out)) hb);clear HB;have HB:=n0_;clear n0_;(try clear hb))|((with_reducible refine gate_callee (f:=24) rfl ?_);refine goesL_ (some 73) rfl rfl Tryd.func24 (by kernel_rfl) rfl #[.string t212] rfl (by (try simp only [List.map_toArray,List.map_cons,List.map_nil]);first|done|rfl|(simp only [List.length_drop,List.length_take];rfl)) ?_;(with_reducible refine (fk_impl_Unhex.calls kj16 t212 t214 t215 _ A27.out).mono ?_);rintro e w79 ⟨rfl,hb⟩;refine ⟨_,rfl,?_⟩;have n0_:=Aside0.mk (below_step (by repeat (first|(with_reducible first|exact HB.out|apply below_alloc|apply pw_below_drewN|apply below_drew1)|exact HB.out)) hb);clear HB;have HB:=n0_;clear n0_;(try clear hb)))
            go_ret
            exact ⟨by first|rfl|(simp [errW_none,errW_some] <;> rfl)|(simp [*,errW_none,errW_some] <;> rfl),by repeat (first|(with_reducible first|exact HB.out|apply below_alloc|apply pw_below_drewN|apply below_drew1)|exact HB.out)⟩
          ·replace c30:=Bool.eq_false_iff.mpr c30
           subst c30
           have H1 : (some false) = some r:=by rw [if_neg (show ¬ (false = true) by decide)] at H;exact H
           clear H
           have H:=H1
           clear H1
           obtain rfl:=Option.some.inj H
           go_wp2_with (first|((with_reducible refine gate_callee (f:=21) rfl ?_);refine goesL_ (some 57) rfl rfl Tryd.func21 (by kernel_rfl) rfl #[.string x11_16] rfl (by (try simp only [List.map_toArray,List.map_cons,List.map_nil]);first|done|rfl|(simp only [List.length_drop,List.length_take];rfl)) ?_;(with_reducible refine (impl_ShortText.calls kj16 x11_16 t207 t208 _ A24.out).mono ?_);rintro e w80 ⟨rfl,hb⟩;refine ⟨_,rfl,?_⟩;have n0_:=Aside0.mk (below_step (by repeat (first|(with_reducible first|exact HB.out|apply below_alloc|apply pw_below_drewN|apply below_drew1)|exact HB.out)) hb);clear HB;have HB:=n0_;clear n0_;(try clear hb))|((with_reducible refine gate_callee (f:=22) rfl ?_);refine goesL_ (some 62) rfl rfl Tryd.func22 (by kernel_rfl) rfl #[.string t207,.int .i64 0] rfl (by (try simp only [List.map_toArray,List.map_cons,List.map_nil]);first|done|rfl|(simp only [List.length_drop,List.length_take];rfl)) ?_;(with_reducible refine (impl_ReadShort.calls kj16 t207 0 t209 t210 t211 _ A25.out).mono ?_);rintro e w81 ⟨rfl,hb⟩;refine ⟨_,rfl,?_⟩;have n0_:=Aside0.mk (below_step (by repeat (first|(with_reducible first|exact HB.out|apply below_alloc|apply pw_below_drewN|apply below_drew1)|exact HB.out)) hb);clear HB;have HB:=n0_;clear n0_;(try clear hb))|((with_reducible refine gate_callee (f:=23) rfl ?_);refine goesL_ (some 68) rfl rfl Tryd.func23 (by kernel_rfl) rfl #[.string x11_16] rfl (by (try simp only [List.map_toArray,List.map_cons,List.map_nil]);first|done|rfl|(simp only [List.length_drop,List.length_take];rfl)) ?_;(with_reducible refine (fk_impl_Hex.calls kj16 x11_16 t212 t213 _ A26.out).mono ?_);rintro e w82 ⟨rfl,hb⟩;refine ⟨_,rfl,?_⟩;have n0_:=Aside0.mk (below_step (by repeat (first|(with_reducible first|exact HB.out|apply below_alloc|apply pw_below_drewN|apply below_drew1)|exact HB.out)) hb);clear HB;have HB:=n0_;clear n0_;(try clear hb))|((with_reducible refine gate_callee (f:=24) rfl ?_);refine goesL_ (some 73) rfl rfl Tryd.func24 (by kernel_rfl) rfl #[.string t212] rfl (by (try simp only [List.map_toArray,List.map_cons,List.map_nil]);first|done|rfl|(simp only [List.length_drop,List.length_take];rfl)) ?_;(with_reducible refine (fk_impl_Unhex.calls kj16 t212 t214 t215 _ A27.out).mono ?_);rintro e w83 ⟨rfl,hb⟩;refine ⟨_,rfl,?_⟩;have n0_:=Aside0.mk (below_step (by repeat (first|(with_reducible first|exact HB.out|apply below_alloc|apply pw_below_drewN|apply below_drew1)|exact HB.out)) hb);clear HB;have HB:=n0_;clear n0_;(try clear hb)))
           go_ret
           exact ⟨by first|rfl|(simp [errW_none,errW_some] <;> rfl)|(simp [*,errW_none,errW_some] <;> rfl),by repeat (first|(with_reducible first|exact HB.out|apply below_alloc|apply pw_below_drewN|apply below_drew1)|exact HB.out)⟩
         ·replace c29:=Bool.eq_false_iff.mpr c29
          subst c29
          have H1 : (some false) = some r:=by rw [if_neg (show ¬ (false = true) by decide)] at H;exact H
          clear H
          have H:=H1
          clear H1
          obtain rfl:=Option.some.inj H
          go_wp2_with (first|((with_reducible refine gate_callee (f:=21) rfl ?_);refine goesL_ (some 57) rfl rfl Tryd.func21 (by kernel_rfl) rfl #[.string x11_16] rfl (by (try simp only [List.map_toArray,List.map_cons,List.map_nil]);first|done|rfl|(simp only [List.length_drop,List.length_take];rfl)) ?_;(with_reducible refine (impl_ShortText.calls kj16 x11_16 t207 t208 _ A24.out).mono ?_);rintro e w84 ⟨rfl,hb⟩;refine ⟨_,rfl,?_⟩;have n0_:=Aside0.mk (below_step (by repeat (first|(with_reducible first|exact HB.out|apply below_alloc|apply pw_below_drewN|apply below_drew1)|exact HB.out)) hb);clear HB;have HB:=n0_;clear n0_;(try clear hb))|((with_reducible refine gate_callee (f:=22) rfl ?_);refine goesL_ (some 62) rfl rfl Tryd.func22 (by kernel_rfl) rfl #[.string t207,.int .i64 0] rfl (by (try simp only [List.map_toArray,List.map_cons,List.map_nil]);first|done|rfl|(simp only [List.length_drop,List.length_take];rfl)) ?_;(with_reducible refine (impl_ReadShort.calls kj16 t207 0 t209 t210 t211 _ A25.out).mono ?_);rintro e w85 ⟨rfl,hb⟩;refine ⟨_,rfl,?_⟩;have n0_:=Aside0.mk (below_step (by repeat (first|(with_reducible first|exact HB.out|apply below_alloc|apply pw_below_drewN|apply below_drew1)|exact HB.out)) hb);clear HB;have HB:=n0_;clear n0_;(try clear hb))|((with_reducible refine gate_callee (f:=23) rfl ?_);refine goesL_ (some 68) rfl rfl Tryd.func23 (by kernel_rfl) rfl #[.string x11_16] rfl (by (try simp only [List.map_toArray,List.map_cons,List.map_nil]);first|done|rfl|(simp only [List.length_drop,List.length_take];rfl)) ?_;(with_reducible refine (fk_impl_Hex.calls kj16 x11_16 t212 t213 _ A26.out).mono ?_);rintro e w86 ⟨rfl,hb⟩;refine ⟨_,rfl,?_⟩;have n0_:=Aside0.mk (below_step (by repeat (first|(with_reducible first|exact HB.out|apply below_alloc|apply pw_below_drewN|apply below_drew1)|exact HB.out)) hb);clear HB;have HB:=n0_;clear n0_;(try clear hb))|((with_reducible refine gate_callee (f:=24) rfl ?_);refine goesL_ (some 73) rfl rfl Tryd.func24 (by kernel_rfl) rfl #[.string t212] rfl (by (try simp only [List.map_toArray,List.map_cons,List.map_nil]);first|done|rfl|(simp only [List.length_drop,List.length_take];rfl)) ?_;(with_reducible refine (fk_impl_Unhex.calls kj16 t212 t214 t215 _ A27.out).mono ?_);rintro e w87 ⟨rfl,hb⟩;refine ⟨_,rfl,?_⟩;have n0_:=Aside0.mk (below_step (by repeat (first|(with_reducible first|exact HB.out|apply below_alloc|apply pw_below_drewN|apply below_drew1)|exact HB.out)) hb);clear HB;have HB:=n0_;clear n0_;(try clear hb)))
          go_ret
          exact ⟨by first|rfl|(simp [errW_none,errW_some] <;> rfl)|(simp [*,errW_none,errW_some] <;> rfl),by repeat (first|(with_reducible first|exact HB.out|apply below_alloc|apply pw_below_drewN|apply below_drew1)|exact HB.out)⟩
        ·replace c28:=Bool.eq_false_iff.mpr c28
         subst c28
         have H1 : (some false) = some r:=by rw [if_neg (show ¬ (false = true) by decide)] at H;exact H
         clear H
         have H:=H1
         clear H1
         obtain rfl:=Option.some.inj H
         go_wp2_with (first|((with_reducible refine gate_callee (f:=21) rfl ?_);refine goesL_ (some 57) rfl rfl Tryd.func21 (by kernel_rfl) rfl #[.string x11_16] rfl (by (try simp only [List.map_toArray,List.map_cons,List.map_nil]);first|done|rfl|(simp only [List.length_drop,List.length_take];rfl)) ?_;(with_reducible refine (impl_ShortText.calls kj16 x11_16 t207 t208 _ A24.out).mono ?_);rintro e w88 ⟨rfl,hb⟩;refine ⟨_,rfl,?_⟩;have n0_:=Aside0.mk (below_step (by repeat (first|(with_reducible first|exact HB.out|apply below_alloc|apply pw_below_drewN|apply below_drew1)|exact HB.out)) hb);clear HB;have HB:=n0_;clear n0_;(try clear hb))|((with_reducible refine gate_callee (f:=22) rfl ?_);refine goesL_ (some 62) rfl rfl Tryd.func22 (by kernel_rfl) rfl #[.string t207,.int .i64 0] rfl (by (try simp only [List.map_toArray,List.map_cons,List.map_nil]);first|done|rfl|(simp only [List.length_drop,List.length_take];rfl)) ?_;(with_reducible refine (impl_ReadShort.calls kj16 t207 0 t209 t210 t211 _ A25.out).mono ?_);rintro e w89 ⟨rfl,hb⟩;refine ⟨_,rfl,?_⟩;have n0_:=Aside0.mk (below_step (by repeat (first|(with_reducible first|exact HB.out|apply below_alloc|apply pw_below_drewN|apply below_drew1)|exact HB.out)) hb);clear HB;have HB:=n0_;clear n0_;(try clear hb))|((with_reducible refine gate_callee (f:=23) rfl ?_);refine goesL_ (some 68) rfl rfl Tryd.func23 (by kernel_rfl) rfl #[.string x11_16] rfl (by (try simp only [List.map_toArray,List.map_cons,List.map_nil]);first|done|rfl|(simp only [List.length_drop,List.length_take];rfl)) ?_;(with_reducible refine (fk_impl_Hex.calls kj16 x11_16 t212 t213 _ A26.out).mono ?_);rintro e w90 ⟨rfl,hb⟩;refine ⟨_,rfl,?_⟩;have n0_:=Aside0.mk (below_step (by repeat (first|(with_reducible first|exact HB.out|apply below_alloc|apply pw_below_drewN|apply below_drew1)|exact HB.out)) hb);clear HB;have HB:=n0_;clear n0_;(try clear hb))|((with_reducible refine gate_callee (f:=24) rfl ?_);refine goesL_ (some 73) rfl rfl Tryd.func24 (by kernel_rfl) rfl #[.string t212] rfl (by (try simp only [List.map_toArray,List.map_cons,List.map_nil]);first|done|rfl|(simp only [List.length_drop,List.length_take];rfl)) ?_;(with_reducible refine (fk_impl_Unhex.calls kj16 t212 t214 t215 _ A27.out).mono ?_);rintro e w91 ⟨rfl,hb⟩;refine ⟨_,rfl,?_⟩;have n0_:=Aside0.mk (below_step (by repeat (first|(with_reducible first|exact HB.out|apply below_alloc|apply pw_below_drewN|apply below_drew1)|exact HB.out)) hb);clear HB;have HB:=n0_;clear n0_;(try clear hb)))
         go_ret
         exact ⟨by first|rfl|(simp [errW_none,errW_some] <;> rfl)|(simp [*,errW_none,errW_some] <;> rfl),by repeat (first|(with_reducible first|exact HB.out|apply below_alloc|apply pw_below_drewN|apply below_drew1)|exact HB.out)⟩


end Go.Proofs.YtbkibnjpolnajaaDoor.KNu
