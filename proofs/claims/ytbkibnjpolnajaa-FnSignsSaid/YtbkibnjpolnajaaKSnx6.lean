/- Contracts of functions of the program and of the reference, each a Lean function and the proof that Go comes to its answer. Written by wip/pp/pp.py out of the kit's print, for this claim; nothing of it is trusted: Lean checks it. -/
import Derived.Test.YtbkibnjpolnajaaKSnx0
import Derived.Test.YtbkibnjpolnajaaKSnx2
import Derived.Test.YtbkibnjpolnajaaKSnx5
namespace Go.Proofs.Ytbkibnjpolnajaa.KSn
open Go.RowKit Go.Proofs.YtbkibnjpolnajaaW.PrintWords Go.Proofs.YtbkibnjpolnajaaW.PrintLast Go.Proofs.YtbkibnjpolnajaaW.PrintMore
attribute [local go_sem] max2_int min2_int max_two min_two max_three min_three max_four min_four   -- for this text's walks alone
set_option linter.unusedVariables false
set_option linter.unusedSimpArgs false

set_option linter.unusedSectionVars false
variable [fk_impl_run] [fk_strings_IndexByte] [fk_spec_SymbolByte]
/-! ### impl_nextSign: function 57 -/
mutual
def impl_nextSign.j0 : Nat → ByteArray → Int → Int → Int → Bool → Int → ByteArray → Int → Int → Bool → Option (Int × ByteArray × Int × Int × Bool × Int)
 | 0,_,_,_,_,_,_,_,_,_,_ => none
 | k + 1,x0,x1,x6,x8,x27,x148000,x148001,x148002,x148003,x148004 => if x27 = true then ((fk_impl_run.f k x0 x1 73).bind fun t151 => ((impl_lower.f x6).bind fun t152 => (if t152 = true then (if 0 ≤ x1 then (if x1 ≤ t151 then (if t151 ≤ (x0.size : Int) then (if 1 = 0 then (if x1 ≤ (wrap64 (x1 + 1)) then (if (wrap64 (x1 + 1)) ≤ (x0.size : Int) then (some (6,x0.extract (x1 : Int).toNat ((wrap64 (x1 + 1)) : Int).toNat,x148002,x148003,x148004,wrap64 (x1 + 1))) else (none)) else (none)) else (if 1 = 4 then (some (1,x0.extract (x1 : Int).toNat (t151 : Int).toNat,x148002,x148003,x148004,t151)) else (if ((x0.extract (x1 : Int).toNat (t151 : Int).toNat).size : Int) > 20 then (if x1 ≤ (wrap64 (x1 + 1)) then (if (wrap64 (x1 + 1)) ≤ (x0.size : Int) then (some (6,x0.extract (x1 : Int).toNat ((wrap64 (x1 + 1)) : Int).toNat,x148002,x148003,x148004,wrap64 (x1 + 1))) else (none)) else (none)) else (some (1,x0.extract (x1 : Int).toNat (t151 : Int).toNat,x148002,x148003,x148004,t151))))) else (none)) else (none)) else (none)) else (if 0 ≤ x1 then (if x1 ≤ t151 then (if t151 ≤ (x0.size : Int) then (if 2 = 0 then (if x1 ≤ (wrap64 (x1 + 1)) then (if (wrap64 (x1 + 1)) ≤ (x0.size : Int) then (some (6,x0.extract (x1 : Int).toNat ((wrap64 (x1 + 1)) : Int).toNat,x148002,x148003,x148004,wrap64 (x1 + 1))) else (none)) else (none)) else (if 2 = 4 then (some (2,x0.extract (x1 : Int).toNat (t151 : Int).toNat,x148002,x148003,x148004,t151)) else (if ((x0.extract (x1 : Int).toNat (t151 : Int).toNat).size : Int) > 20 then (if x1 ≤ (wrap64 (x1 + 1)) then (if (wrap64 (x1 + 1)) ≤ (x0.size : Int) then (some (6,x0.extract (x1 : Int).toNat ((wrap64 (x1 + 1)) : Int).toNat,x148002,x148003,x148004,wrap64 (x1 + 1))) else (none)) else (none)) else (some (2,x0.extract (x1 : Int).toNat (t151 : Int).toNat,x148002,x148003,x148004,t151))))) else (none)) else (none)) else (none))))) else ((impl_figure.f x6).bind fun t153 => (if t153 = true then ((fk_impl_run.f k x0 x1 74).bind fun t154 => (impl_nextSign.l0 k x0 x1 t154 0 x1 x148000 x148001 x148002 x148003 x148004)) else ((impl_SymbolByte.f k x6).bind fun t155 => (if t155 = true then ((fk_impl_run.f k x0 x1 14).bind fun t156 => (if 0 ≤ x1 then (if x1 ≤ t156 then (if t156 ≤ (x0.size : Int) then (if 1 = 0 then (if x1 ≤ (wrap64 (x1 + 1)) then (if (wrap64 (x1 + 1)) ≤ (x0.size : Int) then (some (6,x0.extract (x1 : Int).toNat ((wrap64 (x1 + 1)) : Int).toNat,x148002,x148003,x148004,wrap64 (x1 + 1))) else (none)) else (none)) else (if 1 = 4 then (some (1,x0.extract (x1 : Int).toNat (t156 : Int).toNat,x148002,x148003,x148004,t156)) else (if ((x0.extract (x1 : Int).toNat (t156 : Int).toNat).size : Int) > 20 then (if x1 ≤ (wrap64 (x1 + 1)) then (if (wrap64 (x1 + 1)) ≤ (x0.size : Int) then (some (6,x0.extract (x1 : Int).toNat ((wrap64 (x1 + 1)) : Int).toNat,x148002,x148003,x148004,wrap64 (x1 + 1))) else (none)) else (none)) else (some (1,x0.extract (x1 : Int).toNat (t156 : Int).toNat,x148002,x148003,x148004,t156))))) else (none)) else (none)) else (none))) else (if x6 = 33 then (impl_nextSign.j3 k x0 x1 x6 x8 true x148000 x148001 x148002 x148003 x148004) else (impl_nextSign.j3 k x0 x1 x6 x8 (x6 == 59) x148000 x148001 x148002 x148003 x148004))))))
def impl_nextSign.j2 : Nat → ByteArray → Int → Int → Int → Int → ByteArray → Int → Int → Bool → Option (Int × ByteArray × Int × Int × Bool × Int)
 | 0,_,_,_,_,_,_,_,_,_ => none
 | k + 1,x0,x1,x8,x9,x148000,x148001,x148002,x148003,x148004 => if x9 ≤ 999999999 then (some (3,x148001,x9,x148003,x148004,x8)) else (if 0 ≤ x1 then (if x1 ≤ x8 then (if x8 ≤ (x0.size : Int) then (if x148000 = 0 then (if x1 ≤ (wrap64 (x1 + 1)) then (if (wrap64 (x1 + 1)) ≤ (x0.size : Int) then (some (6,x0.extract (x1 : Int).toNat ((wrap64 (x1 + 1)) : Int).toNat,x148002,x148003,x148004,wrap64 (x1 + 1))) else (none)) else (none)) else (if x148000 = 4 then (some (x148000,x0.extract (x1 : Int).toNat (x8 : Int).toNat,x148002,x148003,x148004,x8)) else (if ((x0.extract (x1 : Int).toNat (x8 : Int).toNat).size : Int) > 20 then (if x1 ≤ (wrap64 (x1 + 1)) then (if (wrap64 (x1 + 1)) ≤ (x0.size : Int) then (some (6,x0.extract (x1 : Int).toNat ((wrap64 (x1 + 1)) : Int).toNat,x148002,x148003,x148004,wrap64 (x1 + 1))) else (none)) else (none)) else (some (x148000,x0.extract (x1 : Int).toNat (x8 : Int).toNat,x148002,x148003,x148004,x8))))) else (none)) else (none)) else (none))
def impl_nextSign.l0 : Nat → ByteArray → Int → Int → Int → Int → Int → ByteArray → Int → Int → Bool → Option (Int × ByteArray × Int × Int × Bool × Int)
 | 0,_,_,_,_,_,_,_,_,_,_ => none
 | k + 1,x0,x1,x8,x9,x10,x148000,x148001,x148002,x148003,x148004 => if x10 < x8 then (if x9 ≤ 999999999 then (if 0 ≤ x10 then (if x10 < (x0.size : Int) then (impl_nextSign.l0 k x0 x1 x8 (wrap64 ((wrap64 (10 * x9)) + (((bt x0 x10) - 48) % 256))) (wrap64 (x10 + 1)) x148000 x148001 x148002 x148003 x148004) else (none)) else (none)) else (impl_nextSign.j2 k x0 x1 x8 x9 x148000 x148001 x148002 x148003 x148004)) else (impl_nextSign.j2 k x0 x1 x8 x9 x148000 x148001 x148002 x148003 x148004)
def impl_nextSign.j3 : Nat → ByteArray → Int → Int → Int → Bool → Int → ByteArray → Int → Int → Bool → Option (Int × ByteArray × Int × Int × Bool × Int)
 | 0,_,_,_,_,_,_,_,_,_,_ => none
 | k + 1,x0,x1,x6,x8,x83,x148000,x148001,x148002,x148003,x148004 => if x83 = true then (if 0 ≤ x1 then (if x1 ≤ x8 then (if x8 ≤ (x0.size : Int) then (if 1 = 0 then (if x1 ≤ (wrap64 (x1 + 1)) then (if (wrap64 (x1 + 1)) ≤ (x0.size : Int) then (some (6,x0.extract (x1 : Int).toNat ((wrap64 (x1 + 1)) : Int).toNat,x148002,x148003,x148004,wrap64 (x1 + 1))) else (none)) else (none)) else (if 1 = 4 then (some (1,x0.extract (x1 : Int).toNat (x8 : Int).toNat,x148002,x148003,x148004,x8)) else (if ((x0.extract (x1 : Int).toNat (x8 : Int).toNat).size : Int) > 20 then (if x1 ≤ (wrap64 (x1 + 1)) then (if (wrap64 (x1 + 1)) ≤ (x0.size : Int) then (some (6,x0.extract (x1 : Int).toNat ((wrap64 (x1 + 1)) : Int).toNat,x148002,x148003,x148004,wrap64 (x1 + 1))) else (none)) else (none)) else (some (1,x0.extract (x1 : Int).toNat (x8 : Int).toNat,x148002,x148003,x148004,x8))))) else (none)) else (none)) else (none)) else ((fk_strings_IndexByte.f k (⟨#[40,41,91,93,44,124]⟩ : ByteArray) x6).bind fun t157 => (if t157 ≥ 0 then (if 0 ≤ x1 then (if x1 ≤ x8 then (if x8 ≤ (x0.size : Int) then (if 4 = 0 then (if x1 ≤ (wrap64 (x1 + 1)) then (if (wrap64 (x1 + 1)) ≤ (x0.size : Int) then (some (6,x0.extract (x1 : Int).toNat ((wrap64 (x1 + 1)) : Int).toNat,x148002,x148003,x148004,wrap64 (x1 + 1))) else (none)) else (none)) else (if 4 = 4 then (some (4,x0.extract (x1 : Int).toNat (x8 : Int).toNat,x148002,x148003,x148004,x8)) else (if ((x0.extract (x1 : Int).toNat (x8 : Int).toNat).size : Int) > 20 then (if x1 ≤ (wrap64 (x1 + 1)) then (if (wrap64 (x1 + 1)) ≤ (x0.size : Int) then (some (6,x0.extract (x1 : Int).toNat ((wrap64 (x1 + 1)) : Int).toNat,x148002,x148003,x148004,wrap64 (x1 + 1))) else (none)) else (none)) else (some (4,x0.extract (x1 : Int).toNat (x8 : Int).toNat,x148002,x148003,x148004,x8))))) else (none)) else (none)) else (none)) else (if x6 = 39 then ((fk_impl_run.f k x0 (wrap64 (x1 + 1)) 75).bind fun t158 => (if t158 < (x0.size : Int) then (if 0 ≤ t158 then (if (bt x0 t158) = 39 then ((impl_within.f (wrap64 ((wrap64 (t158 - x1)) - 1)) 1 20).bind fun t159 => (impl_nextSign.j4 k x0 x1 x8 t158 t159 x148000 x148001 x148002 x148003 x148004)) else (impl_nextSign.j4 k x0 x1 x8 t158 false x148000 x148001 x148002 x148003 x148004)) else (none)) else (impl_nextSign.j4 k x0 x1 x8 t158 false x148000 x148001 x148002 x148003 x148004))) else (if 0 ≤ x1 then (if x1 ≤ x8 then (if x8 ≤ (x0.size : Int) then (if x148000 = 0 then (if x1 ≤ (wrap64 (x1 + 1)) then (if (wrap64 (x1 + 1)) ≤ (x0.size : Int) then (some (6,x0.extract (x1 : Int).toNat ((wrap64 (x1 + 1)) : Int).toNat,x148002,x148003,x148004,wrap64 (x1 + 1))) else (none)) else (none)) else (if x148000 = 4 then (some (x148000,x0.extract (x1 : Int).toNat (x8 : Int).toNat,x148002,x148003,x148004,x8)) else (if ((x0.extract (x1 : Int).toNat (x8 : Int).toNat).size : Int) > 20 then (if x1 ≤ (wrap64 (x1 + 1)) then (if (wrap64 (x1 + 1)) ≤ (x0.size : Int) then (some (6,x0.extract (x1 : Int).toNat ((wrap64 (x1 + 1)) : Int).toNat,x148002,x148003,x148004,wrap64 (x1 + 1))) else (none)) else (none)) else (some (x148000,x0.extract (x1 : Int).toNat (x8 : Int).toNat,x148002,x148003,x148004,x8))))) else (none)) else (none)) else (none)))))
def impl_nextSign.j4 : Nat → ByteArray → Int → Int → Int → Bool → Int → ByteArray → Int → Int → Bool → Option (Int × ByteArray × Int × Int × Bool × Int)
 | 0,_,_,_,_,_,_,_,_,_,_ => none
 | k + 1,x0,x1,x8,x11,x119,x148000,x148001,x148002,x148003,x148004 => if x119 = true then (if 0 ≤ (wrap64 (x1 + 1)) then (if (wrap64 (x1 + 1)) ≤ x11 then (if x11 ≤ (x0.size : Int) then (some (1,x0.extract ((wrap64 (x1 + 1)) : Int).toNat (x11 : Int).toNat,x148002,x148003,x148004,wrap64 (x11 + 1))) else (none)) else (none)) else (none)) else (if 0 ≤ x1 then (if x1 ≤ x8 then (if x8 ≤ (x0.size : Int) then (if x148000 = 0 then (if x1 ≤ (wrap64 (x1 + 1)) then (if (wrap64 (x1 + 1)) ≤ (x0.size : Int) then (some (6,x0.extract (x1 : Int).toNat ((wrap64 (x1 + 1)) : Int).toNat,x148002,x148003,x148004,wrap64 (x1 + 1))) else (none)) else (none)) else (if x148000 = 4 then (some (x148000,x0.extract (x1 : Int).toNat (x8 : Int).toNat,x148002,x148003,x148004,x8)) else (if ((x0.extract (x1 : Int).toNat (x8 : Int).toNat).size : Int) > 20 then (if x1 ≤ (wrap64 (x1 + 1)) then (if (wrap64 (x1 + 1)) ≤ (x0.size : Int) then (some (6,x0.extract (x1 : Int).toNat ((wrap64 (x1 + 1)) : Int).toNat,x148002,x148003,x148004,wrap64 (x1 + 1))) else (none)) else (none)) else (some (x148000,x0.extract (x1 : Int).toNat (x8 : Int).toNat,x148002,x148003,x148004,x8))))) else (none)) else (none)) else (none))
end
def impl_nextSign.f (k : Nat) (a0 : ByteArray) (a1 : Int) : Option (Int × ByteArray × Int × Int × Bool × Int):=if 0 ≤ a1 then (if a1 < (a0.size : Int) then ((impl_endsHere.f k a0 a1).bind fun t148 => (if t148 = true then (some (5,(⟨#[46]⟩ : ByteArray),0,a1,false,wrap64 (a1 + 1))) else ((impl_lower.f (bt a0 a1)).bind fun t149 => (if t149 = true then (impl_nextSign.j0 k a0 a1 (bt a0 a1) (wrap64 (a1 + 1)) true 0 (⟨#[]⟩ : ByteArray) 0 a1 false) else ((impl_upper.f (bt a0 a1)).bind fun t150 => (if t150 = true then (impl_nextSign.j0 k a0 a1 (bt a0 a1) (wrap64 (a1 + 1)) true 0 (⟨#[]⟩ : ByteArray) 0 a1 false) else (impl_nextSign.j0 k a0 a1 (bt a0 a1) (wrap64 (a1 + 1)) ((bt a0 a1) == 95) 0 (⟨#[]⟩ : ByteArray) 0 a1 false))))))) else (none)) else (none)
theorem impl_nextSign.mono_l : ∀ k,(∀ y0 y1 y2 y3 y4 y5 y6 y7 y8 y9,LeO (impl_nextSign.j0 k y0 y1 y2 y3 y4 y5 y6 y7 y8 y9) (impl_nextSign.j0 (k + 1) y0 y1 y2 y3 y4 y5 y6 y7 y8 y9)) ∧ (∀ y0 y1 y2 y3 y4 y5 y6 y7 y8,LeO (impl_nextSign.j2 k y0 y1 y2 y3 y4 y5 y6 y7 y8) (impl_nextSign.j2 (k + 1) y0 y1 y2 y3 y4 y5 y6 y7 y8)) ∧ (∀ y0 y1 y2 y3 y4 y5 y6 y7 y8 y9,LeO (impl_nextSign.l0 k y0 y1 y2 y3 y4 y5 y6 y7 y8 y9) (impl_nextSign.l0 (k + 1) y0 y1 y2 y3 y4 y5 y6 y7 y8 y9)) ∧ (∀ y0 y1 y2 y3 y4 y5 y6 y7 y8 y9,LeO (impl_nextSign.j3 k y0 y1 y2 y3 y4 y5 y6 y7 y8 y9) (impl_nextSign.j3 (k + 1) y0 y1 y2 y3 y4 y5 y6 y7 y8 y9)) ∧ (∀ y0 y1 y2 y3 y4 y5 y6 y7 y8 y9,LeO (impl_nextSign.j4 k y0 y1 y2 y3 y4 y5 y6 y7 y8 y9) (impl_nextSign.j4 (k + 1) y0 y1 y2 y3 y4 y5 y6 y7 y8 y9))
 | 0 => ⟨fun _ _ _ _ _ _ _ _ _ _ r h => by simp [impl_nextSign.j0] at h,fun _ _ _ _ _ _ _ _ _ r h => by simp [impl_nextSign.j2] at h,fun _ _ _ _ _ _ _ _ _ _ r h => by simp [impl_nextSign.l0] at h,fun _ _ _ _ _ _ _ _ _ _ r h => by simp [impl_nextSign.j3] at h,fun _ _ _ _ _ _ _ _ _ _ r h => by simp [impl_nextSign.j4] at h⟩
 | k + 1 => by
  obtain ⟨ih0,ih1,ih2,ih3,ih4⟩:=impl_nextSign.mono_l k
  refine ⟨?_,?_,?_,?_,?_⟩
  ·intro y0 y1 y2 y3 y4 y5 y6 y7 y8 y9
   unfold impl_nextSign.j0
   repeat' first
   | (with_reducible exact ih0 _ _ _ _ _ _ _ _ _ _)
   | (with_reducible exact ih1 _ _ _ _ _ _ _ _ _)
   | (with_reducible exact ih2 _ _ _ _ _ _ _ _ _ _)
   | (with_reducible exact ih3 _ _ _ _ _ _ _ _ _ _)
   | (with_reducible exact ih4 _ _ _ _ _ _ _ _ _ _)
   | (with_reducible exact fk_impl_run.mono _ _ _ _)
   | (with_reducible exact fk_strings_IndexByte.mono _ _ _)
   | (with_reducible exact impl_SymbolByte.mono _ _)
   | (with_reducible exact impl_endsHere.mono _ _ _)
   | (with_reducible exact LeO.refl _)
   | (with_reducible exact LeO.none _)
   | (with_reducible refine LeO.ite ?_ ?_)
   | (with_reducible refine LeO.bind ?_ (fun _ => ?_))
   | exact ih0 _ _ _ _ _ _ _ _ _ _
   | exact ih1 _ _ _ _ _ _ _ _ _
   | exact ih2 _ _ _ _ _ _ _ _ _ _
   | exact ih3 _ _ _ _ _ _ _ _ _ _
   | exact ih4 _ _ _ _ _ _ _ _ _ _
   | exact fk_impl_run.mono _ _ _ _
   | exact fk_strings_IndexByte.mono _ _ _
   | exact impl_SymbolByte.mono _ _
   | exact impl_endsHere.mono _ _ _
   | exact LeO.none _
   | refine LeO.ite ?_ ?_
   | refine LeO.bind ?_ (fun _ => ?_)
  ·intro y0 y1 y2 y3 y4 y5 y6 y7 y8
   unfold impl_nextSign.j2
   repeat' first
   | (with_reducible exact ih0 _ _ _ _ _ _ _ _ _ _)
   | (with_reducible exact ih1 _ _ _ _ _ _ _ _ _)
   | (with_reducible exact ih2 _ _ _ _ _ _ _ _ _ _)
   | (with_reducible exact ih3 _ _ _ _ _ _ _ _ _ _)
   | (with_reducible exact ih4 _ _ _ _ _ _ _ _ _ _)
   | (with_reducible exact fk_impl_run.mono _ _ _ _)
   | (with_reducible exact fk_strings_IndexByte.mono _ _ _)
   | (with_reducible exact impl_SymbolByte.mono _ _)
   | (with_reducible exact impl_endsHere.mono _ _ _)
   | (with_reducible exact LeO.refl _)
   | (with_reducible exact LeO.none _)
   | (with_reducible refine LeO.ite ?_ ?_)
   | (with_reducible refine LeO.bind ?_ (fun _ => ?_))
   | exact ih0 _ _ _ _ _ _ _ _ _ _
   | exact ih1 _ _ _ _ _ _ _ _ _
   | exact ih2 _ _ _ _ _ _ _ _ _ _
   | exact ih3 _ _ _ _ _ _ _ _ _ _
   | exact ih4 _ _ _ _ _ _ _ _ _ _
   | exact fk_impl_run.mono _ _ _ _
   | exact fk_strings_IndexByte.mono _ _ _
   | exact impl_SymbolByte.mono _ _
   | exact impl_endsHere.mono _ _ _
   | exact LeO.none _
   | refine LeO.ite ?_ ?_
   | refine LeO.bind ?_ (fun _ => ?_)
  ·intro y0 y1 y2 y3 y4 y5 y6 y7 y8 y9
   unfold impl_nextSign.l0
   repeat' first
   | (with_reducible exact ih0 _ _ _ _ _ _ _ _ _ _)
   | (with_reducible exact ih1 _ _ _ _ _ _ _ _ _)
   | (with_reducible exact ih2 _ _ _ _ _ _ _ _ _ _)
   | (with_reducible exact ih3 _ _ _ _ _ _ _ _ _ _)
   | (with_reducible exact ih4 _ _ _ _ _ _ _ _ _ _)
   | (with_reducible exact fk_impl_run.mono _ _ _ _)
   | (with_reducible exact fk_strings_IndexByte.mono _ _ _)
   | (with_reducible exact impl_SymbolByte.mono _ _)
   | (with_reducible exact impl_endsHere.mono _ _ _)
   | (with_reducible exact LeO.refl _)
   | (with_reducible exact LeO.none _)
   | (with_reducible refine LeO.ite ?_ ?_)
   | (with_reducible refine LeO.bind ?_ (fun _ => ?_))
   | exact ih0 _ _ _ _ _ _ _ _ _ _
   | exact ih1 _ _ _ _ _ _ _ _ _
   | exact ih2 _ _ _ _ _ _ _ _ _ _
   | exact ih3 _ _ _ _ _ _ _ _ _ _
   | exact ih4 _ _ _ _ _ _ _ _ _ _
   | exact fk_impl_run.mono _ _ _ _
   | exact fk_strings_IndexByte.mono _ _ _
   | exact impl_SymbolByte.mono _ _
   | exact impl_endsHere.mono _ _ _
   | exact LeO.none _
   | refine LeO.ite ?_ ?_
   | refine LeO.bind ?_ (fun _ => ?_)
  ·intro y0 y1 y2 y3 y4 y5 y6 y7 y8 y9
   unfold impl_nextSign.j3
   repeat' first
   | (with_reducible exact ih0 _ _ _ _ _ _ _ _ _ _)
   | (with_reducible exact ih1 _ _ _ _ _ _ _ _ _)
   | (with_reducible exact ih2 _ _ _ _ _ _ _ _ _ _)
   | (with_reducible exact ih3 _ _ _ _ _ _ _ _ _ _)
   | (with_reducible exact ih4 _ _ _ _ _ _ _ _ _ _)
   | (with_reducible exact fk_impl_run.mono _ _ _ _)
   | (with_reducible exact fk_strings_IndexByte.mono _ _ _)
   | (with_reducible exact impl_SymbolByte.mono _ _)
   | (with_reducible exact impl_endsHere.mono _ _ _)
   | (with_reducible exact LeO.refl _)
   | (with_reducible exact LeO.none _)
   | (with_reducible refine LeO.ite ?_ ?_)
   | (with_reducible refine LeO.bind ?_ (fun _ => ?_))
   | exact ih0 _ _ _ _ _ _ _ _ _ _
   | exact ih1 _ _ _ _ _ _ _ _ _
   | exact ih2 _ _ _ _ _ _ _ _ _ _
   | exact ih3 _ _ _ _ _ _ _ _ _ _
   | exact ih4 _ _ _ _ _ _ _ _ _ _
   | exact fk_impl_run.mono _ _ _ _
   | exact fk_strings_IndexByte.mono _ _ _
   | exact impl_SymbolByte.mono _ _
   | exact impl_endsHere.mono _ _ _
   | exact LeO.none _
   | refine LeO.ite ?_ ?_
   | refine LeO.bind ?_ (fun _ => ?_)
  ·intro y0 y1 y2 y3 y4 y5 y6 y7 y8 y9
   unfold impl_nextSign.j4
   repeat' first
   | (with_reducible exact ih0 _ _ _ _ _ _ _ _ _ _)
   | (with_reducible exact ih1 _ _ _ _ _ _ _ _ _)
   | (with_reducible exact ih2 _ _ _ _ _ _ _ _ _ _)
   | (with_reducible exact ih3 _ _ _ _ _ _ _ _ _ _)
   | (with_reducible exact ih4 _ _ _ _ _ _ _ _ _ _)
   | (with_reducible exact fk_impl_run.mono _ _ _ _)
   | (with_reducible exact fk_strings_IndexByte.mono _ _ _)
   | (with_reducible exact impl_SymbolByte.mono _ _)
   | (with_reducible exact impl_endsHere.mono _ _ _)
   | (with_reducible exact LeO.refl _)
   | (with_reducible exact LeO.none _)
   | (with_reducible refine LeO.ite ?_ ?_)
   | (with_reducible refine LeO.bind ?_ (fun _ => ?_))
   | exact ih0 _ _ _ _ _ _ _ _ _ _
   | exact ih1 _ _ _ _ _ _ _ _ _
   | exact ih2 _ _ _ _ _ _ _ _ _ _
   | exact ih3 _ _ _ _ _ _ _ _ _ _
   | exact ih4 _ _ _ _ _ _ _ _ _ _
   | exact fk_impl_run.mono _ _ _ _
   | exact fk_strings_IndexByte.mono _ _ _
   | exact impl_SymbolByte.mono _ _
   | exact impl_endsHere.mono _ _ _
   | exact LeO.none _
   | refine LeO.ite ?_ ?_
   | refine LeO.bind ?_ (fun _ => ?_)
theorem impl_nextSign.mono : ∀ a0 a1 k,LeO (impl_nextSign.f k a0 a1) (impl_nextSign.f (k + 1) a0 a1):=by
 intro a0 a1 k
 obtain ⟨ih0,ih1,ih2,ih3,ih4⟩:=impl_nextSign.mono_l k
 unfold impl_nextSign.f
 repeat' first
   | (with_reducible exact ih0 _ _ _ _ _ _ _ _ _ _)
   | (with_reducible exact ih1 _ _ _ _ _ _ _ _ _)
   | (with_reducible exact ih2 _ _ _ _ _ _ _ _ _ _)
   | (with_reducible exact ih3 _ _ _ _ _ _ _ _ _ _)
   | (with_reducible exact ih4 _ _ _ _ _ _ _ _ _ _)
   | (with_reducible exact fk_impl_run.mono _ _ _ _)
   | (with_reducible exact fk_strings_IndexByte.mono _ _ _)
   | (with_reducible exact impl_SymbolByte.mono _ _)
   | (with_reducible exact impl_endsHere.mono _ _ _)
   | (with_reducible exact LeO.refl _)
   | (with_reducible exact LeO.none _)
   | (with_reducible refine LeO.ite ?_ ?_)
   | (with_reducible refine LeO.bind ?_ (fun _ => ?_))
   | exact ih0 _ _ _ _ _ _ _ _ _ _
   | exact ih1 _ _ _ _ _ _ _ _ _
   | exact ih2 _ _ _ _ _ _ _ _ _ _
   | exact ih3 _ _ _ _ _ _ _ _ _ _
   | exact ih4 _ _ _ _ _ _ _ _ _ _
   | exact fk_impl_run.mono _ _ _ _
   | exact fk_strings_IndexByte.mono _ _ _
   | exact impl_SymbolByte.mono _ _
   | exact impl_endsHere.mono _ _ _
   | exact LeO.none _
   | refine LeO.ite ?_ ?_
   | refine LeO.bind ?_ (fun _ => ?_)
def impl_nextSign.T32 : Bool × List (List Nat × List Nat):=(true,[([],[]),([],[]),([1],[1]),([],[]),([0,2,3],[0,2,3]),([],[]),([5],[5]),([0,1,2,3,4,5,6],[]),([7,4,6,0,1,2,3,4,5,6],[4,7])])
def impl_nextSign.B32 : List Nat:=[0,0,2,0,15,0,32,127,255]
theorem impl_nextSign.tab32 : rtab .any (opsOf Try.f57 32) = impl_nextSign.T32:=by kernel_rfl
theorem impl_nextSign.bits32 : waitsOk impl_nextSign.T32.2 impl_nextSign.B32 = true:=by kernel_rfl
def impl_nextSign.T36 : Bool × List (List Nat × List Nat):=(true,[([],[]),([],[]),([],[]),([2],[2]),([0,1,3],[0,1,3]),([],[]),([5],[5]),([0,1,2,3,4,5,6],[]),([7,4,6,0,1,2,3,4,5,6],[4,7])])
def impl_nextSign.B36 : List Nat:=[0,0,0,4,15,0,32,127,255]
theorem impl_nextSign.tab36 : rtab .any (opsOf Try.f57 36) = impl_nextSign.T36:=by kernel_rfl
theorem impl_nextSign.bits36 : waitsOk impl_nextSign.T36.2 impl_nextSign.B36 = true:=by kernel_rfl
set_option maxHeartbeats 8000000 in
set_option maxRecDepth 100000 in
theorem impl_nextSign.calls (k : Nat) (a0 : ByteArray) (a1 : Int) (r1 : Int) (r2 : ByteArray) (r3 : Int) (r4 : Int) (r5 : Bool) (r6 : Int) (w : World) (h : impl_nextSign.f k a0 a1 = some (r1,r2,r3,r4,r5,r6)) :
  Calls Try.prog 57 #[.string a0,.int .i64 a1] w fun e w' => e = .returned (.tuple #[.agg #[.int .i64 r1,.string r2,.int .i64 r3,.int .i64 r4,.bool r5],.int .i64 r6]) ∧ Below w.heap.size w w':=by
 have hu46:=Try.underlying46
 have HB:=Aside0.mk (Below.refl w.heap.size w)
 have H : (if 0 ≤ a1 then (if a1 < (a0.size : Int) then ((impl_endsHere.f k a0 a1).bind fun t148 => (if t148 = true then (some (5,(⟨#[46]⟩ : ByteArray),0,a1,false,wrap64 (a1 + 1))) else ((impl_lower.f (bt a0 a1)).bind fun t149 => (if t149 = true then (impl_nextSign.j0 k a0 a1 (bt a0 a1) (wrap64 (a1 + 1)) true 0 (⟨#[]⟩ : ByteArray) 0 a1 false) else ((impl_upper.f (bt a0 a1)).bind fun t150 => (if t150 = true then (impl_nextSign.j0 k a0 a1 (bt a0 a1) (wrap64 (a1 + 1)) true 0 (⟨#[]⟩ : ByteArray) 0 a1 false) else (impl_nextSign.j0 k a0 a1 (bt a0 a1) (wrap64 (a1 + 1)) ((bt a0 a1) == 95) 0 (⟨#[]⟩ : ByteArray) 0 a1 false))))))) else (none)) else (none)) = some (r1,r2,r3,r4,r5,r6):=h
 clear h
 by_cases c3 : 0 ≤ a1
 rotate_left
 ·rw [if_neg c3] at H
  exact absurd H (by simp)
 rw [if_pos c3] at H
 have c3b0 : decide (0 ≤ a1) = true:=decide_eq_true c3
 clear c3
 by_cases c4 : a1 < (a0.size : Int)
 rotate_left
 ·rw [if_neg c4] at H
  exact absurd H (by simp)
 rw [if_pos c4] at H
 have c4b0 : decide (a1 < (a0.size : Int)) = true:=decide_eq_true c4
 clear c4
 replace H:=Option.bind_eq_some_iff.mp H
 obtain ⟨t148,A60,H⟩:=H
 replace H : (if t148 = true then (some (5,(⟨#[46]⟩ : ByteArray),0,a1,false,wrap64 (a1 + 1))) else ((impl_lower.f (bt a0 a1)).bind fun t149 => (if t149 = true then (impl_nextSign.j0 k a0 a1 (bt a0 a1) (wrap64 (a1 + 1)) true 0 (⟨#[]⟩ : ByteArray) 0 a1 false) else ((impl_upper.f (bt a0 a1)).bind fun t150 => (if t150 = true then (impl_nextSign.j0 k a0 a1 (bt a0 a1) (wrap64 (a1 + 1)) true 0 (⟨#[]⟩ : ByteArray) 0 a1 false) else (impl_nextSign.j0 k a0 a1 (bt a0 a1) (wrap64 (a1 + 1)) ((bt a0 a1) == 95) 0 (⟨#[]⟩ : ByteArray) 0 a1 false)))))) = some (r1,r2,r3,r4,r5,r6):=H
 have A6:=Aside0.mk A60
 clear A60
 by_cases c7 : t148 = true
 ·subst c7
  have H1 : (some (5,(⟨#[46]⟩ : ByteArray),0,a1,false,wrap64 (a1 + 1))) = some (r1,r2,r3,r4,r5,r6):=by rw [if_pos rfl] at H;exact H
  clear H
  have H:=H1
  clear H1
  simp only [Option.some.injEq,Prod.mk.injEq] at H
  obtain ⟨rfl,rfl,rfl,rfl,rfl,rfl⟩:=H
  go_enter Try.func57,Try.ntmps57
  go_wp2_with (first|((with_reducible refine gate_dst (N:=4) rfl ?_);(try (refine gate_guard (by rfl) ?_;dsimp only));refine box_event ?hg (N:=4) ?hd (cs:=#[.int .i64 0,.string (⟨#[]⟩ : ByteArray),.int .i64 0,.int .i64 0,.bool false]) (t:=46) ?hr ?_;(case hd => rfl);(case hg => rfl);(case hr => first|(go_simp;done)|(go_simp;rfl));intro gb146 hg w8 hbox hb;have n0_:=Aside0.mk (below_step (by repeat (first|(with_reducible first|exact HB.out|apply below_alloc|apply pw_below_drewN|apply below_drew1)|exact HB.out)) hb);have n1_:=Aside0.mk (hbox);have n2_:=Aside0.mk ((by rw [hg];exact (below_size (by repeat (first|(with_reducible first|exact HB.out|apply below_alloc|apply pw_below_drewN|apply below_drew1)|exact HB.out))) : w.heap.size ≤ gb146));have n3_:=Aside0.mk ((by rw [hg];exact (below_size (by repeat (first|(with_reducible first|exact HB.out|apply below_alloc|apply pw_below_drewN|apply below_drew1)|exact HB.out))) : w.heap.size ≤ gb146));clear HB;have HB:=n0_;have BK146:=n1_;have GW146:=n2_;have GE146:=n3_;clear n0_ n1_ n2_ n3_;clear hb hbox hg;have p5 : 0 ≤ (a1 : Int):=of_decide_eq_true (by first|(with_reducible assumption)|assumption);have q5 : a1 < (a0.size : Int):=of_decide_eq_true (by first|(with_reducible assumption)|assumption);have hx5:=bt_at a0 a1;replace p5:=eq_true p5;replace q5:=eq_true q5)|((with_reducible refine gate_dst (N:=7) rfl ?_);(try (refine gate_guard (by rfl) ?_;dsimp only));refine box_event ?hg (N:=7) ?hd (cs:=#[.int .i64 0,.string (⟨#[]⟩ : ByteArray),.int .i64 0,.int .i64 0,.bool false]) (t:=46) ?hr ?_;(case hd => rfl);(case hg => rfl);(case hr => first|(go_simp;done)|(go_simp;rfl));intro gb147 hg w9 hbox hb;have n0_:=Aside0.mk (blk_below (g:=gb146) (o:=.cells #[.int .i64 0,.string (⟨#[]⟩ : ByteArray),.int .i64 0,.int .i64 0,.bool false] 46 (0,0)) (by (with_reducible repeat (first|refine blk_drewN ?_ _|refine blk_drew ?_|refine blk_alloc ?_ _));exact BK146.out) hb);have n1_:=Aside0.mk (below_step (by repeat (first|(with_reducible first|exact HB.out|apply below_alloc|apply pw_below_drewN|apply below_drew1|refine below_set ?_ GE146.out)|exact HB.out)) hb);have n2_:=Aside0.mk (hbox);have n3_:=Aside0.mk ((by rw [hg];exact (below_size (by repeat (first|(with_reducible first|exact HB.out|apply below_alloc|apply pw_below_drewN|apply below_drew1|refine below_set ?_ GE146.out)|exact HB.out))) : w.heap.size ≤ gb147));have n4_:=Aside0.mk ((by rw [hg];exact (below_size (by repeat (first|(with_reducible first|exact HB.out|apply below_alloc|apply pw_below_drewN|apply below_drew1|refine below_set ?_ GE146.out)|exact HB.out))) : w.heap.size ≤ gb147));have n5_:=Aside0.mk ((by rw [hg];exact Nat.ne_of_lt (blk_lt (g:=gb146) (o:=.cells #[.int .i64 0,.string (⟨#[]⟩ : ByteArray),.int .i64 0,.int .i64 0,.bool false] 46 (0,0)) (by (with_reducible repeat (first|refine blk_drewN ?_ _|refine blk_drew ?_|refine blk_alloc ?_ _));exact BK146.out)) : gb146 ≠ gb147));have n6_:=Aside0.mk ((by rw [hg];exact Nat.ne_of_gt (blk_lt (g:=gb146) (o:=.cells #[.int .i64 0,.string (⟨#[]⟩ : ByteArray),.int .i64 0,.int .i64 0,.bool false] 46 (0,0)) (by (with_reducible repeat (first|refine blk_drewN ?_ _|refine blk_drew ?_|refine blk_alloc ?_ _));exact BK146.out)) : gb147 ≠ gb146));clear BK146;clear HB;have BK146:=n0_;have HB:=n1_;have BK147:=n2_;have GW147:=n3_;have GE147:=n4_;have NB146_147:=n5_;have NB147_146:=n6_;clear n0_ n1_ n2_ n3_ n4_ n5_ n6_;clear hb hbox hg;have hnb10:=NB147_146.out;have hnc10:=NB146_147.out;have hcz11_0 : w9.cell? ⟨gb147,0,none⟩ = some (.int .i64 0):=(blk_cell BK147.out 0).trans rfl;have hcz11_1 : w9.cell? ⟨gb147,1,none⟩ = some (.string (⟨#[]⟩ : ByteArray)):=(blk_cell BK147.out 1).trans rfl;have hcz11_2 : w9.cell? ⟨gb147,2,none⟩ = some (.int .i64 0):=(blk_cell BK147.out 2).trans rfl;have hcz11_3 : w9.cell? ⟨gb147,3,none⟩ = some (.int .i64 0):=(blk_cell BK147.out 3).trans rfl;have hcz11_4 : w9.cell? ⟨gb147,4,none⟩ = some (.bool false):=(blk_cell BK147.out 4).trans rfl;have hfz11_0:=blk_frozen BK147.out 0;have hfz11_1:=blk_frozen BK147.out 1;have hfz11_2:=blk_frozen BK147.out 2;have hfz11_3:=blk_frozen BK147.out 3;have hfz11_4:=blk_frozen BK147.out 4)|((with_reducible refine gate_callee (f:=70) rfl ?_);refine goesL_ (some 22) rfl rfl Try.func70 (by kernel_rfl) rfl #[.string a0,.int .i64 a1] rfl (by (try simp only [List.map_toArray,List.map_cons,List.map_nil]);first|done|rfl|(simp only [List.length_drop,List.length_take];rfl)) ?_;(with_reducible refine (impl_endsHere.calls k a0 a1 true _ A6.out).mono ?_);rintro e w12 ⟨rfl,hb⟩;refine ⟨_,rfl,?_⟩;have n0_:=Aside0.mk (blk_below (g:=gb146) (o:=.cells #[.int .i64 0,.string (⟨#[]⟩ : ByteArray),.int .i64 0,.int .i64 0,.bool false] 46 (0,0)) (by (with_reducible repeat (first|refine blk_drewN ?_ _|refine blk_drew ?_|refine blk_alloc ?_ _));refine blk_far ?_ NB146_147.out _;(with_reducible repeat (first|refine blk_drewN ?_ _|refine blk_drew ?_|refine blk_alloc ?_ _));refine blk_far ?_ NB146_147.out _;(with_reducible repeat (first|refine blk_drewN ?_ _|refine blk_drew ?_|refine blk_alloc ?_ _));refine blk_far ?_ NB146_147.out _;(with_reducible repeat (first|refine blk_drewN ?_ _|refine blk_drew ?_|refine blk_alloc ?_ _));refine blk_far ?_ NB146_147.out _;(with_reducible repeat (first|refine blk_drewN ?_ _|refine blk_drew ?_|refine blk_alloc ?_ _));refine blk_far ?_ NB146_147.out _;(with_reducible repeat (first|refine blk_drewN ?_ _|refine blk_drew ?_|refine blk_alloc ?_ _));exact BK146.out) hb);have n1_:=Aside0.mk (blk_below (g:=gb147) (o:=.cells #[.int .i64 0,.string (⟨#[]⟩ : ByteArray),.int .i64 0,.int .i64 a1,.bool false] 46 (0,0)) (by (with_reducible repeat (first|refine blk_drewN ?_ _|refine blk_drew ?_|refine blk_alloc ?_ _));refine blk_put (cs:=#[.int .i64 0,.string (⟨#[]⟩ : ByteArray),.int .i64 0,.int .i64 a1,.bool false]) ?_ 4 _ rfl;(with_reducible repeat (first|refine blk_drewN ?_ _|refine blk_drew ?_|refine blk_alloc ?_ _));refine blk_put (cs:=#[.int .i64 0,.string (⟨#[]⟩ : ByteArray),.int .i64 0,.int .i64 0,.bool false]) ?_ 3 _ rfl;(with_reducible repeat (first|refine blk_drewN ?_ _|refine blk_drew ?_|refine blk_alloc ?_ _));refine blk_put (cs:=#[.int .i64 0,.string (⟨#[]⟩ : ByteArray),.int .i64 0,.int .i64 0,.bool false]) ?_ 2 _ rfl;(with_reducible repeat (first|refine blk_drewN ?_ _|refine blk_drew ?_|refine blk_alloc ?_ _));refine blk_put (cs:=#[.int .i64 0,.string (⟨#[]⟩ : ByteArray),.int .i64 0,.int .i64 0,.bool false]) ?_ 1 _ rfl;(with_reducible repeat (first|refine blk_drewN ?_ _|refine blk_drew ?_|refine blk_alloc ?_ _));refine blk_put (cs:=#[.int .i64 0,.string (⟨#[]⟩ : ByteArray),.int .i64 0,.int .i64 0,.bool false]) ?_ 0 _ rfl;(with_reducible repeat (first|refine blk_drewN ?_ _|refine blk_drew ?_|refine blk_alloc ?_ _));exact BK147.out) hb);have n2_:=Aside0.mk (below_step (by repeat (first|(with_reducible first|exact HB.out|apply below_alloc|apply pw_below_drewN|apply below_drew1|refine below_set ?_ GE146.out|refine below_set ?_ GE147.out)|exact HB.out)) hb);clear BK146;clear BK147;clear HB;have BK146:=n0_;have BK147:=n1_;have HB:=n2_;clear n0_ n1_ n2_;(try clear hb);(try clear hb2);(try clear hk);(try clear hi);have hcz13_0 : w12.cell? ⟨gb147,0,none⟩ = some (.int .i64 0):=(blk_cell BK147.out 0).trans rfl;have hcz13_1 : w12.cell? ⟨gb147,1,none⟩ = some (.string (⟨#[]⟩ : ByteArray)):=(blk_cell BK147.out 1).trans rfl;have hcz13_2 : w12.cell? ⟨gb147,2,none⟩ = some (.int .i64 0):=(blk_cell BK147.out 2).trans rfl;have hcz13_3 : w12.cell? ⟨gb147,3,none⟩ = some (.int .i64 a1):=(blk_cell BK147.out 3).trans rfl;have hcz13_4 : w12.cell? ⟨gb147,4,none⟩ = some (.bool false):=(blk_cell BK147.out 4).trans rfl;have hfz13_0:=blk_frozen BK147.out 0;have hfz13_1:=blk_frozen BK147.out 1;have hfz13_2:=blk_frozen BK147.out 2;have hfz13_3:=blk_frozen BK147.out 3;have hfz13_4:=blk_frozen BK147.out 4;have hcz14_0 : w12.cell? ⟨gb146,0,none⟩ = some (.int .i64 0):=(blk_cell BK146.out 0).trans rfl;have hcz14_1 : w12.cell? ⟨gb146,1,none⟩ = some (.string (⟨#[]⟩ : ByteArray)):=(blk_cell BK146.out 1).trans rfl;have hcz14_2 : w12.cell? ⟨gb146,2,none⟩ = some (.int .i64 0):=(blk_cell BK146.out 2).trans rfl;have hcz14_3 : w12.cell? ⟨gb146,3,none⟩ = some (.int .i64 0):=(blk_cell BK146.out 3).trans rfl;have hcz14_4 : w12.cell? ⟨gb146,4,none⟩ = some (.bool false):=(blk_cell BK146.out 4).trans rfl;have hfz14_0:=blk_frozen BK146.out 0;have hfz14_1:=blk_frozen BK146.out 1;have hfz14_2:=blk_frozen BK146.out 2;have hfz14_3:=blk_frozen BK146.out 3;have hfz14_4:=blk_frozen BK146.out 4))
  refine bodyPost_ret (results_ct rfl _ _ gb146 46 #[.int .i64 5,.string (⟨#[46]⟩ : ByteArray),.int .i64 0,.int .i64 a1,.bool false] (0,0) _ rfl (by (with_reducible repeat (first|refine blk_drewN ?_ _|refine blk_drew ?_|refine blk_alloc ?_ _));refine blk_put (cs:=#[.int .i64 5,.string (⟨#[46]⟩ : ByteArray),.int .i64 0,.int .i64 a1,.bool false]) ?_ 4 _ rfl;(with_reducible repeat (first|refine blk_drewN ?_ _|refine blk_drew ?_|refine blk_alloc ?_ _));refine blk_put (cs:=#[.int .i64 5,.string (⟨#[46]⟩ : ByteArray),.int .i64 0,.int .i64 0,.bool false]) ?_ 3 _ rfl;(with_reducible repeat (first|refine blk_drewN ?_ _|refine blk_drew ?_|refine blk_alloc ?_ _));refine blk_put (cs:=#[.int .i64 5,.string (⟨#[46]⟩ : ByteArray),.int .i64 0,.int .i64 0,.bool false]) ?_ 2 _ rfl;(with_reducible repeat (first|refine blk_drewN ?_ _|refine blk_drew ?_|refine blk_alloc ?_ _));refine blk_put (cs:=#[.int .i64 5,.string (⟨#[]⟩ : ByteArray),.int .i64 0,.int .i64 0,.bool false]) ?_ 1 _ rfl;(with_reducible repeat (first|refine blk_drewN ?_ _|refine blk_drew ?_|refine blk_alloc ?_ _));refine blk_put (cs:=#[.int .i64 0,.string (⟨#[]⟩ : ByteArray),.int .i64 0,.int .i64 0,.bool false]) ?_ 0 _ rfl;(with_reducible repeat (first|refine blk_drewN ?_ _|refine blk_drew ?_|refine blk_alloc ?_ _));refine blk_far ?_ NB146_147.out _;(with_reducible repeat (first|refine blk_drewN ?_ _|refine blk_drew ?_|refine blk_alloc ?_ _));refine blk_far ?_ NB146_147.out _;(with_reducible repeat (first|refine blk_drewN ?_ _|refine blk_drew ?_|refine blk_alloc ?_ _));exact BK146.out) Try.underlying46 rfl (by kernel_rfl)) rfl ?_
  exact ⟨by first|rfl|(simp [errW_none,errW_some] <;> rfl)|(simp [*,errW_none,errW_some] <;> rfl),by repeat (first|(with_reducible first|exact HB.out|apply below_alloc|apply pw_below_drewN|apply below_drew1|refine below_set ?_ GE146.out|refine below_set ?_ GE147.out)|exact HB.out)⟩
 ·replace c7:=Bool.eq_false_iff.mpr c7
  subst c7
  have H1 : ((impl_lower.f (bt a0 a1)).bind fun t149 => (if t149 = true then (impl_nextSign.j0 k a0 a1 (bt a0 a1) (wrap64 (a1 + 1)) true 0 (⟨#[]⟩ : ByteArray) 0 a1 false) else ((impl_upper.f (bt a0 a1)).bind fun t150 => (if t150 = true then (impl_nextSign.j0 k a0 a1 (bt a0 a1) (wrap64 (a1 + 1)) true 0 (⟨#[]⟩ : ByteArray) 0 a1 false) else (impl_nextSign.j0 k a0 a1 (bt a0 a1) (wrap64 (a1 + 1)) ((bt a0 a1) == 95) 0 (⟨#[]⟩ : ByteArray) 0 a1 false))))) = some (r1,r2,r3,r4,r5,r6):=by rw [if_neg (show ¬ (false = true) by decide)] at H;exact H
  clear H
  have H:=H1
  clear H1
  have HC15:=Aside0.mk H
  clear H
  go_enter Try.func57,Try.ntmps57
  go_upto_region 7 with (first|((with_reducible refine gate_dst (N:=4) rfl ?_);(try (refine gate_guard (by rfl) ?_;dsimp only));refine box_event ?hg (N:=4) ?hd (cs:=#[.int .i64 0,.string (⟨#[]⟩ : ByteArray),.int .i64 0,.int .i64 0,.bool false]) (t:=46) ?hr ?_;(case hd => rfl);(case hg => rfl);(case hr => first|(go_simp;done)|(go_simp;rfl));intro gb146 hg w16 hbox hb;have n0_:=Aside0.mk (below_step (by repeat (first|(with_reducible first|exact HB.out|apply below_alloc|apply pw_below_drewN|apply below_drew1)|exact HB.out)) hb);have n1_:=Aside0.mk (hbox);have n2_:=Aside0.mk ((by rw [hg];exact (below_size (by repeat (first|(with_reducible first|exact HB.out|apply below_alloc|apply pw_below_drewN|apply below_drew1)|exact HB.out))) : w.heap.size ≤ gb146));have n3_:=Aside0.mk ((by rw [hg];exact (below_size (by repeat (first|(with_reducible first|exact HB.out|apply below_alloc|apply pw_below_drewN|apply below_drew1)|exact HB.out))) : w.heap.size ≤ gb146));clear HB;have HB:=n0_;have BK146:=n1_;have GW146:=n2_;have GE146:=n3_;clear n0_ n1_ n2_ n3_;clear hb hbox hg;have p5 : 0 ≤ (a1 : Int):=of_decide_eq_true (by first|(with_reducible assumption)|assumption);have q5 : a1 < (a0.size : Int):=of_decide_eq_true (by first|(with_reducible assumption)|assumption);have hx5:=bt_at a0 a1;replace p5:=eq_true p5;replace q5:=eq_true q5)|((with_reducible refine gate_dst (N:=7) rfl ?_);(try (refine gate_guard (by rfl) ?_;dsimp only));refine box_event ?hg (N:=7) ?hd (cs:=#[.int .i64 0,.string (⟨#[]⟩ : ByteArray),.int .i64 0,.int .i64 0,.bool false]) (t:=46) ?hr ?_;(case hd => rfl);(case hg => rfl);(case hr => first|(go_simp;done)|(go_simp;rfl));intro gb147 hg w17 hbox hb;have n0_:=Aside0.mk (blk_below (g:=gb146) (o:=.cells #[.int .i64 0,.string (⟨#[]⟩ : ByteArray),.int .i64 0,.int .i64 0,.bool false] 46 (0,0)) (by (with_reducible repeat (first|refine blk_drewN ?_ _|refine blk_drew ?_|refine blk_alloc ?_ _));exact BK146.out) hb);have n1_:=Aside0.mk (below_step (by repeat (first|(with_reducible first|exact HB.out|apply below_alloc|apply pw_below_drewN|apply below_drew1|refine below_set ?_ GE146.out)|exact HB.out)) hb);have n2_:=Aside0.mk (hbox);have n3_:=Aside0.mk ((by rw [hg];exact (below_size (by repeat (first|(with_reducible first|exact HB.out|apply below_alloc|apply pw_below_drewN|apply below_drew1|refine below_set ?_ GE146.out)|exact HB.out))) : w.heap.size ≤ gb147));have n4_:=Aside0.mk ((by rw [hg];exact (below_size (by repeat (first|(with_reducible first|exact HB.out|apply below_alloc|apply pw_below_drewN|apply below_drew1|refine below_set ?_ GE146.out)|exact HB.out))) : w.heap.size ≤ gb147));have n5_:=Aside0.mk ((by rw [hg];exact Nat.ne_of_lt (blk_lt (g:=gb146) (o:=.cells #[.int .i64 0,.string (⟨#[]⟩ : ByteArray),.int .i64 0,.int .i64 0,.bool false] 46 (0,0)) (by (with_reducible repeat (first|refine blk_drewN ?_ _|refine blk_drew ?_|refine blk_alloc ?_ _));exact BK146.out)) : gb146 ≠ gb147));have n6_:=Aside0.mk ((by rw [hg];exact Nat.ne_of_gt (blk_lt (g:=gb146) (o:=.cells #[.int .i64 0,.string (⟨#[]⟩ : ByteArray),.int .i64 0,.int .i64 0,.bool false] 46 (0,0)) (by (with_reducible repeat (first|refine blk_drewN ?_ _|refine blk_drew ?_|refine blk_alloc ?_ _));exact BK146.out)) : gb147 ≠ gb146));clear BK146;clear HB;have BK146:=n0_;have HB:=n1_;have BK147:=n2_;have GW147:=n3_;have GE147:=n4_;have NB146_147:=n5_;have NB147_146:=n6_;clear n0_ n1_ n2_ n3_ n4_ n5_ n6_;clear hb hbox hg;have hnb18:=NB147_146.out;have hnc18:=NB146_147.out;have hcz19_0 : w17.cell? ⟨gb147,0,none⟩ = some (.int .i64 0):=(blk_cell BK147.out 0).trans rfl;have hcz19_1 : w17.cell? ⟨gb147,1,none⟩ = some (.string (⟨#[]⟩ : ByteArray)):=(blk_cell BK147.out 1).trans rfl;have hcz19_2 : w17.cell? ⟨gb147,2,none⟩ = some (.int .i64 0):=(blk_cell BK147.out 2).trans rfl;have hcz19_3 : w17.cell? ⟨gb147,3,none⟩ = some (.int .i64 0):=(blk_cell BK147.out 3).trans rfl;have hcz19_4 : w17.cell? ⟨gb147,4,none⟩ = some (.bool false):=(blk_cell BK147.out 4).trans rfl;have hfz19_0:=blk_frozen BK147.out 0;have hfz19_1:=blk_frozen BK147.out 1;have hfz19_2:=blk_frozen BK147.out 2;have hfz19_3:=blk_frozen BK147.out 3;have hfz19_4:=blk_frozen BK147.out 4)|((with_reducible refine gate_callee (f:=70) rfl ?_);refine goesL_ (some 22) rfl rfl Try.func70 (by kernel_rfl) rfl #[.string a0,.int .i64 a1] rfl (by (try simp only [List.map_toArray,List.map_cons,List.map_nil]);first|done|rfl|(simp only [List.length_drop,List.length_take];rfl)) ?_;(with_reducible refine (impl_endsHere.calls k a0 a1 false _ A6.out).mono ?_);rintro e w20 ⟨rfl,hb⟩;refine ⟨_,rfl,?_⟩;have n0_:=Aside0.mk (blk_below (g:=gb146) (o:=.cells #[.int .i64 0,.string (⟨#[]⟩ : ByteArray),.int .i64 0,.int .i64 0,.bool false] 46 (0,0)) (by (with_reducible repeat (first|refine blk_drewN ?_ _|refine blk_drew ?_|refine blk_alloc ?_ _));refine blk_far ?_ NB146_147.out _;(with_reducible repeat (first|refine blk_drewN ?_ _|refine blk_drew ?_|refine blk_alloc ?_ _));refine blk_far ?_ NB146_147.out _;(with_reducible repeat (first|refine blk_drewN ?_ _|refine blk_drew ?_|refine blk_alloc ?_ _));refine blk_far ?_ NB146_147.out _;(with_reducible repeat (first|refine blk_drewN ?_ _|refine blk_drew ?_|refine blk_alloc ?_ _));refine blk_far ?_ NB146_147.out _;(with_reducible repeat (first|refine blk_drewN ?_ _|refine blk_drew ?_|refine blk_alloc ?_ _));refine blk_far ?_ NB146_147.out _;(with_reducible repeat (first|refine blk_drewN ?_ _|refine blk_drew ?_|refine blk_alloc ?_ _));exact BK146.out) hb);have n1_:=Aside0.mk (blk_below (g:=gb147) (o:=.cells #[.int .i64 0,.string (⟨#[]⟩ : ByteArray),.int .i64 0,.int .i64 a1,.bool false] 46 (0,0)) (by (with_reducible repeat (first|refine blk_drewN ?_ _|refine blk_drew ?_|refine blk_alloc ?_ _));refine blk_put (cs:=#[.int .i64 0,.string (⟨#[]⟩ : ByteArray),.int .i64 0,.int .i64 a1,.bool false]) ?_ 4 _ rfl;(with_reducible repeat (first|refine blk_drewN ?_ _|refine blk_drew ?_|refine blk_alloc ?_ _));refine blk_put (cs:=#[.int .i64 0,.string (⟨#[]⟩ : ByteArray),.int .i64 0,.int .i64 0,.bool false]) ?_ 3 _ rfl;(with_reducible repeat (first|refine blk_drewN ?_ _|refine blk_drew ?_|refine blk_alloc ?_ _));refine blk_put (cs:=#[.int .i64 0,.string (⟨#[]⟩ : ByteArray),.int .i64 0,.int .i64 0,.bool false]) ?_ 2 _ rfl;(with_reducible repeat (first|refine blk_drewN ?_ _|refine blk_drew ?_|refine blk_alloc ?_ _));refine blk_put (cs:=#[.int .i64 0,.string (⟨#[]⟩ : ByteArray),.int .i64 0,.int .i64 0,.bool false]) ?_ 1 _ rfl;(with_reducible repeat (first|refine blk_drewN ?_ _|refine blk_drew ?_|refine blk_alloc ?_ _));refine blk_put (cs:=#[.int .i64 0,.string (⟨#[]⟩ : ByteArray),.int .i64 0,.int .i64 0,.bool false]) ?_ 0 _ rfl;(with_reducible repeat (first|refine blk_drewN ?_ _|refine blk_drew ?_|refine blk_alloc ?_ _));exact BK147.out) hb);have n2_:=Aside0.mk (below_step (by repeat (first|(with_reducible first|exact HB.out|apply below_alloc|apply pw_below_drewN|apply below_drew1|refine below_set ?_ GE146.out|refine below_set ?_ GE147.out)|exact HB.out)) hb);clear BK146;clear BK147;clear HB;have BK146:=n0_;have BK147:=n1_;have HB:=n2_;clear n0_ n1_ n2_;(try clear hb)))
  (try simp only [Act.put,List.setIfInBounds_toArray,List.set_cons_zero,List.set_cons_succ])
  go_cut [27] (fun v27 wc => ∃ (kq : Nat) (x27_14 : Bool),v27 = .bool x27_14 ∧ Aside0 (impl_nextSign.j0 kq a0 a1 (bt a0 a1) (wrap64 (a1 + 1)) x27_14 0 (⟨#[]⟩ : ByteArray) 0 a1 false = some (r1,r2,r3,r4,r5,r6)) ∧ Aside0 (kq ≤ k) ∧ Aside0 (wc.heap[gb146]? = some (.cells #[.int .i64 0,.string (⟨#[]⟩ : ByteArray),.int .i64 0,.int .i64 0,.bool false] 46 (0,0))) ∧ Aside0 (wc.heap[gb147]? = some (.cells #[.int .i64 0,.string (⟨#[]⟩ : ByteArray),.int .i64 0,.int .i64 a1,.bool false] 46 (0,0))) ∧ Aside0 (Below w.heap.size w wc))
  case first =>
   have H:=HC15.out
   clear HC15
   replace H:=Option.bind_eq_some_iff.mp H
   obtain ⟨t149,A210,H⟩:=H
   replace H : (if t149 = true then (impl_nextSign.j0 k a0 a1 (bt a0 a1) (wrap64 (a1 + 1)) true 0 (⟨#[]⟩ : ByteArray) 0 a1 false) else ((impl_upper.f (bt a0 a1)).bind fun t150 => (if t150 = true then (impl_nextSign.j0 k a0 a1 (bt a0 a1) (wrap64 (a1 + 1)) true 0 (⟨#[]⟩ : ByteArray) 0 a1 false) else (impl_nextSign.j0 k a0 a1 (bt a0 a1) (wrap64 (a1 + 1)) ((bt a0 a1) == 95) 0 (⟨#[]⟩ : ByteArray) 0 a1 false)))) = some (r1,r2,r3,r4,r5,r6):=H
   have A21:=Aside0.mk A210
   clear A210
   by_cases c22 : t149 = true
   ·subst c22
    have H1 : (impl_nextSign.j0 k a0 a1 (bt a0 a1) (wrap64 (a1 + 1)) true 0 (⟨#[]⟩ : ByteArray) 0 a1 false) = some (r1,r2,r3,r4,r5,r6):=by rw [if_pos rfl] at H;exact H
    clear H
    have H:=H1
    clear H1
    have H':=Aside0.mk H
    clear H
    go_wp2_with (first|((with_reducible refine gate_callee (f:=71) rfl ?_);refine goesL_ (some 29) rfl rfl Try.func71 (by kernel_rfl) rfl #[.int .u8 (bt a0 a1)] rfl (by (try simp only [List.map_toArray,List.map_cons,List.map_nil]);first|done|rfl|(simp only [List.length_drop,List.length_take];rfl)) ?_;(with_reducible refine (impl_lower.calls (bt a0 a1) true _ A21.out).mono ?_);rintro e w' ⟨rfl,⟨nd,rfl⟩⟩;refine ⟨_,rfl,?_⟩))
    go_meet
    case rel => exact ⟨_,(true),(by first|rfl|(simp;done)|(simp [*];done)),H',⟨by first|omega|exact Nat.le_refl _⟩,⟨by (with_reducible repeat (first|refine blk_drewN ?_ _|refine blk_drew ?_|refine blk_alloc ?_ _));exact BK146.out⟩,⟨by (with_reducible repeat (first|refine blk_drewN ?_ _|refine blk_drew ?_|refine blk_alloc ?_ _));exact BK147.out⟩,⟨by repeat (first|(with_reducible first|exact HB.out|apply below_alloc|apply pw_below_drewN|apply below_drew1|refine below_set ?_ GE146.out|refine below_set ?_ GE147.out)|exact HB.out)⟩⟩
   ·replace c22:=Bool.eq_false_iff.mpr c22
    subst c22
    have H1 : ((impl_upper.f (bt a0 a1)).bind fun t150 => (if t150 = true then (impl_nextSign.j0 k a0 a1 (bt a0 a1) (wrap64 (a1 + 1)) true 0 (⟨#[]⟩ : ByteArray) 0 a1 false) else (impl_nextSign.j0 k a0 a1 (bt a0 a1) (wrap64 (a1 + 1)) ((bt a0 a1) == 95) 0 (⟨#[]⟩ : ByteArray) 0 a1 false))) = some (r1,r2,r3,r4,r5,r6):=by rw [if_neg (show ¬ (false = true) by decide)] at H;exact H
    clear H
    have H:=H1
    clear H1
    replace H:=Option.bind_eq_some_iff.mp H
    obtain ⟨t150,A230,H⟩:=H
    replace H : (if t150 = true then (impl_nextSign.j0 k a0 a1 (bt a0 a1) (wrap64 (a1 + 1)) true 0 (⟨#[]⟩ : ByteArray) 0 a1 false) else (impl_nextSign.j0 k a0 a1 (bt a0 a1) (wrap64 (a1 + 1)) ((bt a0 a1) == 95) 0 (⟨#[]⟩ : ByteArray) 0 a1 false)) = some (r1,r2,r3,r4,r5,r6):=H
    have A23:=Aside0.mk A230
    clear A230
    by_cases c24 : t150 = true
    ·subst c24
     have H1 : (impl_nextSign.j0 k a0 a1 (bt a0 a1) (wrap64 (a1 + 1)) true 0 (⟨#[]⟩ : ByteArray) 0 a1 false) = some (r1,r2,r3,r4,r5,r6):=by rw [if_pos rfl] at H;exact H
     clear H
     have H:=H1
     clear H1
     have H':=Aside0.mk H
     clear H
     go_wp2_with (first|((with_reducible refine gate_callee (f:=71) rfl ?_);refine goesL_ (some 29) rfl rfl Try.func71 (by kernel_rfl) rfl #[.int .u8 (bt a0 a1)] rfl (by (try simp only [List.map_toArray,List.map_cons,List.map_nil]);first|done|rfl|(simp only [List.length_drop,List.length_take];rfl)) ?_;(with_reducible refine (impl_lower.calls (bt a0 a1) false _ A21.out).mono ?_);rintro e w' ⟨rfl,⟨nd,rfl⟩⟩;refine ⟨_,rfl,?_⟩)|(go_at_call 72;(with_reducible refine (impl_upper.calls (bt a0 a1) true _ A23.out).mono ?_);rintro e w' ⟨rfl,⟨nd,rfl⟩⟩))
     go_meet
     case rel => exact ⟨_,(true),(by first|rfl|(simp;done)|(simp [*];done)),H',⟨by first|omega|exact Nat.le_refl _⟩,⟨by (with_reducible repeat (first|refine blk_drewN ?_ _|refine blk_drew ?_|refine blk_alloc ?_ _));exact BK146.out⟩,⟨by (with_reducible repeat (first|refine blk_drewN ?_ _|refine blk_drew ?_|refine blk_alloc ?_ _));exact BK147.out⟩,⟨by repeat (first|(with_reducible first|exact HB.out|apply below_alloc|apply pw_below_drewN|apply below_drew1|refine below_set ?_ GE146.out|refine below_set ?_ GE147.out)|exact HB.out)⟩⟩
    ·replace c24:=Bool.eq_false_iff.mpr c24
     subst c24
     have H1 : (impl_nextSign.j0 k a0 a1 (bt a0 a1) (wrap64 (a1 + 1)) ((bt a0 a1) == 95) 0 (⟨#[]⟩ : ByteArray) 0 a1 false) = some (r1,r2,r3,r4,r5,r6):=by rw [if_neg (show ¬ (false = true) by decide)] at H;exact H
     clear H
     have H:=H1
     clear H1
     have H':=Aside0.mk H
     clear H
     go_wp2_with (first|((with_reducible refine gate_callee (f:=71) rfl ?_);refine goesL_ (some 29) rfl rfl Try.func71 (by kernel_rfl) rfl #[.int .u8 (bt a0 a1)] rfl (by (try simp only [List.map_toArray,List.map_cons,List.map_nil]);first|done|rfl|(simp only [List.length_drop,List.length_take];rfl)) ?_;(with_reducible refine (impl_lower.calls (bt a0 a1) false _ A21.out).mono ?_);rintro e w' ⟨rfl,⟨nd,rfl⟩⟩;refine ⟨_,rfl,?_⟩)|(go_at_call 72;(with_reducible refine (impl_upper.calls (bt a0 a1) false _ A23.out).mono ?_);rintro e w' ⟨rfl,⟨nd,rfl⟩⟩))
     go_meet
     case rel => exact ⟨_,(((bt a0 a1) == 95)),(by first|rfl|(simp;done)|(simp [*];done)),H',⟨by first|omega|exact Nat.le_refl _⟩,⟨by (with_reducible repeat (first|refine blk_drewN ?_ _|refine blk_drew ?_|refine blk_alloc ?_ _));exact BK146.out⟩,⟨by (with_reducible repeat (first|refine blk_drewN ?_ _|refine blk_drew ?_|refine blk_alloc ?_ _));exact BK147.out⟩,⟨by repeat (first|(with_reducible first|exact HB.out|apply below_alloc|apply pw_below_drewN|apply below_drew1|refine below_set ?_ GE146.out|refine below_set ?_ GE147.out)|exact HB.out)⟩⟩
  case rest =>
   clear HC15
   try clear c3
   try clear c3b0
   try clear c4
   try clear c4b0
   try clear p5
   try clear q5
   try clear hx5
   try clear c7
   try clear c22
   try clear c24
   try clear hcz11_0
   try clear hcz11_1
   try clear hcz11_2
   try clear hcz11_3
   try clear hcz11_4
   try clear hcz13_0
   try clear hcz13_1
   try clear hcz13_2
   try clear hcz13_3
   try clear hcz13_4
   try clear hcz14_0
   try clear hcz14_1
   try clear hcz14_2
   try clear hcz14_3
   try clear hcz14_4
   try clear hcz19_0
   try clear hcz19_1
   try clear hcz19_2
   try clear hcz19_3
   try clear hcz19_4
   try clear hfz11_0
   try clear hfz11_1
   try clear hfz11_2
   try clear hfz11_3
   try clear hfz11_4
   try clear hfz13_0
   try clear hfz13_1
   try clear hfz13_2
   try clear hfz13_3
   try clear hfz13_4
   try clear hfz14_0
   try clear hfz14_1
   try clear hfz14_2
   try clear hfz14_3
   try clear hfz14_4
   try clear hfz19_0
   try clear hfz19_1
   try clear hfz19_2
   try clear hfz19_3
   try clear hfz19_4
   try clear p5
   try clear q5
   try clear BK146
   try clear BK147
   obtain ⟨kq,x27_14,rfl,HA,HJ14,BK146,BK147,HB⟩:=hcut
   cases kq with
   | zero => exact absurd HA.out (by simp [impl_nextSign.j0])
   | succ kj14 =>
    have H:=HA.out
    clear HA
    simp only [impl_nextSign.j0] at H
    by_cases c25 : x27_14 = true
    ·subst c25
     have H1 : ((fk_impl_run.f kj14 a0 a1 73).bind fun t151 => ((impl_lower.f (bt a0 a1)).bind fun t152 => (if t152 = true then (if 0 ≤ a1 then (if a1 ≤ t151 then (if t151 ≤ (a0.size : Int) then (if 1 = 0 then (if a1 ≤ (wrap64 (a1 + 1)) then (if (wrap64 (a1 + 1)) ≤ (a0.size : Int) then (some (6,a0.extract (a1 : Int).toNat ((wrap64 (a1 + 1)) : Int).toNat,0,a1,false,wrap64 (a1 + 1))) else (none)) else (none)) else (if 1 = 4 then (some (1,a0.extract (a1 : Int).toNat (t151 : Int).toNat,0,a1,false,t151)) else (if ((a0.extract (a1 : Int).toNat (t151 : Int).toNat).size : Int) > 20 then (if a1 ≤ (wrap64 (a1 + 1)) then (if (wrap64 (a1 + 1)) ≤ (a0.size : Int) then (some (6,a0.extract (a1 : Int).toNat ((wrap64 (a1 + 1)) : Int).toNat,0,a1,false,wrap64 (a1 + 1))) else (none)) else (none)) else (some (1,a0.extract (a1 : Int).toNat (t151 : Int).toNat,0,a1,false,t151))))) else (none)) else (none)) else (none)) else (if 0 ≤ a1 then (if a1 ≤ t151 then (if t151 ≤ (a0.size : Int) then (if 2 = 0 then (if a1 ≤ (wrap64 (a1 + 1)) then (if (wrap64 (a1 + 1)) ≤ (a0.size : Int) then (some (6,a0.extract (a1 : Int).toNat ((wrap64 (a1 + 1)) : Int).toNat,0,a1,false,wrap64 (a1 + 1))) else (none)) else (none)) else (if 2 = 4 then (some (2,a0.extract (a1 : Int).toNat (t151 : Int).toNat,0,a1,false,t151)) else (if ((a0.extract (a1 : Int).toNat (t151 : Int).toNat).size : Int) > 20 then (if a1 ≤ (wrap64 (a1 + 1)) then (if (wrap64 (a1 + 1)) ≤ (a0.size : Int) then (some (6,a0.extract (a1 : Int).toNat ((wrap64 (a1 + 1)) : Int).toNat,0,a1,false,wrap64 (a1 + 1))) else (none)) else (none)) else (some (2,a0.extract (a1 : Int).toNat (t151 : Int).toNat,0,a1,false,t151))))) else (none)) else (none)) else (none))))) = some (r1,r2,r3,r4,r5,r6):=by rw [if_pos rfl] at H;exact H
     clear H
     have H:=H1
     clear H1
     replace H:=Option.bind_eq_some_iff.mp H
     obtain ⟨t151,A260,H⟩:=H
     replace H : ((impl_lower.f (bt a0 a1)).bind fun t152 => (if t152 = true then (if 0 ≤ a1 then (if a1 ≤ t151 then (if t151 ≤ (a0.size : Int) then (if 1 = 0 then (if a1 ≤ (wrap64 (a1 + 1)) then (if (wrap64 (a1 + 1)) ≤ (a0.size : Int) then (some (6,a0.extract (a1 : Int).toNat ((wrap64 (a1 + 1)) : Int).toNat,0,a1,false,wrap64 (a1 + 1))) else (none)) else (none)) else (if 1 = 4 then (some (1,a0.extract (a1 : Int).toNat (t151 : Int).toNat,0,a1,false,t151)) else (if ((a0.extract (a1 : Int).toNat (t151 : Int).toNat).size : Int) > 20 then (if a1 ≤ (wrap64 (a1 + 1)) then (if (wrap64 (a1 + 1)) ≤ (a0.size : Int) then (some (6,a0.extract (a1 : Int).toNat ((wrap64 (a1 + 1)) : Int).toNat,0,a1,false,wrap64 (a1 + 1))) else (none)) else (none)) else (some (1,a0.extract (a1 : Int).toNat (t151 : Int).toNat,0,a1,false,t151))))) else (none)) else (none)) else (none)) else (if 0 ≤ a1 then (if a1 ≤ t151 then (if t151 ≤ (a0.size : Int) then (if 2 = 0 then (if a1 ≤ (wrap64 (a1 + 1)) then (if (wrap64 (a1 + 1)) ≤ (a0.size : Int) then (some (6,a0.extract (a1 : Int).toNat ((wrap64 (a1 + 1)) : Int).toNat,0,a1,false,wrap64 (a1 + 1))) else (none)) else (none)) else (if 2 = 4 then (some (2,a0.extract (a1 : Int).toNat (t151 : Int).toNat,0,a1,false,t151)) else (if ((a0.extract (a1 : Int).toNat (t151 : Int).toNat).size : Int) > 20 then (if a1 ≤ (wrap64 (a1 + 1)) then (if (wrap64 (a1 + 1)) ≤ (a0.size : Int) then (some (6,a0.extract (a1 : Int).toNat ((wrap64 (a1 + 1)) : Int).toNat,0,a1,false,wrap64 (a1 + 1))) else (none)) else (none)) else (some (2,a0.extract (a1 : Int).toNat (t151 : Int).toNat,0,a1,false,t151))))) else (none)) else (none)) else (none)))) = some (r1,r2,r3,r4,r5,r6):=H
     have A26:=Aside0.mk A260
     clear A260
     replace H:=Option.bind_eq_some_iff.mp H
     obtain ⟨t152,A270,H⟩:=H
     replace H : (if t152 = true then (if 0 ≤ a1 then (if a1 ≤ t151 then (if t151 ≤ (a0.size : Int) then (if 1 = 0 then (if a1 ≤ (wrap64 (a1 + 1)) then (if (wrap64 (a1 + 1)) ≤ (a0.size : Int) then (some (6,a0.extract (a1 : Int).toNat ((wrap64 (a1 + 1)) : Int).toNat,0,a1,false,wrap64 (a1 + 1))) else (none)) else (none)) else (if 1 = 4 then (some (1,a0.extract (a1 : Int).toNat (t151 : Int).toNat,0,a1,false,t151)) else (if ((a0.extract (a1 : Int).toNat (t151 : Int).toNat).size : Int) > 20 then (if a1 ≤ (wrap64 (a1 + 1)) then (if (wrap64 (a1 + 1)) ≤ (a0.size : Int) then (some (6,a0.extract (a1 : Int).toNat ((wrap64 (a1 + 1)) : Int).toNat,0,a1,false,wrap64 (a1 + 1))) else (none)) else (none)) else (some (1,a0.extract (a1 : Int).toNat (t151 : Int).toNat,0,a1,false,t151))))) else (none)) else (none)) else (none)) else (if 0 ≤ a1 then (if a1 ≤ t151 then (if t151 ≤ (a0.size : Int) then (if 2 = 0 then (if a1 ≤ (wrap64 (a1 + 1)) then (if (wrap64 (a1 + 1)) ≤ (a0.size : Int) then (some (6,a0.extract (a1 : Int).toNat ((wrap64 (a1 + 1)) : Int).toNat,0,a1,false,wrap64 (a1 + 1))) else (none)) else (none)) else (if 2 = 4 then (some (2,a0.extract (a1 : Int).toNat (t151 : Int).toNat,0,a1,false,t151)) else (if ((a0.extract (a1 : Int).toNat (t151 : Int).toNat).size : Int) > 20 then (if a1 ≤ (wrap64 (a1 + 1)) then (if (wrap64 (a1 + 1)) ≤ (a0.size : Int) then (some (6,a0.extract (a1 : Int).toNat ((wrap64 (a1 + 1)) : Int).toNat,0,a1,false,wrap64 (a1 + 1))) else (none)) else (none)) else (some (2,a0.extract (a1 : Int).toNat (t151 : Int).toNat,0,a1,false,t151))))) else (none)) else (none)) else (none))) = some (r1,r2,r3,r4,r5,r6):=H
     have A27:=Aside0.mk A270
     clear A270
     by_cases c28 : t152 = true
     ·subst c28
      have H1 : (if 0 ≤ a1 then (if a1 ≤ t151 then (if t151 ≤ (a0.size : Int) then (if 1 = 0 then (if a1 ≤ (wrap64 (a1 + 1)) then (if (wrap64 (a1 + 1)) ≤ (a0.size : Int) then (some (6,a0.extract (a1 : Int).toNat ((wrap64 (a1 + 1)) : Int).toNat,0,a1,false,wrap64 (a1 + 1))) else (none)) else (none)) else (if 1 = 4 then (some (1,a0.extract (a1 : Int).toNat (t151 : Int).toNat,0,a1,false,t151)) else (if ((a0.extract (a1 : Int).toNat (t151 : Int).toNat).size : Int) > 20 then (if a1 ≤ (wrap64 (a1 + 1)) then (if (wrap64 (a1 + 1)) ≤ (a0.size : Int) then (some (6,a0.extract (a1 : Int).toNat ((wrap64 (a1 + 1)) : Int).toNat,0,a1,false,wrap64 (a1 + 1))) else (none)) else (none)) else (some (1,a0.extract (a1 : Int).toNat (t151 : Int).toNat,0,a1,false,t151))))) else (none)) else (none)) else (none)) = some (r1,r2,r3,r4,r5,r6):=by rw [if_pos rfl] at H;exact H
      clear H
      have H:=H1
      clear H1
      by_cases c29 : 0 ≤ a1
      rotate_left
      ·rw [if_neg c29] at H
       exact absurd H (by simp)
      rw [if_pos c29] at H
      have c29b0:=eq_true c29
      have c29b1 : decide (0 ≤ a1) = true:=decide_eq_true c29
      clear c29
      by_cases c30 : a1 ≤ t151
      rotate_left
      ·rw [if_neg c30] at H
       exact absurd H (by simp)
      rw [if_pos c30] at H
      have c30b0:=eq_true c30
      have c30b1 : decide (a1 ≤ t151) = true:=decide_eq_true c30
      clear c30
      by_cases c31 : t151 ≤ (a0.size : Int)
      rotate_left
      ·rw [if_neg c31] at H
       exact absurd H (by simp)
      rw [if_pos c31] at H
      have c31b0:=eq_true c31
      have c31b1 : decide (t151 ≤ (a0.size : Int)) = true:=decide_eq_true c31
      clear c31
      by_cases c32 : 1 = 0
      ·exact absurd c32 (by decide)
      ·first|rw [if_neg c32] at H|rw [if_neg not_false] at H
       have c32b0 : (1 == 0) = false:=beq_eq_false_iff_ne.mpr c32
       have c32b1 : (1 != 0) = true:=bne_iff_ne.mpr c32
       by_cases c45 : 1 = 4
       ·exact absurd c45 (by decide)
       ·first|rw [if_neg c45] at H|rw [if_neg not_false] at H
        have c45b0 : (1 == 4) = false:=beq_eq_false_iff_ne.mpr c45
        have c45b1 : (1 != 4) = true:=bne_iff_ne.mpr c45
        by_cases c50 : ((a0.extract (a1 : Int).toNat (t151 : Int).toNat).size : Int) > 20
        ·rw [if_pos c50] at H
         have c50b0 : decide (20 < ((a0.extract (a1 : Int).toNat (t151 : Int).toNat).size : Int)) = true:=decide_eq_true c50
         have c50b2 : decide (20 < ((((t151 : Int)).toNat - ((a1 : Int)).toNat : Nat) : Int)) = true:=by have h_:=c50b0;have hx_ : (t151) ≤ (a0.size : Int):=of_decide_eq_true (by first|(with_reducible assumption)|assumption);rw [ByteArray.size_extract,Nat.min_eq_left (by omega)] at h_;exact h_
         have c50b1 : decide (20 < (a0.extract (a1 : Int).toNat (t151 : Int).toNat).size) = true:=decide_eq_true (by omega)
         clear c50
         have c51b0:=eq_true (of_decide_eq_true (by first|(with_reducible assumption)|assumption) : 0 ≤ a1)
         by_cases c52 : a1 ≤ (wrap64 (a1 + 1))
         rotate_left
         ·rw [if_neg c52] at H
          exact absurd H (by simp)
         rw [if_pos c52] at H
         have c52b0:=eq_true c52
         have c52b1 : decide (a1 ≤ (wrap64 (a1 + 1))) = true:=decide_eq_true c52
         by_cases c53 : (wrap64 (a1 + 1)) ≤ (a0.size : Int)
         rotate_left
         ·rw [if_neg c53] at H
          exact absurd H (by simp)
         rw [if_pos c53] at H
         have c53b0:=eq_true c53
         have c53b1 : decide ((wrap64 (a1 + 1)) ≤ (a0.size : Int)) = true:=decide_eq_true c53
         simp only [Option.some.injEq,Prod.mk.injEq] at H
         obtain ⟨rfl,rfl,rfl,rfl,rfl,rfl⟩:=H
         try go_wp2_with (first|((with_reducible refine gate_callee (f:=55) rfl ?_);refine goesL_ (some 40) rfl rfl Try.func55 (by kernel_rfl) rfl #[.string a0,.int .i64 a1,.func (.func 73) #[] #[]] rfl (by (try simp only [List.map_toArray,List.map_cons,List.map_nil]);first|done|rfl|(simp only [List.length_drop,List.length_take];rfl)) ?_;(with_reducible refine (fk_impl_run.calls_73 kj14 a0 a1 t151 _ A26.out).mono ?_);rintro e w54 ⟨rfl,hb⟩;refine ⟨_,rfl,?_⟩;have n0_:=Aside0.mk (blk_below (g:=gb146) (o:=.cells #[.int .i64 0,.string (⟨#[]⟩ : ByteArray),.int .i64 0,.int .i64 0,.bool false] 46 (0,0)) (by (with_reducible repeat (first|refine blk_drewN ?_ _|refine blk_drew ?_|refine blk_alloc ?_ _));exact BK146.out) hb);have n1_:=Aside0.mk (blk_below (g:=gb147) (o:=.cells #[.int .i64 0,.string (⟨#[]⟩ : ByteArray),.int .i64 0,.int .i64 a1,.bool false] 46 (0,0)) (by (with_reducible repeat (first|refine blk_drewN ?_ _|refine blk_drew ?_|refine blk_alloc ?_ _));exact BK147.out) hb);have n2_:=Aside0.mk (below_step (by repeat (first|(with_reducible first|exact HB.out|apply below_alloc|apply pw_below_drewN|apply below_drew1|refine below_set ?_ GE146.out|refine below_set ?_ GE147.out)|exact HB.out)) hb);clear BK146;clear BK147;clear HB;have BK146:=n0_;have BK147:=n1_;have HB:=n2_;clear n0_ n1_ n2_;(try clear hb);(try clear hb2);(try clear hk);(try clear hi);have hnb55:=NB147_146.out;have hnc55:=NB146_147.out;have hcz56_0 : w54.cell? ⟨gb147,0,none⟩ = some (.int .i64 0):=(blk_cell BK147.out 0).trans rfl;have hcz56_1 : w54.cell? ⟨gb147,1,none⟩ = some (.string (⟨#[]⟩ : ByteArray)):=(blk_cell BK147.out 1).trans rfl;have hcz56_2 : w54.cell? ⟨gb147,2,none⟩ = some (.int .i64 0):=(blk_cell BK147.out 2).trans rfl;have hcz56_3 : w54.cell? ⟨gb147,3,none⟩ = some (.int .i64 a1):=(blk_cell BK147.out 3).trans rfl;have hcz56_4 : w54.cell? ⟨gb147,4,none⟩ = some (.bool false):=(blk_cell BK147.out 4).trans rfl;have hfz56_0:=blk_frozen BK147.out 0;have hfz56_1:=blk_frozen BK147.out 1;have hfz56_2:=blk_frozen BK147.out 2;have hfz56_3:=blk_frozen BK147.out 3;have hfz56_4:=blk_frozen BK147.out 4)|((with_reducible refine gate_callee (f:=71) rfl ?_);refine goesL_ (some 43) rfl rfl Try.func71 (by kernel_rfl) rfl #[.int .u8 (bt a0 a1)] rfl (by (try simp only [List.map_toArray,List.map_cons,List.map_nil]);first|done|rfl|(simp only [List.length_drop,List.length_take];rfl)) ?_;(with_reducible refine (impl_lower.calls (bt a0 a1) true _ A27.out).mono ?_);rintro e w' ⟨rfl,⟨nd,rfl⟩⟩;refine ⟨_,rfl,?_⟩))
         have n0_ : Aside0 ((((w54.setCell ⟨gb147,0,none⟩ (.int .i64 2)).setCell ⟨gb147,0,none⟩ (.int .i64 1)).setCell ⟨gb147,1,none⟩ (.string (a0.extract (a1 : Int).toNat (t151 : Int).toNat))).heap[gb146]? = some (.cells #[.int .i64 0,.string (⟨#[]⟩ : ByteArray),.int .i64 0,.int .i64 0,.bool false] 46 (0,0))):=⟨by (with_reducible repeat (first|refine blk_drewN ?_ _|refine blk_drew ?_|refine blk_alloc ?_ _));refine blk_far ?_ NB146_147.out _;(with_reducible repeat (first|refine blk_drewN ?_ _|refine blk_drew ?_|refine blk_alloc ?_ _));refine blk_far ?_ NB146_147.out _;(with_reducible repeat (first|refine blk_drewN ?_ _|refine blk_drew ?_|refine blk_alloc ?_ _));refine blk_far ?_ NB146_147.out _;(with_reducible repeat (first|refine blk_drewN ?_ _|refine blk_drew ?_|refine blk_alloc ?_ _));exact BK146.out⟩
         have n1_ : Aside0 ((((w54.setCell ⟨gb147,0,none⟩ (.int .i64 2)).setCell ⟨gb147,0,none⟩ (.int .i64 1)).setCell ⟨gb147,1,none⟩ (.string (a0.extract (a1 : Int).toNat (t151 : Int).toNat))).heap[gb147]? = some (.cells #[.int .i64 1,.string (a0.extract (a1 : Int).toNat (t151 : Int).toNat),.int .i64 0,.int .i64 a1,.bool false] 46 (0,0))):=⟨by (with_reducible repeat (first|refine blk_drewN ?_ _|refine blk_drew ?_|refine blk_alloc ?_ _));refine blk_put (cs:=#[.int .i64 1,.string (⟨#[]⟩ : ByteArray),.int .i64 0,.int .i64 a1,.bool false]) ?_ 1 _ rfl;(with_reducible repeat (first|refine blk_drewN ?_ _|refine blk_drew ?_|refine blk_alloc ?_ _));refine blk_put (cs:=#[.int .i64 2,.string (⟨#[]⟩ : ByteArray),.int .i64 0,.int .i64 a1,.bool false]) ?_ 0 _ rfl;(with_reducible repeat (first|refine blk_drewN ?_ _|refine blk_drew ?_|refine blk_alloc ?_ _));refine blk_put (cs:=#[.int .i64 0,.string (⟨#[]⟩ : ByteArray),.int .i64 0,.int .i64 a1,.bool false]) ?_ 0 _ rfl;(with_reducible repeat (first|refine blk_drewN ?_ _|refine blk_drew ?_|refine blk_alloc ?_ _));exact BK147.out⟩
         have n2_ : Aside0 (Below w.heap.size w (((w54.setCell ⟨gb147,0,none⟩ (.int .i64 2)).setCell ⟨gb147,0,none⟩ (.int .i64 1)).setCell ⟨gb147,1,none⟩ (.string (a0.extract (a1 : Int).toNat (t151 : Int).toNat)))):=⟨by repeat (first|(with_reducible first|exact HB.out|apply below_alloc|apply pw_below_drewN|apply below_drew1|refine below_set ?_ GE146.out|refine below_set ?_ GE147.out)|exact HB.out)⟩
         (try clear BK146)
         (try clear BK147)
         (try clear HB)
         (try simp only [setCell_drewN])
         generalize (((w54.setCell ⟨gb147,0,none⟩ (.int .i64 2)).setCell ⟨gb147,0,none⟩ (.int .i64 1)).setCell ⟨gb147,1,none⟩ (.string (a0.extract (a1 : Int).toNat (t151 : Int).toNat))) = w57 at n0_ n1_ n2_ ⊢
         have BK146:=n0_
         have BK147:=n1_
         have HB:=n2_
         clear n0_ n1_ n2_
         (try (rw [drewN_self w57];generalize hq_ : World.drewN w57 _ = w57;have n0_ : Aside0 (w57.heap[gb146]? = some (.cells #[.int .i64 0,.string (⟨#[]⟩ : ByteArray),.int .i64 0,.int .i64 0,.bool false] 46 (0,0))):=⟨by rw [← hq_];exact (by (with_reducible repeat (first|refine blk_drewN ?_ _|refine blk_drew ?_|refine blk_alloc ?_ _));exact BK146.out)⟩;have n1_ : Aside0 (w57.heap[gb147]? = some (.cells #[.int .i64 1,.string (a0.extract (a1 : Int).toNat (t151 : Int).toNat),.int .i64 0,.int .i64 a1,.bool false] 46 (0,0))):=⟨by rw [← hq_];exact (by (with_reducible repeat (first|refine blk_drewN ?_ _|refine blk_drew ?_|refine blk_alloc ?_ _));exact BK147.out)⟩;have n2_ : Aside0 (Below w.heap.size w w57):=⟨by rw [← hq_];exact (by repeat (first|(with_reducible first|exact HB.out|apply below_alloc|apply pw_below_drewN|apply below_drew1|refine below_set ?_ GE146.out|refine below_set ?_ GE147.out)|exact HB.out))⟩;clear BK146 BK147 HB hq_;have BK146:=n0_;have BK147:=n1_;have HB:=n2_;clear n0_ n1_ n2_;(try have hyq146_0:=(blk_cell BK146.out 0).trans (rfl : _ = some _));(try have hyf146_0:=blk_frozen BK146.out 0);(try have hyq146_1:=(blk_cell BK146.out 1).trans (rfl : _ = some _));(try have hyf146_1:=blk_frozen BK146.out 1);(try have hyq146_2:=(blk_cell BK146.out 2).trans (rfl : _ = some _));(try have hyf146_2:=blk_frozen BK146.out 2);(try have hyq146_3:=(blk_cell BK146.out 3).trans (rfl : _ = some _));(try have hyf146_3:=blk_frozen BK146.out 3);(try have hyq147_0:=(blk_cell BK147.out 0).trans (rfl : _ = some _));(try have hyf147_0:=blk_frozen BK147.out 0);(try have hyq147_1:=(blk_cell BK147.out 1).trans (rfl : _ = some _));(try have hyf147_1:=blk_frozen BK147.out 1);(try have hyq147_2:=(blk_cell BK147.out 2).trans (rfl : _ = some _));(try have hyf147_2:=blk_frozen BK147.out 2);(try have hyq147_3:=(blk_cell BK147.out 3).trans (rfl : _ = some _));(try have hyf147_3:=blk_frozen BK147.out 3)))
         have n0_:=Aside0.mk (blk_drew BK146.out)
         have n1_:=Aside0.mk (blk_drew BK147.out)
         have n2_:=Aside0.mk (below_drew1 HB.out)
         clear BK146
         clear BK147
         clear HB
         have BK146:=n0_
         have BK147:=n1_
         have HB:=n2_
         clear n0_ n1_ n2_
         refine start_ (n:=9) (S:=fun w' => True) (ds:=[]) #[false,false,false,false,false,false,false,false,false] (by kernel_rfl) rfl rfl trivial (fun hHeld => ?_);refine with_tabW impl_nextSign.tab36 impl_nextSign.bits36 (fun HT_ HW_ => ?_)
         generalize w57.drew = w58 at BK146 BK147 HB hHeld ⊢
         refine pure_ (i:=0) (N:=some 149) (v:=?_) (a':=?_) #[true,false,false,false,false,false,false,false,false] rfl rfl (any_of HT_.out (by kernel_rfl)) (fun _ _ _ h => h) (Or.inl ⟨by rfl,?_⟩) ?_ ?_
         rotate_left
         ·intro w'
          go_simp
          with_reducible rfl
         rotate_left
         ·simp only [Act.put,List.setIfInBounds_toArray,List.set_cons_zero,List.set_cons_succ,i64_w,i32_w]
          rfl
         refine pure_ (i:=1) (N:=some 150) (v:=?_) (a':=?_) #[true,true,false,false,false,false,false,false,false] rfl rfl (any_of HT_.out (by kernel_rfl)) (fun _ _ _ h => h) (Or.inl ⟨by rfl,?_⟩) ?_ ?_
         rotate_left
         ·intro w'
          go_simp
          with_reducible rfl
         rotate_left
         ·simp only [Act.put,List.setIfInBounds_toArray,List.set_cons_zero,List.set_cons_succ,i64_w,i32_w]
          rfl
         refine pure_ (i:=2) (N:=some 151) (v:=?_) (a':=?_) #[true,true,true,false,false,false,false,false,false] rfl rfl (any_of HT_.out (by kernel_rfl)) (fun _ _ _ h => h) (Or.inl ⟨by rfl,?_⟩) ?_ ?_
         rotate_left
         ·intro w'
          go_simp
          with_reducible rfl
         rotate_left
         ·simp only [Act.put,List.setIfInBounds_toArray,List.set_cons_zero,List.set_cons_succ,i64_w,i32_w]
          rfl
         refine pure_ (i:=3) (N:=some 152) (v:=?_) (a':=?_) #[true,true,true,true,false,false,false,false,false] rfl rfl (any_of HT_.out (by kernel_rfl)) (fun _ _ _ h => h) (Or.inl ⟨by rfl,?_⟩) ?_ ?_
         rotate_left
         ·intro w'
          go_simp
          with_reducible rfl
         rotate_left
         ·simp only [Act.put,List.setIfInBounds_toArray,List.set_cons_zero,List.set_cons_succ,i64_w,i32_w]
          rfl
         refine pure_ (i:=4) (N:=some 153) (v:=?_) (a':=?_) #[true,true,true,true,true,false,false,false,false] rfl rfl (any_of HT_.out (by kernel_rfl)) (fun _ _ _ h => h) (Or.inl ⟨by rfl,?_⟩) ?_ ?_
         rotate_left
         ·intro w'
          go_simp
          with_reducible rfl
         rotate_left
         ·simp only [Act.put,List.setIfInBounds_toArray,List.set_cons_zero,List.set_cons_succ,i64_w,i32_w]
          rfl
         refine pure_ (i:=5) (N:=some 154) (v:=?_) (a':=?_) #[true,true,true,true,true,true,false,false,false] rfl rfl (any_of HT_.out (by kernel_rfl)) (fun _ _ _ h => h) (Or.inl ⟨by rfl,?_⟩) ?_ ?_
         rotate_left
         ·intro w'
          go_simp
          with_reducible rfl
         rotate_left
         ·simp only [Act.put,List.setIfInBounds_toArray,List.set_cons_zero,List.set_cons_succ,i64_w,i32_w]
          rfl
         refine one_ (i:=6) (N:=none) #[true,true,true,true,true,true,true,false,false] rfl rfl (one_of HT_.out (by kernel_rfl)) (by decide) (fun K hK => ?_)
         have hs59 : w58.cell? ⟨gb147,0,none⟩ = some (.int .i64 1):=(blk_cell BK147.out 0).trans rfl
         have hfs59:=blk_frozen BK147.out 0
         have hns59_0:=NB146_147.out
         have hms59_0:=NB147_146.out
         refine skip_ (w1:=?_) (by rfl) rfl ?_ ?_
         rotate_left
         ·go_simp
          rfl
         refine hK.out _ _ trivial (fun hHeld => ?_)
         clear hK K
         refine pure_ (i:=7) (N:=some 155) (v:=?_) (a':=?_) #[true,true,true,true,true,true,true,true,false] rfl rfl (any_of HT_.out (by kernel_rfl)) (fun _ _ _ h => h) (Or.inl ⟨by rfl,?_⟩) ?_ ?_
         rotate_left
         ·intro w'
          go_simp
          with_reducible rfl
         rotate_left
         ·simp only [Act.put,List.setIfInBounds_toArray,List.set_cons_zero,List.set_cons_succ,i64_w,i32_w]
          rfl
         refine one_ (i:=8) (N:=none) #[true,true,true,true,true,true,true,true,true] rfl rfl (one_of HT_.out (by kernel_rfl)) (by decide) (fun K hK => ?_)
         have hs60 : w58.cell? ⟨gb147,1,none⟩ = some (.string (a0.extract (a1 : Int).toNat (t151 : Int).toNat)):=(blk_cell BK147.out 1).trans rfl
         have hfs60:=blk_frozen BK147.out 1
         have hns60_0:=NB146_147.out
         have hms60_0:=NB147_146.out
         refine skip_ (w1:=?_) (by rfl) rfl ?_ ?_
         rotate_left
         ·go_simp
          rfl
         refine hK.out _ _ trivial (fun hHeld => ?_)
         clear hK K
         refine done_ (done_of HT_.out (by kernel_rfl)) ?_
         have hcz61_0 : w58.cell? ⟨gb147,0,none⟩ = some (.int .i64 1):=(blk_cell BK147.out 0).trans rfl
         have hcz61_1 : w58.cell? ⟨gb147,1,none⟩ = some (.string (a0.extract (a1 : Int).toNat (t151 : Int).toNat)):=(blk_cell BK147.out 1).trans rfl
         have hcz61_2 : w58.cell? ⟨gb147,2,none⟩ = some (.int .i64 0):=(blk_cell BK147.out 2).trans rfl
         have hcz61_3 : w58.cell? ⟨gb147,3,none⟩ = some (.int .i64 a1):=(blk_cell BK147.out 3).trans rfl
         have hcz61_4 : w58.cell? ⟨gb147,4,none⟩ = some (.bool false):=(blk_cell BK147.out 4).trans rfl
         have hfz61_0:=blk_frozen BK147.out 0
         have hfz61_1:=blk_frozen BK147.out 1
         have hfz61_2:=blk_frozen BK147.out 2
         have hfz61_3:=blk_frozen BK147.out 3
         have hfz61_4:=blk_frozen BK147.out 4
         have hcz62_0 : w58.cell? ⟨gb146,0,none⟩ = some (.int .i64 0):=(blk_cell BK146.out 0).trans rfl
         have hcz62_1 : w58.cell? ⟨gb146,1,none⟩ = some (.string (⟨#[]⟩ : ByteArray)):=(blk_cell BK146.out 1).trans rfl
         have hcz62_2 : w58.cell? ⟨gb146,2,none⟩ = some (.int .i64 0):=(blk_cell BK146.out 2).trans rfl
         have hcz62_3 : w58.cell? ⟨gb146,3,none⟩ = some (.int .i64 0):=(blk_cell BK146.out 3).trans rfl
         have hcz62_4 : w58.cell? ⟨gb146,4,none⟩ = some (.bool false):=(blk_cell BK146.out 4).trans rfl
         have hfz62_0:=blk_frozen BK146.out 0
         have hfz62_1:=blk_frozen BK146.out 1
         have hfz62_2:=blk_frozen BK146.out 2
         have hfz62_3:=blk_frozen BK146.out 3
         have hfz62_4:=blk_frozen BK146.out 4
         try go_wp2
         refine bodyPost_ret (results_ct rfl _ _ gb146 46 #[.int .i64 6,.string (a0.extract (a1 : Int).toNat ((wrap64 (a1 + 1)) : Int).toNat),.int .i64 0,.int .i64 a1,.bool false] (0,0) _ rfl (by (with_reducible repeat (first|refine blk_drewN ?_ _|refine blk_drew ?_|refine blk_alloc ?_ _));refine blk_put (cs:=#[.int .i64 6,.string (a0.extract (a1 : Int).toNat ((wrap64 (a1 + 1)) : Int).toNat),.int .i64 0,.int .i64 a1,.bool false]) ?_ 4 _ rfl;(with_reducible repeat (first|refine blk_drewN ?_ _|refine blk_drew ?_|refine blk_alloc ?_ _));refine blk_put (cs:=#[.int .i64 6,.string (a0.extract (a1 : Int).toNat ((wrap64 (a1 + 1)) : Int).toNat),.int .i64 0,.int .i64 0,.bool false]) ?_ 3 _ rfl;(with_reducible repeat (first|refine blk_drewN ?_ _|refine blk_drew ?_|refine blk_alloc ?_ _));refine blk_put (cs:=#[.int .i64 6,.string (a0.extract (a1 : Int).toNat ((wrap64 (a1 + 1)) : Int).toNat),.int .i64 0,.int .i64 0,.bool false]) ?_ 2 _ rfl;(with_reducible repeat (first|refine blk_drewN ?_ _|refine blk_drew ?_|refine blk_alloc ?_ _));refine blk_put (cs:=#[.int .i64 6,.string (⟨#[]⟩ : ByteArray),.int .i64 0,.int .i64 0,.bool false]) ?_ 1 _ rfl;(with_reducible repeat (first|refine blk_drewN ?_ _|refine blk_drew ?_|refine blk_alloc ?_ _));refine blk_put (cs:=#[.int .i64 0,.string (⟨#[]⟩ : ByteArray),.int .i64 0,.int .i64 0,.bool false]) ?_ 0 _ rfl;(with_reducible repeat (first|refine blk_drewN ?_ _|refine blk_drew ?_|refine blk_alloc ?_ _));refine blk_far ?_ NB146_147.out _;(with_reducible repeat (first|refine blk_drewN ?_ _|refine blk_drew ?_|refine blk_alloc ?_ _));refine blk_far ?_ NB146_147.out _;(with_reducible repeat (first|refine blk_drewN ?_ _|refine blk_drew ?_|refine blk_alloc ?_ _));exact BK146.out) Try.underlying46 rfl (by kernel_rfl)) rfl ?_
         exact ⟨by first|rfl|(simp [errW_none,errW_some] <;> rfl)|(simp [*,errW_none,errW_some] <;> rfl),by repeat (first|(with_reducible first|exact HB.out|apply below_alloc|apply pw_below_drewN|apply below_drew1|refine below_set ?_ GE146.out|refine below_set ?_ GE147.out)|exact HB.out)⟩
        ·rw [if_neg c50] at H
         have c50b0 : decide (20 < ((a0.extract (a1 : Int).toNat (t151 : Int).toNat).size : Int)) = false:=decide_eq_false c50
         have c50b2 : decide (20 < ((((t151 : Int)).toNat - ((a1 : Int)).toNat : Nat) : Int)) = false:=by have h_:=c50b0;have hx_ : (t151) ≤ (a0.size : Int):=of_decide_eq_true (by first|(with_reducible assumption)|assumption);rw [ByteArray.size_extract,Nat.min_eq_left (by omega)] at h_;exact h_
         have c50b1 : decide (20 < (a0.extract (a1 : Int).toNat (t151 : Int).toNat).size) = false:=decide_eq_false (by omega)
         clear c50
         simp only [Option.some.injEq,Prod.mk.injEq] at H
         obtain ⟨rfl,rfl,rfl,rfl,rfl,rfl⟩:=H
         go_wp2_with (first|((with_reducible refine gate_callee (f:=55) rfl ?_);refine goesL_ (some 40) rfl rfl Try.func55 (by kernel_rfl) rfl #[.string a0,.int .i64 a1,.func (.func 73) #[] #[]] rfl (by (try simp only [List.map_toArray,List.map_cons,List.map_nil]);first|done|rfl|(simp only [List.length_drop,List.length_take];rfl)) ?_;(with_reducible refine (fk_impl_run.calls_73 kj14 a0 a1 t151 _ A26.out).mono ?_);rintro e w63 ⟨rfl,hb⟩;refine ⟨_,rfl,?_⟩;have n0_:=Aside0.mk (blk_below (g:=gb146) (o:=.cells #[.int .i64 0,.string (⟨#[]⟩ : ByteArray),.int .i64 0,.int .i64 0,.bool false] 46 (0,0)) (by (with_reducible repeat (first|refine blk_drewN ?_ _|refine blk_drew ?_|refine blk_alloc ?_ _));exact BK146.out) hb);have n1_:=Aside0.mk (blk_below (g:=gb147) (o:=.cells #[.int .i64 0,.string (⟨#[]⟩ : ByteArray),.int .i64 0,.int .i64 a1,.bool false] 46 (0,0)) (by (with_reducible repeat (first|refine blk_drewN ?_ _|refine blk_drew ?_|refine blk_alloc ?_ _));exact BK147.out) hb);have n2_:=Aside0.mk (below_step (by repeat (first|(with_reducible first|exact HB.out|apply below_alloc|apply pw_below_drewN|apply below_drew1|refine below_set ?_ GE146.out|refine below_set ?_ GE147.out)|exact HB.out)) hb);clear BK146;clear BK147;clear HB;have BK146:=n0_;have BK147:=n1_;have HB:=n2_;clear n0_ n1_ n2_;(try clear hb);(try clear hb2);(try clear hk);(try clear hi);have hnb64:=NB147_146.out;have hnc64:=NB146_147.out;have hcz65_0 : w63.cell? ⟨gb147,0,none⟩ = some (.int .i64 0):=(blk_cell BK147.out 0).trans rfl;have hcz65_1 : w63.cell? ⟨gb147,1,none⟩ = some (.string (⟨#[]⟩ : ByteArray)):=(blk_cell BK147.out 1).trans rfl;have hcz65_2 : w63.cell? ⟨gb147,2,none⟩ = some (.int .i64 0):=(blk_cell BK147.out 2).trans rfl;have hcz65_3 : w63.cell? ⟨gb147,3,none⟩ = some (.int .i64 a1):=(blk_cell BK147.out 3).trans rfl;have hcz65_4 : w63.cell? ⟨gb147,4,none⟩ = some (.bool false):=(blk_cell BK147.out 4).trans rfl;have hfz65_0:=blk_frozen BK147.out 0;have hfz65_1:=blk_frozen BK147.out 1;have hfz65_2:=blk_frozen BK147.out 2;have hfz65_3:=blk_frozen BK147.out 3;have hfz65_4:=blk_frozen BK147.out 4)|((with_reducible refine gate_callee (f:=71) rfl ?_);refine goesL_ (some 43) rfl rfl Try.func71 (by kernel_rfl) rfl #[.int .u8 (bt a0 a1)] rfl (by (try simp only [List.map_toArray,List.map_cons,List.map_nil]);first|done|rfl|(simp only [List.length_drop,List.length_take];rfl)) ?_;(with_reducible refine (impl_lower.calls (bt a0 a1) true _ A27.out).mono ?_);rintro e w' ⟨rfl,⟨nd,rfl⟩⟩;refine ⟨_,rfl,?_⟩;have hcz66_0 : w63.cell? ⟨gb146,0,none⟩ = some (.int .i64 0):=(blk_cell BK146.out 0).trans rfl;have hcz66_1 : w63.cell? ⟨gb146,1,none⟩ = some (.string (⟨#[]⟩ : ByteArray)):=(blk_cell BK146.out 1).trans rfl;have hcz66_2 : w63.cell? ⟨gb146,2,none⟩ = some (.int .i64 0):=(blk_cell BK146.out 2).trans rfl;have hcz66_3 : w63.cell? ⟨gb146,3,none⟩ = some (.int .i64 0):=(blk_cell BK146.out 3).trans rfl;have hcz66_4 : w63.cell? ⟨gb146,4,none⟩ = some (.bool false):=(blk_cell BK146.out 4).trans rfl;have hfz66_0:=blk_frozen BK146.out 0;have hfz66_1:=blk_frozen BK146.out 1;have hfz66_2:=blk_frozen BK146.out 2;have hfz66_3:=blk_frozen BK146.out 3;have hfz66_4:=blk_frozen BK146.out 4))
         refine bodyPost_ret (results_ct rfl _ _ gb146 46 #[.int .i64 1,.string (a0.extract (a1 : Int).toNat (t151 : Int).toNat),.int .i64 0,.int .i64 a1,.bool false] (0,0) _ rfl (by (with_reducible repeat (first|refine blk_drewN ?_ _|refine blk_drew ?_|refine blk_alloc ?_ _));refine blk_put (cs:=#[.int .i64 1,.string (a0.extract (a1 : Int).toNat (t151 : Int).toNat),.int .i64 0,.int .i64 a1,.bool false]) ?_ 4 _ rfl;(with_reducible repeat (first|refine blk_drewN ?_ _|refine blk_drew ?_|refine blk_alloc ?_ _));refine blk_put (cs:=#[.int .i64 1,.string (a0.extract (a1 : Int).toNat (t151 : Int).toNat),.int .i64 0,.int .i64 0,.bool false]) ?_ 3 _ rfl;(with_reducible repeat (first|refine blk_drewN ?_ _|refine blk_drew ?_|refine blk_alloc ?_ _));refine blk_put (cs:=#[.int .i64 1,.string (a0.extract (a1 : Int).toNat (t151 : Int).toNat),.int .i64 0,.int .i64 0,.bool false]) ?_ 2 _ rfl;(with_reducible repeat (first|refine blk_drewN ?_ _|refine blk_drew ?_|refine blk_alloc ?_ _));refine blk_put (cs:=#[.int .i64 1,.string (⟨#[]⟩ : ByteArray),.int .i64 0,.int .i64 0,.bool false]) ?_ 1 _ rfl;(with_reducible repeat (first|refine blk_drewN ?_ _|refine blk_drew ?_|refine blk_alloc ?_ _));refine blk_put (cs:=#[.int .i64 0,.string (⟨#[]⟩ : ByteArray),.int .i64 0,.int .i64 0,.bool false]) ?_ 0 _ rfl;(with_reducible repeat (first|refine blk_drewN ?_ _|refine blk_drew ?_|refine blk_alloc ?_ _));refine blk_far ?_ NB146_147.out _;(with_reducible repeat (first|refine blk_drewN ?_ _|refine blk_drew ?_|refine blk_alloc ?_ _));refine blk_far ?_ NB146_147.out _;(with_reducible repeat (first|refine blk_drewN ?_ _|refine blk_drew ?_|refine blk_alloc ?_ _));refine blk_far ?_ NB146_147.out _;(with_reducible repeat (first|refine blk_drewN ?_ _|refine blk_drew ?_|refine blk_alloc ?_ _));exact BK146.out) Try.underlying46 rfl (by kernel_rfl)) rfl ?_
         exact ⟨by first|rfl|(simp [errW_none,errW_some] <;> rfl)|(simp [*,errW_none,errW_some] <;> rfl),by repeat (first|(with_reducible first|exact HB.out|apply below_alloc|apply pw_below_drewN|apply below_drew1|refine below_set ?_ GE146.out|refine below_set ?_ GE147.out)|exact HB.out)⟩
     ·replace c28:=Bool.eq_false_iff.mpr c28
      subst c28
      have H1 : (if 0 ≤ a1 then (if a1 ≤ t151 then (if t151 ≤ (a0.size : Int) then (if 2 = 0 then (if a1 ≤ (wrap64 (a1 + 1)) then (if (wrap64 (a1 + 1)) ≤ (a0.size : Int) then (some (6,a0.extract (a1 : Int).toNat ((wrap64 (a1 + 1)) : Int).toNat,0,a1,false,wrap64 (a1 + 1))) else (none)) else (none)) else (if 2 = 4 then (some (2,a0.extract (a1 : Int).toNat (t151 : Int).toNat,0,a1,false,t151)) else (if ((a0.extract (a1 : Int).toNat (t151 : Int).toNat).size : Int) > 20 then (if a1 ≤ (wrap64 (a1 + 1)) then (if (wrap64 (a1 + 1)) ≤ (a0.size : Int) then (some (6,a0.extract (a1 : Int).toNat ((wrap64 (a1 + 1)) : Int).toNat,0,a1,false,wrap64 (a1 + 1))) else (none)) else (none)) else (some (2,a0.extract (a1 : Int).toNat (t151 : Int).toNat,0,a1,false,t151))))) else (none)) else (none)) else (none)) = some (r1,r2,r3,r4,r5,r6):=by rw [if_neg (show ¬ (false = true) by decide)] at H;exact H
      clear H
      have H:=H1
      clear H1
      by_cases c67 : 0 ≤ a1
      rotate_left
      ·rw [if_neg c67] at H
       exact absurd H (by simp)
      rw [if_pos c67] at H
      have c67b0:=eq_true c67
      have c67b1 : decide (0 ≤ a1) = true:=decide_eq_true c67
      clear c67
      by_cases c68 : a1 ≤ t151
      rotate_left
      ·rw [if_neg c68] at H
       exact absurd H (by simp)
      rw [if_pos c68] at H
      have c68b0:=eq_true c68
      have c68b1 : decide (a1 ≤ t151) = true:=decide_eq_true c68
      clear c68
      by_cases c69 : t151 ≤ (a0.size : Int)
      rotate_left
      ·rw [if_neg c69] at H
       exact absurd H (by simp)
      rw [if_pos c69] at H
      have c69b0:=eq_true c69
      have c69b1 : decide (t151 ≤ (a0.size : Int)) = true:=decide_eq_true c69
      clear c69
      by_cases c70 : 2 = 0
      ·exact absurd c70 (by decide)
      ·first|rw [if_neg c70] at H|rw [if_neg not_false] at H
       have c70b0 : (2 == 0) = false:=beq_eq_false_iff_ne.mpr c70
       have c70b1 : (2 != 0) = true:=bne_iff_ne.mpr c70
       by_cases c83 : 2 = 4
       ·exact absurd c83 (by decide)
       ·first|rw [if_neg c83] at H|rw [if_neg not_false] at H
        have c83b0 : (2 == 4) = false:=beq_eq_false_iff_ne.mpr c83
        have c83b1 : (2 != 4) = true:=bne_iff_ne.mpr c83
        by_cases c88 : ((a0.extract (a1 : Int).toNat (t151 : Int).toNat).size : Int) > 20
        ·rw [if_pos c88] at H
         have c88b0 : decide (20 < ((a0.extract (a1 : Int).toNat (t151 : Int).toNat).size : Int)) = true:=decide_eq_true c88
         have c88b2 : decide (20 < ((((t151 : Int)).toNat - ((a1 : Int)).toNat : Nat) : Int)) = true:=by have h_:=c88b0;have hx_ : (t151) ≤ (a0.size : Int):=of_decide_eq_true (by first|(with_reducible assumption)|assumption);rw [ByteArray.size_extract,Nat.min_eq_left (by omega)] at h_;exact h_
         have c88b1 : decide (20 < (a0.extract (a1 : Int).toNat (t151 : Int).toNat).size) = true:=decide_eq_true (by omega)
         clear c88
         have c89b0:=eq_true (of_decide_eq_true (by first|(with_reducible assumption)|assumption) : 0 ≤ a1)
         by_cases c90 : a1 ≤ (wrap64 (a1 + 1))
         rotate_left
         ·rw [if_neg c90] at H
          exact absurd H (by simp)
         rw [if_pos c90] at H
         have c90b0:=eq_true c90
         have c90b1 : decide (a1 ≤ (wrap64 (a1 + 1))) = true:=decide_eq_true c90
         by_cases c91 : (wrap64 (a1 + 1)) ≤ (a0.size : Int)
         rotate_left
         ·rw [if_neg c91] at H
          exact absurd H (by simp)
         rw [if_pos c91] at H
         have c91b0:=eq_true c91
         have c91b1 : decide ((wrap64 (a1 + 1)) ≤ (a0.size : Int)) = true:=decide_eq_true c91
         simp only [Option.some.injEq,Prod.mk.injEq] at H
         obtain ⟨rfl,rfl,rfl,rfl,rfl,rfl⟩:=H
         try go_wp2_with (first|((with_reducible refine gate_callee (f:=55) rfl ?_);refine goesL_ (some 40) rfl rfl Try.func55 (by kernel_rfl) rfl #[.string a0,.int .i64 a1,.func (.func 73) #[] #[]] rfl (by (try simp only [List.map_toArray,List.map_cons,List.map_nil]);first|done|rfl|(simp only [List.length_drop,List.length_take];rfl)) ?_;(with_reducible refine (fk_impl_run.calls_73 kj14 a0 a1 t151 _ A26.out).mono ?_);rintro e w92 ⟨rfl,hb⟩;refine ⟨_,rfl,?_⟩;have n0_:=Aside0.mk (blk_below (g:=gb146) (o:=.cells #[.int .i64 0,.string (⟨#[]⟩ : ByteArray),.int .i64 0,.int .i64 0,.bool false] 46 (0,0)) (by (with_reducible repeat (first|refine blk_drewN ?_ _|refine blk_drew ?_|refine blk_alloc ?_ _));exact BK146.out) hb);have n1_:=Aside0.mk (blk_below (g:=gb147) (o:=.cells #[.int .i64 0,.string (⟨#[]⟩ : ByteArray),.int .i64 0,.int .i64 a1,.bool false] 46 (0,0)) (by (with_reducible repeat (first|refine blk_drewN ?_ _|refine blk_drew ?_|refine blk_alloc ?_ _));exact BK147.out) hb);have n2_:=Aside0.mk (below_step (by repeat (first|(with_reducible first|exact HB.out|apply below_alloc|apply pw_below_drewN|apply below_drew1|refine below_set ?_ GE146.out|refine below_set ?_ GE147.out)|exact HB.out)) hb);clear BK146;clear BK147;clear HB;have BK146:=n0_;have BK147:=n1_;have HB:=n2_;clear n0_ n1_ n2_;(try clear hb);(try clear hb2);(try clear hk);(try clear hi);have hnb93:=NB147_146.out;have hnc93:=NB146_147.out;have hcz94_0 : w92.cell? ⟨gb147,0,none⟩ = some (.int .i64 0):=(blk_cell BK147.out 0).trans rfl;have hcz94_1 : w92.cell? ⟨gb147,1,none⟩ = some (.string (⟨#[]⟩ : ByteArray)):=(blk_cell BK147.out 1).trans rfl;have hcz94_2 : w92.cell? ⟨gb147,2,none⟩ = some (.int .i64 0):=(blk_cell BK147.out 2).trans rfl;have hcz94_3 : w92.cell? ⟨gb147,3,none⟩ = some (.int .i64 a1):=(blk_cell BK147.out 3).trans rfl;have hcz94_4 : w92.cell? ⟨gb147,4,none⟩ = some (.bool false):=(blk_cell BK147.out 4).trans rfl;have hfz94_0:=blk_frozen BK147.out 0;have hfz94_1:=blk_frozen BK147.out 1;have hfz94_2:=blk_frozen BK147.out 2;have hfz94_3:=blk_frozen BK147.out 3;have hfz94_4:=blk_frozen BK147.out 4)|((with_reducible refine gate_callee (f:=71) rfl ?_);refine goesL_ (some 43) rfl rfl Try.func71 (by kernel_rfl) rfl #[.int .u8 (bt a0 a1)] rfl (by (try simp only [List.map_toArray,List.map_cons,List.map_nil]);first|done|rfl|(simp only [List.length_drop,List.length_take];rfl)) ?_;(with_reducible refine (impl_lower.calls (bt a0 a1) false _ A27.out).mono ?_);rintro e w' ⟨rfl,⟨nd,rfl⟩⟩;refine ⟨_,rfl,?_⟩))
         have n0_ : Aside0 (((w92.setCell ⟨gb147,0,none⟩ (.int .i64 2)).setCell ⟨gb147,1,none⟩ (.string (a0.extract (a1 : Int).toNat (t151 : Int).toNat))).heap[gb146]? = some (.cells #[.int .i64 0,.string (⟨#[]⟩ : ByteArray),.int .i64 0,.int .i64 0,.bool false] 46 (0,0))):=⟨by (with_reducible repeat (first|refine blk_drewN ?_ _|refine blk_drew ?_|refine blk_alloc ?_ _));refine blk_far ?_ NB146_147.out _;(with_reducible repeat (first|refine blk_drewN ?_ _|refine blk_drew ?_|refine blk_alloc ?_ _));refine blk_far ?_ NB146_147.out _;(with_reducible repeat (first|refine blk_drewN ?_ _|refine blk_drew ?_|refine blk_alloc ?_ _));exact BK146.out⟩
         have n1_ : Aside0 (((w92.setCell ⟨gb147,0,none⟩ (.int .i64 2)).setCell ⟨gb147,1,none⟩ (.string (a0.extract (a1 : Int).toNat (t151 : Int).toNat))).heap[gb147]? = some (.cells #[.int .i64 2,.string (a0.extract (a1 : Int).toNat (t151 : Int).toNat),.int .i64 0,.int .i64 a1,.bool false] 46 (0,0))):=⟨by (with_reducible repeat (first|refine blk_drewN ?_ _|refine blk_drew ?_|refine blk_alloc ?_ _));refine blk_put (cs:=#[.int .i64 2,.string (⟨#[]⟩ : ByteArray),.int .i64 0,.int .i64 a1,.bool false]) ?_ 1 _ rfl;(with_reducible repeat (first|refine blk_drewN ?_ _|refine blk_drew ?_|refine blk_alloc ?_ _));refine blk_put (cs:=#[.int .i64 0,.string (⟨#[]⟩ : ByteArray),.int .i64 0,.int .i64 a1,.bool false]) ?_ 0 _ rfl;(with_reducible repeat (first|refine blk_drewN ?_ _|refine blk_drew ?_|refine blk_alloc ?_ _));exact BK147.out⟩
         have n2_ : Aside0 (Below w.heap.size w ((w92.setCell ⟨gb147,0,none⟩ (.int .i64 2)).setCell ⟨gb147,1,none⟩ (.string (a0.extract (a1 : Int).toNat (t151 : Int).toNat)))):=⟨by repeat (first|(with_reducible first|exact HB.out|apply below_alloc|apply pw_below_drewN|apply below_drew1|refine below_set ?_ GE146.out|refine below_set ?_ GE147.out)|exact HB.out)⟩
         (try clear BK146)
         (try clear BK147)
         (try clear HB)
         (try simp only [setCell_drewN])
         generalize ((w92.setCell ⟨gb147,0,none⟩ (.int .i64 2)).setCell ⟨gb147,1,none⟩ (.string (a0.extract (a1 : Int).toNat (t151 : Int).toNat))) = w95 at n0_ n1_ n2_ ⊢
         have BK146:=n0_
         have BK147:=n1_
         have HB:=n2_
         clear n0_ n1_ n2_
         (try (rw [drewN_self w95];generalize hq_ : World.drewN w95 _ = w95;have n0_ : Aside0 (w95.heap[gb146]? = some (.cells #[.int .i64 0,.string (⟨#[]⟩ : ByteArray),.int .i64 0,.int .i64 0,.bool false] 46 (0,0))):=⟨by rw [← hq_];exact (by (with_reducible repeat (first|refine blk_drewN ?_ _|refine blk_drew ?_|refine blk_alloc ?_ _));exact BK146.out)⟩;have n1_ : Aside0 (w95.heap[gb147]? = some (.cells #[.int .i64 2,.string (a0.extract (a1 : Int).toNat (t151 : Int).toNat),.int .i64 0,.int .i64 a1,.bool false] 46 (0,0))):=⟨by rw [← hq_];exact (by (with_reducible repeat (first|refine blk_drewN ?_ _|refine blk_drew ?_|refine blk_alloc ?_ _));exact BK147.out)⟩;have n2_ : Aside0 (Below w.heap.size w w95):=⟨by rw [← hq_];exact (by repeat (first|(with_reducible first|exact HB.out|apply below_alloc|apply pw_below_drewN|apply below_drew1|refine below_set ?_ GE146.out|refine below_set ?_ GE147.out)|exact HB.out))⟩;clear BK146 BK147 HB hq_;have BK146:=n0_;have BK147:=n1_;have HB:=n2_;clear n0_ n1_ n2_;(try have hyq146_0:=(blk_cell BK146.out 0).trans (rfl : _ = some _));(try have hyf146_0:=blk_frozen BK146.out 0);(try have hyq146_1:=(blk_cell BK146.out 1).trans (rfl : _ = some _));(try have hyf146_1:=blk_frozen BK146.out 1);(try have hyq146_2:=(blk_cell BK146.out 2).trans (rfl : _ = some _));(try have hyf146_2:=blk_frozen BK146.out 2);(try have hyq146_3:=(blk_cell BK146.out 3).trans (rfl : _ = some _));(try have hyf146_3:=blk_frozen BK146.out 3);(try have hyq147_0:=(blk_cell BK147.out 0).trans (rfl : _ = some _));(try have hyf147_0:=blk_frozen BK147.out 0);(try have hyq147_1:=(blk_cell BK147.out 1).trans (rfl : _ = some _));(try have hyf147_1:=blk_frozen BK147.out 1);(try have hyq147_2:=(blk_cell BK147.out 2).trans (rfl : _ = some _));(try have hyf147_2:=blk_frozen BK147.out 2);(try have hyq147_3:=(blk_cell BK147.out 3).trans (rfl : _ = some _));(try have hyf147_3:=blk_frozen BK147.out 3)))
         have n0_:=Aside0.mk (blk_drew BK146.out)
         have n1_:=Aside0.mk (blk_drew BK147.out)
         have n2_:=Aside0.mk (below_drew1 HB.out)
         clear BK146
         clear BK147
         clear HB
         have BK146:=n0_
         have BK147:=n1_
         have HB:=n2_
         clear n0_ n1_ n2_
         refine start_ (n:=9) (S:=fun w' => True) (ds:=[]) #[false,false,false,false,false,false,false,false,false] (by kernel_rfl) rfl rfl trivial (fun hHeld => ?_);refine with_tabW impl_nextSign.tab36 impl_nextSign.bits36 (fun HT_ HW_ => ?_)
         generalize w95.drew = w96 at BK146 BK147 HB hHeld ⊢
         refine pure_ (i:=0) (N:=some 149) (v:=?_) (a':=?_) #[true,false,false,false,false,false,false,false,false] rfl rfl (any_of HT_.out (by kernel_rfl)) (fun _ _ _ h => h) (Or.inl ⟨by rfl,?_⟩) ?_ ?_
         rotate_left
         ·intro w'
          go_simp
          with_reducible rfl
         rotate_left
         ·simp only [Act.put,List.setIfInBounds_toArray,List.set_cons_zero,List.set_cons_succ,i64_w,i32_w]
          rfl
         refine pure_ (i:=1) (N:=some 150) (v:=?_) (a':=?_) #[true,true,false,false,false,false,false,false,false] rfl rfl (any_of HT_.out (by kernel_rfl)) (fun _ _ _ h => h) (Or.inl ⟨by rfl,?_⟩) ?_ ?_
         rotate_left
         ·intro w'
          go_simp
          with_reducible rfl
         rotate_left
         ·simp only [Act.put,List.setIfInBounds_toArray,List.set_cons_zero,List.set_cons_succ,i64_w,i32_w]
          rfl
         refine pure_ (i:=2) (N:=some 151) (v:=?_) (a':=?_) #[true,true,true,false,false,false,false,false,false] rfl rfl (any_of HT_.out (by kernel_rfl)) (fun _ _ _ h => h) (Or.inl ⟨by rfl,?_⟩) ?_ ?_
         rotate_left
         ·intro w'
          go_simp
          with_reducible rfl
         rotate_left
         ·simp only [Act.put,List.setIfInBounds_toArray,List.set_cons_zero,List.set_cons_succ,i64_w,i32_w]
          rfl
         refine pure_ (i:=3) (N:=some 152) (v:=?_) (a':=?_) #[true,true,true,true,false,false,false,false,false] rfl rfl (any_of HT_.out (by kernel_rfl)) (fun _ _ _ h => h) (Or.inl ⟨by rfl,?_⟩) ?_ ?_
         rotate_left
         ·intro w'
          go_simp
          with_reducible rfl
         rotate_left
         ·simp only [Act.put,List.setIfInBounds_toArray,List.set_cons_zero,List.set_cons_succ,i64_w,i32_w]
          rfl
         refine pure_ (i:=4) (N:=some 153) (v:=?_) (a':=?_) #[true,true,true,true,true,false,false,false,false] rfl rfl (any_of HT_.out (by kernel_rfl)) (fun _ _ _ h => h) (Or.inl ⟨by rfl,?_⟩) ?_ ?_
         rotate_left
         ·intro w'
          go_simp
          with_reducible rfl
         rotate_left
         ·simp only [Act.put,List.setIfInBounds_toArray,List.set_cons_zero,List.set_cons_succ,i64_w,i32_w]
          rfl
         refine pure_ (i:=5) (N:=some 154) (v:=?_) (a':=?_) #[true,true,true,true,true,true,false,false,false] rfl rfl (any_of HT_.out (by kernel_rfl)) (fun _ _ _ h => h) (Or.inl ⟨by rfl,?_⟩) ?_ ?_
         rotate_left
         ·intro w'
          go_simp
          with_reducible rfl
         rotate_left
         ·simp only [Act.put,List.setIfInBounds_toArray,List.set_cons_zero,List.set_cons_succ,i64_w,i32_w]
          rfl
         refine one_ (i:=6) (N:=none) #[true,true,true,true,true,true,true,false,false] rfl rfl (one_of HT_.out (by kernel_rfl)) (by decide) (fun K hK => ?_)
         have hs97 : w96.cell? ⟨gb147,0,none⟩ = some (.int .i64 2):=(blk_cell BK147.out 0).trans rfl
         have hfs97:=blk_frozen BK147.out 0
         have hns97_0:=NB146_147.out
         have hms97_0:=NB147_146.out
         refine skip_ (w1:=?_) (by rfl) rfl ?_ ?_
         rotate_left
         ·go_simp
          rfl
         refine hK.out _ _ trivial (fun hHeld => ?_)
         clear hK K
         refine pure_ (i:=7) (N:=some 155) (v:=?_) (a':=?_) #[true,true,true,true,true,true,true,true,false] rfl rfl (any_of HT_.out (by kernel_rfl)) (fun _ _ _ h => h) (Or.inl ⟨by rfl,?_⟩) ?_ ?_
         rotate_left
         ·intro w'
          go_simp
          with_reducible rfl
         rotate_left
         ·simp only [Act.put,List.setIfInBounds_toArray,List.set_cons_zero,List.set_cons_succ,i64_w,i32_w]
          rfl
         refine one_ (i:=8) (N:=none) #[true,true,true,true,true,true,true,true,true] rfl rfl (one_of HT_.out (by kernel_rfl)) (by decide) (fun K hK => ?_)
         have hs98 : w96.cell? ⟨gb147,1,none⟩ = some (.string (a0.extract (a1 : Int).toNat (t151 : Int).toNat)):=(blk_cell BK147.out 1).trans rfl
         have hfs98:=blk_frozen BK147.out 1
         have hns98_0:=NB146_147.out
         have hms98_0:=NB147_146.out
         refine skip_ (w1:=?_) (by rfl) rfl ?_ ?_
         rotate_left
         ·go_simp
          rfl
         refine hK.out _ _ trivial (fun hHeld => ?_)
         clear hK K
         refine done_ (done_of HT_.out (by kernel_rfl)) ?_
         have hcz99_0 : w96.cell? ⟨gb147,0,none⟩ = some (.int .i64 2):=(blk_cell BK147.out 0).trans rfl
         have hcz99_1 : w96.cell? ⟨gb147,1,none⟩ = some (.string (a0.extract (a1 : Int).toNat (t151 : Int).toNat)):=(blk_cell BK147.out 1).trans rfl
         have hcz99_2 : w96.cell? ⟨gb147,2,none⟩ = some (.int .i64 0):=(blk_cell BK147.out 2).trans rfl
         have hcz99_3 : w96.cell? ⟨gb147,3,none⟩ = some (.int .i64 a1):=(blk_cell BK147.out 3).trans rfl
         have hcz99_4 : w96.cell? ⟨gb147,4,none⟩ = some (.bool false):=(blk_cell BK147.out 4).trans rfl
         have hfz99_0:=blk_frozen BK147.out 0
         have hfz99_1:=blk_frozen BK147.out 1
         have hfz99_2:=blk_frozen BK147.out 2
         have hfz99_3:=blk_frozen BK147.out 3
         have hfz99_4:=blk_frozen BK147.out 4
         have hcz100_0 : w96.cell? ⟨gb146,0,none⟩ = some (.int .i64 0):=(blk_cell BK146.out 0).trans rfl
         have hcz100_1 : w96.cell? ⟨gb146,1,none⟩ = some (.string (⟨#[]⟩ : ByteArray)):=(blk_cell BK146.out 1).trans rfl
         have hcz100_2 : w96.cell? ⟨gb146,2,none⟩ = some (.int .i64 0):=(blk_cell BK146.out 2).trans rfl
         have hcz100_3 : w96.cell? ⟨gb146,3,none⟩ = some (.int .i64 0):=(blk_cell BK146.out 3).trans rfl
         have hcz100_4 : w96.cell? ⟨gb146,4,none⟩ = some (.bool false):=(blk_cell BK146.out 4).trans rfl
         have hfz100_0:=blk_frozen BK146.out 0
         have hfz100_1:=blk_frozen BK146.out 1
         have hfz100_2:=blk_frozen BK146.out 2
         have hfz100_3:=blk_frozen BK146.out 3
         have hfz100_4:=blk_frozen BK146.out 4
         try go_wp2
         refine bodyPost_ret (results_ct rfl _ _ gb146 46 #[.int .i64 6,.string (a0.extract (a1 : Int).toNat ((wrap64 (a1 + 1)) : Int).toNat),.int .i64 0,.int .i64 a1,.bool false] (0,0) _ rfl (by (with_reducible repeat (first|refine blk_drewN ?_ _|refine blk_drew ?_|refine blk_alloc ?_ _));refine blk_put (cs:=#[.int .i64 6,.string (a0.extract (a1 : Int).toNat ((wrap64 (a1 + 1)) : Int).toNat),.int .i64 0,.int .i64 a1,.bool false]) ?_ 4 _ rfl;(with_reducible repeat (first|refine blk_drewN ?_ _|refine blk_drew ?_|refine blk_alloc ?_ _));refine blk_put (cs:=#[.int .i64 6,.string (a0.extract (a1 : Int).toNat ((wrap64 (a1 + 1)) : Int).toNat),.int .i64 0,.int .i64 0,.bool false]) ?_ 3 _ rfl;(with_reducible repeat (first|refine blk_drewN ?_ _|refine blk_drew ?_|refine blk_alloc ?_ _));refine blk_put (cs:=#[.int .i64 6,.string (a0.extract (a1 : Int).toNat ((wrap64 (a1 + 1)) : Int).toNat),.int .i64 0,.int .i64 0,.bool false]) ?_ 2 _ rfl;(with_reducible repeat (first|refine blk_drewN ?_ _|refine blk_drew ?_|refine blk_alloc ?_ _));refine blk_put (cs:=#[.int .i64 6,.string (⟨#[]⟩ : ByteArray),.int .i64 0,.int .i64 0,.bool false]) ?_ 1 _ rfl;(with_reducible repeat (first|refine blk_drewN ?_ _|refine blk_drew ?_|refine blk_alloc ?_ _));refine blk_put (cs:=#[.int .i64 0,.string (⟨#[]⟩ : ByteArray),.int .i64 0,.int .i64 0,.bool false]) ?_ 0 _ rfl;(with_reducible repeat (first|refine blk_drewN ?_ _|refine blk_drew ?_|refine blk_alloc ?_ _));refine blk_far ?_ NB146_147.out _;(with_reducible repeat (first|refine blk_drewN ?_ _|refine blk_drew ?_|refine blk_alloc ?_ _));refine blk_far ?_ NB146_147.out _;(with_reducible repeat (first|refine blk_drewN ?_ _|refine blk_drew ?_|refine blk_alloc ?_ _));exact BK146.out) Try.underlying46 rfl (by kernel_rfl)) rfl ?_
         exact ⟨by first|rfl|(simp [errW_none,errW_some] <;> rfl)|(simp [*,errW_none,errW_some] <;> rfl),by repeat (first|(with_reducible first|exact HB.out|apply below_alloc|apply pw_below_drewN|apply below_drew1|refine below_set ?_ GE146.out|refine below_set ?_ GE147.out)|exact HB.out)⟩
        ·rw [if_neg c88] at H
         have c88b0 : decide (20 < ((a0.extract (a1 : Int).toNat (t151 : Int).toNat).size : Int)) = false:=decide_eq_false c88
         have c88b2 : decide (20 < ((((t151 : Int)).toNat - ((a1 : Int)).toNat : Nat) : Int)) = false:=by have h_:=c88b0;have hx_ : (t151) ≤ (a0.size : Int):=of_decide_eq_true (by first|(with_reducible assumption)|assumption);rw [ByteArray.size_extract,Nat.min_eq_left (by omega)] at h_;exact h_
         have c88b1 : decide (20 < (a0.extract (a1 : Int).toNat (t151 : Int).toNat).size) = false:=decide_eq_false (by omega)
         clear c88
         simp only [Option.some.injEq,Prod.mk.injEq] at H
         obtain ⟨rfl,rfl,rfl,rfl,rfl,rfl⟩:=H
         go_wp2_with (first|((with_reducible refine gate_callee (f:=55) rfl ?_);refine goesL_ (some 40) rfl rfl Try.func55 (by kernel_rfl) rfl #[.string a0,.int .i64 a1,.func (.func 73) #[] #[]] rfl (by (try simp only [List.map_toArray,List.map_cons,List.map_nil]);first|done|rfl|(simp only [List.length_drop,List.length_take];rfl)) ?_;(with_reducible refine (fk_impl_run.calls_73 kj14 a0 a1 t151 _ A26.out).mono ?_);rintro e w101 ⟨rfl,hb⟩;refine ⟨_,rfl,?_⟩;have n0_:=Aside0.mk (blk_below (g:=gb146) (o:=.cells #[.int .i64 0,.string (⟨#[]⟩ : ByteArray),.int .i64 0,.int .i64 0,.bool false] 46 (0,0)) (by (with_reducible repeat (first|refine blk_drewN ?_ _|refine blk_drew ?_|refine blk_alloc ?_ _));exact BK146.out) hb);have n1_:=Aside0.mk (blk_below (g:=gb147) (o:=.cells #[.int .i64 0,.string (⟨#[]⟩ : ByteArray),.int .i64 0,.int .i64 a1,.bool false] 46 (0,0)) (by (with_reducible repeat (first|refine blk_drewN ?_ _|refine blk_drew ?_|refine blk_alloc ?_ _));exact BK147.out) hb);have n2_:=Aside0.mk (below_step (by repeat (first|(with_reducible first|exact HB.out|apply below_alloc|apply pw_below_drewN|apply below_drew1|refine below_set ?_ GE146.out|refine below_set ?_ GE147.out)|exact HB.out)) hb);clear BK146;clear BK147;clear HB;have BK146:=n0_;have BK147:=n1_;have HB:=n2_;clear n0_ n1_ n2_;(try clear hb);(try clear hb2);(try clear hk);(try clear hi);have hnb102:=NB147_146.out;have hnc102:=NB146_147.out;have hcz103_0 : w101.cell? ⟨gb147,0,none⟩ = some (.int .i64 0):=(blk_cell BK147.out 0).trans rfl;have hcz103_1 : w101.cell? ⟨gb147,1,none⟩ = some (.string (⟨#[]⟩ : ByteArray)):=(blk_cell BK147.out 1).trans rfl;have hcz103_2 : w101.cell? ⟨gb147,2,none⟩ = some (.int .i64 0):=(blk_cell BK147.out 2).trans rfl;have hcz103_3 : w101.cell? ⟨gb147,3,none⟩ = some (.int .i64 a1):=(blk_cell BK147.out 3).trans rfl;have hcz103_4 : w101.cell? ⟨gb147,4,none⟩ = some (.bool false):=(blk_cell BK147.out 4).trans rfl;have hfz103_0:=blk_frozen BK147.out 0;have hfz103_1:=blk_frozen BK147.out 1;have hfz103_2:=blk_frozen BK147.out 2;have hfz103_3:=blk_frozen BK147.out 3;have hfz103_4:=blk_frozen BK147.out 4)|((with_reducible refine gate_callee (f:=71) rfl ?_);refine goesL_ (some 43) rfl rfl Try.func71 (by kernel_rfl) rfl #[.int .u8 (bt a0 a1)] rfl (by (try simp only [List.map_toArray,List.map_cons,List.map_nil]);first|done|rfl|(simp only [List.length_drop,List.length_take];rfl)) ?_;(with_reducible refine (impl_lower.calls (bt a0 a1) false _ A27.out).mono ?_);rintro e w' ⟨rfl,⟨nd,rfl⟩⟩;refine ⟨_,rfl,?_⟩;have hcz104_0 : w101.cell? ⟨gb146,0,none⟩ = some (.int .i64 0):=(blk_cell BK146.out 0).trans rfl;have hcz104_1 : w101.cell? ⟨gb146,1,none⟩ = some (.string (⟨#[]⟩ : ByteArray)):=(blk_cell BK146.out 1).trans rfl;have hcz104_2 : w101.cell? ⟨gb146,2,none⟩ = some (.int .i64 0):=(blk_cell BK146.out 2).trans rfl;have hcz104_3 : w101.cell? ⟨gb146,3,none⟩ = some (.int .i64 0):=(blk_cell BK146.out 3).trans rfl;have hcz104_4 : w101.cell? ⟨gb146,4,none⟩ = some (.bool false):=(blk_cell BK146.out 4).trans rfl;have hfz104_0:=blk_frozen BK146.out 0;have hfz104_1:=blk_frozen BK146.out 1;have hfz104_2:=blk_frozen BK146.out 2;have hfz104_3:=blk_frozen BK146.out 3;have hfz104_4:=blk_frozen BK146.out 4))
         refine bodyPost_ret (results_ct rfl _ _ gb146 46 #[.int .i64 2,.string (a0.extract (a1 : Int).toNat (t151 : Int).toNat),.int .i64 0,.int .i64 a1,.bool false] (0,0) _ rfl (by (with_reducible repeat (first|refine blk_drewN ?_ _|refine blk_drew ?_|refine blk_alloc ?_ _));refine blk_put (cs:=#[.int .i64 2,.string (a0.extract (a1 : Int).toNat (t151 : Int).toNat),.int .i64 0,.int .i64 a1,.bool false]) ?_ 4 _ rfl;(with_reducible repeat (first|refine blk_drewN ?_ _|refine blk_drew ?_|refine blk_alloc ?_ _));refine blk_put (cs:=#[.int .i64 2,.string (a0.extract (a1 : Int).toNat (t151 : Int).toNat),.int .i64 0,.int .i64 0,.bool false]) ?_ 3 _ rfl;(with_reducible repeat (first|refine blk_drewN ?_ _|refine blk_drew ?_|refine blk_alloc ?_ _));refine blk_put (cs:=#[.int .i64 2,.string (a0.extract (a1 : Int).toNat (t151 : Int).toNat),.int .i64 0,.int .i64 0,.bool false]) ?_ 2 _ rfl;(with_reducible repeat (first|refine blk_drewN ?_ _|refine blk_drew ?_|refine blk_alloc ?_ _));refine blk_put (cs:=#[.int .i64 2,.string (⟨#[]⟩ : ByteArray),.int .i64 0,.int .i64 0,.bool false]) ?_ 1 _ rfl;(with_reducible repeat (first|refine blk_drewN ?_ _|refine blk_drew ?_|refine blk_alloc ?_ _));refine blk_put (cs:=#[.int .i64 0,.string (⟨#[]⟩ : ByteArray),.int .i64 0,.int .i64 0,.bool false]) ?_ 0 _ rfl;(with_reducible repeat (first|refine blk_drewN ?_ _|refine blk_drew ?_|refine blk_alloc ?_ _));refine blk_far ?_ NB146_147.out _;(with_reducible repeat (first|refine blk_drewN ?_ _|refine blk_drew ?_|refine blk_alloc ?_ _));refine blk_far ?_ NB146_147.out _;(with_reducible repeat (first|refine blk_drewN ?_ _|refine blk_drew ?_|refine blk_alloc ?_ _));exact BK146.out) Try.underlying46 rfl (by kernel_rfl)) rfl ?_
         exact ⟨by first|rfl|(simp [errW_none,errW_some] <;> rfl)|(simp [*,errW_none,errW_some] <;> rfl),by repeat (first|(with_reducible first|exact HB.out|apply below_alloc|apply pw_below_drewN|apply below_drew1|refine below_set ?_ GE146.out|refine below_set ?_ GE147.out)|exact HB.out)⟩
    ·replace c25:=Bool.eq_false_iff.mpr c25
     subst c25
     have H1 : ((impl_figure.f (bt a0 a1)).bind fun t153 => (if t153 = true then ((fk_impl_run.f kj14 a0 a1 74).bind fun t154 => (impl_nextSign.l0 kj14 a0 a1 t154 0 a1 0 (⟨#[]⟩ : ByteArray) 0 a1 false)) else ((impl_SymbolByte.f kj14 (bt a0 a1)).bind fun t155 => (if t155 = true then ((fk_impl_run.f kj14 a0 a1 14).bind fun t156 => (if 0 ≤ a1 then (if a1 ≤ t156 then (if t156 ≤ (a0.size : Int) then (if 1 = 0 then (if a1 ≤ (wrap64 (a1 + 1)) then (if (wrap64 (a1 + 1)) ≤ (a0.size : Int) then (some (6,a0.extract (a1 : Int).toNat ((wrap64 (a1 + 1)) : Int).toNat,0,a1,false,wrap64 (a1 + 1))) else (none)) else (none)) else (if 1 = 4 then (some (1,a0.extract (a1 : Int).toNat (t156 : Int).toNat,0,a1,false,t156)) else (if ((a0.extract (a1 : Int).toNat (t156 : Int).toNat).size : Int) > 20 then (if a1 ≤ (wrap64 (a1 + 1)) then (if (wrap64 (a1 + 1)) ≤ (a0.size : Int) then (some (6,a0.extract (a1 : Int).toNat ((wrap64 (a1 + 1)) : Int).toNat,0,a1,false,wrap64 (a1 + 1))) else (none)) else (none)) else (some (1,a0.extract (a1 : Int).toNat (t156 : Int).toNat,0,a1,false,t156))))) else (none)) else (none)) else (none))) else (if (bt a0 a1) = 33 then (impl_nextSign.j3 kj14 a0 a1 (bt a0 a1) (wrap64 (a1 + 1)) true 0 (⟨#[]⟩ : ByteArray) 0 a1 false) else (impl_nextSign.j3 kj14 a0 a1 (bt a0 a1) (wrap64 (a1 + 1)) ((bt a0 a1) == 59) 0 (⟨#[]⟩ : ByteArray) 0 a1 false)))))) = some (r1,r2,r3,r4,r5,r6):=by rw [if_neg (show ¬ (false = true) by decide)] at H;exact H
     clear H
     have H:=H1
     clear H1
     replace H:=Option.bind_eq_some_iff.mp H
     obtain ⟨t153,A1050,H⟩:=H
     replace H : (if t153 = true then ((fk_impl_run.f kj14 a0 a1 74).bind fun t154 => (impl_nextSign.l0 kj14 a0 a1 t154 0 a1 0 (⟨#[]⟩ : ByteArray) 0 a1 false)) else ((impl_SymbolByte.f kj14 (bt a0 a1)).bind fun t155 => (if t155 = true then ((fk_impl_run.f kj14 a0 a1 14).bind fun t156 => (if 0 ≤ a1 then (if a1 ≤ t156 then (if t156 ≤ (a0.size : Int) then (if 1 = 0 then (if a1 ≤ (wrap64 (a1 + 1)) then (if (wrap64 (a1 + 1)) ≤ (a0.size : Int) then (some (6,a0.extract (a1 : Int).toNat ((wrap64 (a1 + 1)) : Int).toNat,0,a1,false,wrap64 (a1 + 1))) else (none)) else (none)) else (if 1 = 4 then (some (1,a0.extract (a1 : Int).toNat (t156 : Int).toNat,0,a1,false,t156)) else (if ((a0.extract (a1 : Int).toNat (t156 : Int).toNat).size : Int) > 20 then (if a1 ≤ (wrap64 (a1 + 1)) then (if (wrap64 (a1 + 1)) ≤ (a0.size : Int) then (some (6,a0.extract (a1 : Int).toNat ((wrap64 (a1 + 1)) : Int).toNat,0,a1,false,wrap64 (a1 + 1))) else (none)) else (none)) else (some (1,a0.extract (a1 : Int).toNat (t156 : Int).toNat,0,a1,false,t156))))) else (none)) else (none)) else (none))) else (if (bt a0 a1) = 33 then (impl_nextSign.j3 kj14 a0 a1 (bt a0 a1) (wrap64 (a1 + 1)) true 0 (⟨#[]⟩ : ByteArray) 0 a1 false) else (impl_nextSign.j3 kj14 a0 a1 (bt a0 a1) (wrap64 (a1 + 1)) ((bt a0 a1) == 59) 0 (⟨#[]⟩ : ByteArray) 0 a1 false))))) = some (r1,r2,r3,r4,r5,r6):=H
     have A105:=Aside0.mk A1050
     clear A1050
     by_cases c106 : t153 = true
     ·subst c106
      have H1 : ((fk_impl_run.f kj14 a0 a1 74).bind fun t154 => (impl_nextSign.l0 kj14 a0 a1 t154 0 a1 0 (⟨#[]⟩ : ByteArray) 0 a1 false)) = some (r1,r2,r3,r4,r5,r6):=by rw [if_pos rfl] at H;exact H
      clear H
      have H:=H1
      clear H1
      replace H:=Option.bind_eq_some_iff.mp H
      obtain ⟨t154,A1070,H⟩:=H
      replace H : (impl_nextSign.l0 kj14 a0 a1 t154 0 a1 0 (⟨#[]⟩ : ByteArray) 0 a1 false) = some (r1,r2,r3,r4,r5,r6):=H
      have A107:=Aside0.mk A1070
      clear A1070
      have HC108:=Aside0.mk H
      clear H
      go_upto_block 1 with (first|((with_reducible refine gate_callee (f:=74) rfl ?_);refine goesL_ (some 47) rfl rfl Try.func74 (by kernel_rfl) rfl #[.int .u8 (bt a0 a1)] rfl (by (try simp only [List.map_toArray,List.map_cons,List.map_nil]);first|done|rfl|(simp only [List.length_drop,List.length_take];rfl)) ?_;(with_reducible refine (impl_figure.calls (bt a0 a1) true _ A105.out).mono ?_);rintro e w' ⟨rfl,⟨nd,rfl⟩⟩;refine ⟨_,rfl,?_⟩)|((with_reducible refine gate_callee (f:=55) rfl ?_);refine goesL_ (some 50) rfl rfl Try.func55 (by kernel_rfl) rfl #[.string a0,.int .i64 a1,.func (.func 74) #[] #[]] rfl (by (try simp only [List.map_toArray,List.map_cons,List.map_nil]);first|done|rfl|(simp only [List.length_drop,List.length_take];rfl)) ?_;(with_reducible refine (fk_impl_run.calls_74 kj14 a0 a1 t154 _ A107.out).mono ?_);rintro e w109 ⟨rfl,hb⟩;refine ⟨_,rfl,?_⟩;have n0_:=Aside0.mk (blk_below (g:=gb146) (o:=.cells #[.int .i64 0,.string (⟨#[]⟩ : ByteArray),.int .i64 0,.int .i64 0,.bool false] 46 (0,0)) (by (with_reducible repeat (first|refine blk_drewN ?_ _|refine blk_drew ?_|refine blk_alloc ?_ _));exact BK146.out) hb);have n1_:=Aside0.mk (blk_below (g:=gb147) (o:=.cells #[.int .i64 0,.string (⟨#[]⟩ : ByteArray),.int .i64 0,.int .i64 a1,.bool false] 46 (0,0)) (by (with_reducible repeat (first|refine blk_drewN ?_ _|refine blk_drew ?_|refine blk_alloc ?_ _));exact BK147.out) hb);have n2_:=Aside0.mk (below_step (by repeat (first|(with_reducible first|exact HB.out|apply below_alloc|apply pw_below_drewN|apply below_drew1|refine below_set ?_ GE146.out|refine below_set ?_ GE147.out)|exact HB.out)) hb);clear BK146;clear BK147;clear HB;have BK146:=n0_;have BK147:=n1_;have HB:=n2_;clear n0_ n1_ n2_;(try clear hb)))
      (try simp only [Act.put,List.setIfInBounds_toArray,List.set_cons_zero,List.set_cons_succ])
      go_cut [9] (fun v9 wc => ∃ (kq : Nat) (x9_107 : Int),v9 = .int .i64 x9_107 ∧ Aside0 (impl_nextSign.j2 kq a0 a1 t154 x9_107 0 (⟨#[]⟩ : ByteArray) 0 a1 false = some (r1,r2,r3,r4,r5,r6)) ∧ Aside0 (kq ≤ kj14) ∧ Aside0 (wc.heap[gb146]? = some (.cells #[.int .i64 0,.string (⟨#[]⟩ : ByteArray),.int .i64 0,.int .i64 0,.bool false] 46 (0,0))) ∧ Aside0 (wc.heap[gb147]? = some (.cells #[.int .i64 0,.string (⟨#[]⟩ : ByteArray),.int .i64 0,.int .i64 a1,.bool false] 46 (0,0))) ∧ Aside0 (Below w.heap.size w wc))
      case first =>
       have H:=HC108.out
       clear HC108
       have H':=Aside0.mk H
       clear H
       go_wp2
       go_loopg [9,10] kj14 (fun kq v9 v10 w' => ∃ (x9_2 : Int) (x10_2 : Int),v9 = .int .i64 x9_2 ∧ v10 = .int .i64 x10_2 ∧ Aside0 (impl_nextSign.l0 kq a0 a1 t154 x9_2 x10_2 0 (⟨#[]⟩ : ByteArray) 0 a1 false = some (r1,r2,r3,r4,r5,r6)) ∧ Aside0 (kq ≤ kj14) ∧ Aside0 (w'.heap[gb146]? = some (.cells #[.int .i64 0,.string (⟨#[]⟩ : ByteArray),.int .i64 0,.int .i64 0,.bool false] 46 (0,0))) ∧ Aside0 (w'.heap[gb147]? = some (.cells #[.int .i64 0,.string (⟨#[]⟩ : ByteArray),.int .i64 0,.int .i64 a1,.bool false] 46 (0,0))) ∧ Aside0 (Below w.heap.size w w'))
       case atStart => exact ⟨(0),(a1),(by first|rfl|(simp;done)|(simp [*];done)),(by first|rfl|(simp;done)|(simp [*];done)),H',⟨Nat.le_refl _⟩,⟨by (with_reducible repeat (first|refine blk_drewN ?_ _|refine blk_drew ?_|refine blk_alloc ?_ _));exact BK146.out⟩,⟨by (with_reducible repeat (first|refine blk_drewN ?_ _|refine blk_drew ?_|refine blk_alloc ?_ _));exact BK147.out⟩,⟨by repeat (first|(with_reducible first|exact HB.out|apply below_alloc|apply pw_below_drewN|apply below_drew1|refine below_set ?_ GE146.out|refine below_set ?_ GE147.out)|exact HB.out)⟩⟩
       case round =>
        clear H'
        try clear c3
        try clear c4
        try clear c7
        try clear c25
        try clear c28
        try clear c29
        try clear c30
        try clear c31
        try clear c32
        try clear c32b0
        try clear c32b1
        try clear c45
        try clear c45b0
        try clear c45b1
        try clear c50
        try clear c50b0
        try clear c50b1
        try clear c51b0
        try clear c52
        try clear c52b0
        try clear c52b1
        try clear c53
        try clear c53b0
        try clear c53b1
        try clear c67
        try clear c67b0
        try clear c67b1
        try clear c68
        try clear c68b0
        try clear c68b1
        try clear c69
        try clear c69b0
        try clear c69b1
        try clear c70
        try clear c70b0
        try clear c70b1
        try clear c83
        try clear c83b0
        try clear c83b1
        try clear c88
        try clear c88b0
        try clear c88b1
        try clear c89b0
        try clear c90
        try clear c90b0
        try clear c90b1
        try clear c91
        try clear c91b0
        try clear c91b1
        try clear c106
        try clear hcz100_0
        try clear hcz100_1
        try clear hcz100_2
        try clear hcz100_3
        try clear hcz100_4
        try clear hcz103_0
        try clear hcz103_1
        try clear hcz103_2
        try clear hcz103_3
        try clear hcz103_4
        try clear hcz104_0
        try clear hcz104_1
        try clear hcz104_2
        try clear hcz104_3
        try clear hcz104_4
        try clear hcz56_0
        try clear hcz56_1
        try clear hcz56_2
        try clear hcz56_3
        try clear hcz56_4
        try clear hcz61_0
        try clear hcz61_1
        try clear hcz61_2
        try clear hcz61_3
        try clear hcz61_4
        try clear hcz62_0
        try clear hcz62_1
        try clear hcz62_2
        try clear hcz62_3
        try clear hcz62_4
        try clear hcz65_0
        try clear hcz65_1
        try clear hcz65_2
        try clear hcz65_3
        try clear hcz65_4
        try clear hcz66_0
        try clear hcz66_1
        try clear hcz66_2
        try clear hcz66_3
        try clear hcz66_4
        try clear hcz94_0
        try clear hcz94_1
        try clear hcz94_2
        try clear hcz94_3
        try clear hcz94_4
        try clear hcz99_0
        try clear hcz99_1
        try clear hcz99_2
        try clear hcz99_3
        try clear hcz99_4
        try clear hfz100_0
        try clear hfz100_1
        try clear hfz100_2
        try clear hfz100_3
        try clear hfz100_4
        try clear hfz103_0
        try clear hfz103_1
        try clear hfz103_2
        try clear hfz103_3
        try clear hfz103_4
        try clear hfz104_0
        try clear hfz104_1
        try clear hfz104_2
        try clear hfz104_3
        try clear hfz104_4
        try clear hfz56_0
        try clear hfz56_1
        try clear hfz56_2
        try clear hfz56_3
        try clear hfz56_4
        try clear hfz61_0
        try clear hfz61_1
        try clear hfz61_2
        try clear hfz61_3
        try clear hfz61_4
        try clear hfz62_0
        try clear hfz62_1
        try clear hfz62_2
        try clear hfz62_3
        try clear hfz62_4
        try clear hfz65_0
        try clear hfz65_1
        try clear hfz65_2
        try clear hfz65_3
        try clear hfz65_4
        try clear hfz66_0
        try clear hfz66_1
        try clear hfz66_2
        try clear hfz66_3
        try clear hfz66_4
        try clear hfz94_0
        try clear hfz94_1
        try clear hfz94_2
        try clear hfz94_3
        try clear hfz94_4
        try clear hfz99_0
        try clear hfz99_1
        try clear hfz99_2
        try clear hfz99_3
        try clear hfz99_4
        try clear BK146
        try clear BK147
        obtain ⟨x9_2,x10_2,rfl,rfl,HA,HK2,BK146,BK147,HB⟩:=hrel
        cases gk with
        | zero => exact absurd HA.out (by simp [impl_nextSign.l0])
        | succ k2 =>
         have H:=HA.out
         clear HA
         simp only [impl_nextSign.l0] at H
         by_cases c110 : x10_2 < t154
         ·rw [if_pos c110] at H
          have c110b0 : decide (x10_2 < t154) = true:=decide_eq_true c110
          clear c110
          (first|rw [c110b0]|(simp only [i64_w,i32_w];rw [c110b0])|skip)
          by_cases c111 : x9_2 ≤ 999999999
          ·rw [if_pos c111] at H
           have c111b0 : decide (x9_2 ≤ 999999999) = true:=decide_eq_true c111
           clear c111
           by_cases c112 : 0 ≤ x10_2
           rotate_left
           ·rw [if_neg c112] at H
            exact absurd H (by simp)
           rw [if_pos c112] at H
           have c112b0 : decide (0 ≤ x10_2) = true:=decide_eq_true c112
           clear c112
           by_cases c113 : x10_2 < (a0.size : Int)
           rotate_left
           ·rw [if_neg c113] at H
            exact absurd H (by simp)
           rw [if_pos c113] at H
           have c113b0 : decide (x10_2 < (a0.size : Int)) = true:=decide_eq_true c113
           clear c113
           have H':=Aside0.mk H
           clear H
           have p114 : 0 ≤ (x10_2 : Int):=of_decide_eq_true (by first|(with_reducible assumption)|assumption)
           have q114 : x10_2 < (a0.size : Int):=of_decide_eq_true (by first|(with_reducible assumption)|assumption)
           have hx114:=bt_at a0 x10_2
           replace p114:=eq_true p114
           replace q114:=eq_true q114
           go_wp2
           go_roundg k2
           case measure => have:=HJ14.out;have:=HK2.out;omega
           case rel => exact ⟨(wrap64 ((wrap64 (10 * x9_2)) + (((bt a0 x10_2) - 48) % 256))),(wrap64 (x10_2 + 1)),(by first|rfl|(simp;done)|(simp [*];done)),(by first|rfl|(simp;done)|(simp [*];done)),H',⟨by have:=HJ14.out;have:=HK2.out;omega⟩,⟨by (with_reducible repeat (first|refine blk_drewN ?_ _|refine blk_drew ?_|refine blk_alloc ?_ _));exact BK146.out⟩,⟨by (with_reducible repeat (first|refine blk_drewN ?_ _|refine blk_drew ?_|refine blk_alloc ?_ _));exact BK147.out⟩,⟨by repeat (first|(with_reducible first|exact HB.out|apply below_alloc|apply pw_below_drewN|apply below_drew1|refine below_set ?_ GE146.out|refine below_set ?_ GE147.out)|exact HB.out)⟩⟩
          ·rw [if_neg c111] at H
           have c111b0 : decide (x9_2 ≤ 999999999) = false:=decide_eq_false c111
           clear c111
           have H':=Aside0.mk H
           clear H
           go_wp2
           go_meet
           case rel => exact ⟨_,(x9_2),(by first|rfl|(simp;done)|(simp [*];done)),H',⟨by have:=HJ14.out;have:=HK2.out;first|omega|exact Nat.le_refl _⟩,⟨by (with_reducible repeat (first|refine blk_drewN ?_ _|refine blk_drew ?_|refine blk_alloc ?_ _));exact BK146.out⟩,⟨by (with_reducible repeat (first|refine blk_drewN ?_ _|refine blk_drew ?_|refine blk_alloc ?_ _));exact BK147.out⟩,⟨by repeat (first|(with_reducible first|exact HB.out|apply below_alloc|apply pw_below_drewN|apply below_drew1|refine below_set ?_ GE146.out|refine below_set ?_ GE147.out)|exact HB.out)⟩⟩
         ·rw [if_neg c110] at H
          have c110b0 : decide (x10_2 < t154) = false:=decide_eq_false c110
          clear c110
          (first|rw [c110b0]|(simp only [i64_w,i32_w];rw [c110b0])|skip)
          have H':=Aside0.mk H
          clear H
          go_wp2
          go_meet
          case rel => exact ⟨_,(x9_2),(by first|rfl|(simp;done)|(simp [*];done)),H',⟨by have:=HJ14.out;have:=HK2.out;first|omega|exact Nat.le_refl _⟩,⟨by (with_reducible repeat (first|refine blk_drewN ?_ _|refine blk_drew ?_|refine blk_alloc ?_ _));exact BK146.out⟩,⟨by (with_reducible repeat (first|refine blk_drewN ?_ _|refine blk_drew ?_|refine blk_alloc ?_ _));exact BK147.out⟩,⟨by repeat (first|(with_reducible first|exact HB.out|apply below_alloc|apply pw_below_drewN|apply below_drew1|refine below_set ?_ GE146.out|refine below_set ?_ GE147.out)|exact HB.out)⟩⟩
      case rest =>
       clear HC108
       try clear c3
       try clear c4
       try clear c7
       try clear c25
       try clear c28
       try clear c29
       try clear c30
       try clear c31
       try clear c32
       try clear c32b0
       try clear c32b1
       try clear c45
       try clear c45b0
       try clear c45b1
       try clear c50
       try clear c50b0
       try clear c50b1
       try clear c51b0
       try clear c52
       try clear c52b0
       try clear c52b1
       try clear c53
       try clear c53b0
       try clear c53b1
       try clear c67
       try clear c67b0
       try clear c67b1
       try clear c68
       try clear c68b0
       try clear c68b1
       try clear c69
       try clear c69b0
       try clear c69b1
       try clear c70
       try clear c70b0
       try clear c70b1
       try clear c83
       try clear c83b0
       try clear c83b1
       try clear c88
       try clear c88b0
       try clear c88b1
       try clear c89b0
       try clear c90
       try clear c90b0
       try clear c90b1
       try clear c91
       try clear c91b0
       try clear c91b1
       try clear c106
       try clear c110
       try clear c110b0
       try clear c111
       try clear c111b0
       try clear c112
       try clear c112b0
       try clear c113
       try clear c113b0
       try clear p114
       try clear q114
       try clear hx114
       try clear hcz100_0
       try clear hcz100_1
       try clear hcz100_2
       try clear hcz100_3
       try clear hcz100_4
       try clear hcz103_0
       try clear hcz103_1
       try clear hcz103_2
       try clear hcz103_3
       try clear hcz103_4
       try clear hcz104_0
       try clear hcz104_1
       try clear hcz104_2
       try clear hcz104_3
       try clear hcz104_4
       try clear hcz56_0
       try clear hcz56_1
       try clear hcz56_2
       try clear hcz56_3
       try clear hcz56_4
       try clear hcz61_0
       try clear hcz61_1
       try clear hcz61_2
       try clear hcz61_3
       try clear hcz61_4
       try clear hcz62_0
       try clear hcz62_1
       try clear hcz62_2
       try clear hcz62_3
       try clear hcz62_4
       try clear hcz65_0
       try clear hcz65_1
       try clear hcz65_2
       try clear hcz65_3
       try clear hcz65_4
       try clear hcz66_0
       try clear hcz66_1
       try clear hcz66_2
       try clear hcz66_3
       try clear hcz66_4
       try clear hcz94_0
       try clear hcz94_1
       try clear hcz94_2
       try clear hcz94_3
       try clear hcz94_4
       try clear hcz99_0
       try clear hcz99_1
       try clear hcz99_2
       try clear hcz99_3
       try clear hcz99_4
       try clear hfz100_0
       try clear hfz100_1
       try clear hfz100_2
       try clear hfz100_3
       try clear hfz100_4
       try clear hfz103_0
       try clear hfz103_1
       try clear hfz103_2
       try clear hfz103_3
       try clear hfz103_4
       try clear hfz104_0
       try clear hfz104_1
       try clear hfz104_2
       try clear hfz104_3
       try clear hfz104_4
       try clear hfz56_0
       try clear hfz56_1
       try clear hfz56_2
       try clear hfz56_3
       try clear hfz56_4
       try clear hfz61_0
       try clear hfz61_1
       try clear hfz61_2
       try clear hfz61_3
       try clear hfz61_4
       try clear hfz62_0
       try clear hfz62_1
       try clear hfz62_2
       try clear hfz62_3
       try clear hfz62_4
       try clear hfz65_0
       try clear hfz65_1
       try clear hfz65_2
       try clear hfz65_3
       try clear hfz65_4
       try clear hfz66_0
       try clear hfz66_1
       try clear hfz66_2
       try clear hfz66_3
       try clear hfz66_4
       try clear hfz94_0
       try clear hfz94_1
       try clear hfz94_2
       try clear hfz94_3
       try clear hfz94_4
       try clear hfz99_0
       try clear hfz99_1
       try clear hfz99_2
       try clear hfz99_3
       try clear hfz99_4
       try clear p114
       try clear q114
       try clear BK146
       try clear BK147
       obtain ⟨kq,x9_107,rfl,HA,HJ107,BK146,BK147,HB⟩:=hcut
       cases kq with
       | zero => exact absurd HA.out (by simp [impl_nextSign.j2])
       | succ kj107 =>
        have H:=HA.out
        clear HA
        simp only [impl_nextSign.j2] at H
        by_cases c115 : x9_107 ≤ 999999999
        ·rw [if_pos c115] at H
         have c115b0 : decide (x9_107 ≤ 999999999) = true:=decide_eq_true c115
         clear c115
         simp only [Option.some.injEq,Prod.mk.injEq] at H
         obtain ⟨rfl,rfl,rfl,rfl,rfl,rfl⟩:=H
         have hnb116:=NB147_146.out
         have hnc116:=NB146_147.out
         have hcz117_0 : wc.cell? ⟨gb147,0,none⟩ = some (.int .i64 0):=(blk_cell BK147.out 0).trans rfl
         have hcz117_1 : wc.cell? ⟨gb147,1,none⟩ = some (.string (⟨#[]⟩ : ByteArray)):=(blk_cell BK147.out 1).trans rfl
         have hcz117_2 : wc.cell? ⟨gb147,2,none⟩ = some (.int .i64 0):=(blk_cell BK147.out 2).trans rfl
         have hcz117_3 : wc.cell? ⟨gb147,3,none⟩ = some (.int .i64 a1):=(blk_cell BK147.out 3).trans rfl
         have hcz117_4 : wc.cell? ⟨gb147,4,none⟩ = some (.bool false):=(blk_cell BK147.out 4).trans rfl
         have hfz117_0:=blk_frozen BK147.out 0
         have hfz117_1:=blk_frozen BK147.out 1
         have hfz117_2:=blk_frozen BK147.out 2
         have hfz117_3:=blk_frozen BK147.out 3
         have hfz117_4:=blk_frozen BK147.out 4
         have hcz118_0 : wc.cell? ⟨gb146,0,none⟩ = some (.int .i64 0):=(blk_cell BK146.out 0).trans rfl
         have hcz118_1 : wc.cell? ⟨gb146,1,none⟩ = some (.string (⟨#[]⟩ : ByteArray)):=(blk_cell BK146.out 1).trans rfl
         have hcz118_2 : wc.cell? ⟨gb146,2,none⟩ = some (.int .i64 0):=(blk_cell BK146.out 2).trans rfl
         have hcz118_3 : wc.cell? ⟨gb146,3,none⟩ = some (.int .i64 0):=(blk_cell BK146.out 3).trans rfl
         have hcz118_4 : wc.cell? ⟨gb146,4,none⟩ = some (.bool false):=(blk_cell BK146.out 4).trans rfl
         have hfz118_0:=blk_frozen BK146.out 0
         have hfz118_1:=blk_frozen BK146.out 1
         have hfz118_2:=blk_frozen BK146.out 2
         have hfz118_3:=blk_frozen BK146.out 3
         have hfz118_4:=blk_frozen BK146.out 4
         go_wp2
         refine bodyPost_ret (results_ct rfl _ _ gb146 46 #[.int .i64 3,.string (⟨#[]⟩ : ByteArray),.int .i64 x9_107,.int .i64 a1,.bool false] (0,0) _ rfl (by (with_reducible repeat (first|refine blk_drewN ?_ _|refine blk_drew ?_|refine blk_alloc ?_ _));refine blk_put (cs:=#[.int .i64 3,.string (⟨#[]⟩ : ByteArray),.int .i64 x9_107,.int .i64 a1,.bool false]) ?_ 4 _ rfl;(with_reducible repeat (first|refine blk_drewN ?_ _|refine blk_drew ?_|refine blk_alloc ?_ _));refine blk_put (cs:=#[.int .i64 3,.string (⟨#[]⟩ : ByteArray),.int .i64 x9_107,.int .i64 0,.bool false]) ?_ 3 _ rfl;(with_reducible repeat (first|refine blk_drewN ?_ _|refine blk_drew ?_|refine blk_alloc ?_ _));refine blk_put (cs:=#[.int .i64 3,.string (⟨#[]⟩ : ByteArray),.int .i64 0,.int .i64 0,.bool false]) ?_ 2 _ rfl;(with_reducible repeat (first|refine blk_drewN ?_ _|refine blk_drew ?_|refine blk_alloc ?_ _));refine blk_put (cs:=#[.int .i64 3,.string (⟨#[]⟩ : ByteArray),.int .i64 0,.int .i64 0,.bool false]) ?_ 1 _ rfl;(with_reducible repeat (first|refine blk_drewN ?_ _|refine blk_drew ?_|refine blk_alloc ?_ _));refine blk_put (cs:=#[.int .i64 0,.string (⟨#[]⟩ : ByteArray),.int .i64 0,.int .i64 0,.bool false]) ?_ 0 _ rfl;(with_reducible repeat (first|refine blk_drewN ?_ _|refine blk_drew ?_|refine blk_alloc ?_ _));refine blk_far ?_ NB146_147.out _;(with_reducible repeat (first|refine blk_drewN ?_ _|refine blk_drew ?_|refine blk_alloc ?_ _));refine blk_far ?_ NB146_147.out _;(with_reducible repeat (first|refine blk_drewN ?_ _|refine blk_drew ?_|refine blk_alloc ?_ _));exact BK146.out) Try.underlying46 rfl (by kernel_rfl)) rfl ?_
         exact ⟨by first|rfl|(simp [errW_none,errW_some] <;> rfl)|(simp [*,errW_none,errW_some] <;> rfl),by repeat (first|(with_reducible first|exact HB.out|apply below_alloc|apply pw_below_drewN|apply below_drew1|refine below_set ?_ GE146.out|refine below_set ?_ GE147.out)|exact HB.out)⟩
        ·rw [if_neg c115] at H
         have c115b0 : decide (x9_107 ≤ 999999999) = false:=decide_eq_false c115
         clear c115
         by_cases c119 : 0 ≤ a1
         rotate_left
         ·rw [if_neg c119] at H
          exact absurd H (by simp)
         rw [if_pos c119] at H
         have c119b0:=eq_true c119
         have c119b1 : decide (0 ≤ a1) = true:=decide_eq_true c119
         clear c119
         by_cases c120 : a1 ≤ t154
         rotate_left
         ·rw [if_neg c120] at H
          exact absurd H (by simp)
         rw [if_pos c120] at H
         have c120b0:=eq_true c120
         have c120b1 : decide (a1 ≤ t154) = true:=decide_eq_true c120
         clear c120
         by_cases c121 : t154 ≤ (a0.size : Int)
         rotate_left
         ·rw [if_neg c121] at H
          exact absurd H (by simp)
         rw [if_pos c121] at H
         have c121b0:=eq_true c121
         have c121b1 : decide (t154 ≤ (a0.size : Int)) = true:=decide_eq_true c121
         clear c121
         by_cases c122 : 0 = 0
         ·first|rw [if_pos c122] at H|rw [if_pos trivial] at H
          have c122b0 : (0 == 0) = true:=beq_iff_eq.mpr c122
          have c122b1 : (0 != 0) = false:=bne_eq_false_iff_eq.mpr c122
          clear c122
          have c123b0:=eq_true (of_decide_eq_true (by first|(with_reducible assumption)|assumption) : 0 ≤ a1)
          by_cases c124 : a1 ≤ (wrap64 (a1 + 1))
          rotate_left
          ·rw [if_neg c124] at H
           exact absurd H (by simp)
          rw [if_pos c124] at H
          have c124b0:=eq_true c124
          have c124b1 : decide (a1 ≤ (wrap64 (a1 + 1))) = true:=decide_eq_true c124
          by_cases c125 : (wrap64 (a1 + 1)) ≤ (a0.size : Int)
          rotate_left
          ·rw [if_neg c125] at H
           exact absurd H (by simp)
          rw [if_pos c125] at H
          have c125b0:=eq_true c125
          have c125b1 : decide ((wrap64 (a1 + 1)) ≤ (a0.size : Int)) = true:=decide_eq_true c125
          simp only [Option.some.injEq,Prod.mk.injEq] at H
          obtain ⟨rfl,rfl,rfl,rfl,rfl,rfl⟩:=H
          have hnb126:=NB147_146.out
          have hnc126:=NB146_147.out
          have hcz127_0 : wc.cell? ⟨gb147,0,none⟩ = some (.int .i64 0):=(blk_cell BK147.out 0).trans rfl
          have hcz127_1 : wc.cell? ⟨gb147,1,none⟩ = some (.string (⟨#[]⟩ : ByteArray)):=(blk_cell BK147.out 1).trans rfl
          have hcz127_2 : wc.cell? ⟨gb147,2,none⟩ = some (.int .i64 0):=(blk_cell BK147.out 2).trans rfl
          have hcz127_3 : wc.cell? ⟨gb147,3,none⟩ = some (.int .i64 a1):=(blk_cell BK147.out 3).trans rfl
          have hcz127_4 : wc.cell? ⟨gb147,4,none⟩ = some (.bool false):=(blk_cell BK147.out 4).trans rfl
          have hfz127_0:=blk_frozen BK147.out 0
          have hfz127_1:=blk_frozen BK147.out 1
          have hfz127_2:=blk_frozen BK147.out 2
          have hfz127_3:=blk_frozen BK147.out 3
          have hfz127_4:=blk_frozen BK147.out 4
          try go_wp2
          have n0_ : Aside0 ((wc.setCell ⟨gb147,1,none⟩ (.string (a0.extract (a1 : Int).toNat (t154 : Int).toNat))).heap[gb146]? = some (.cells #[.int .i64 0,.string (⟨#[]⟩ : ByteArray),.int .i64 0,.int .i64 0,.bool false] 46 (0,0))):=⟨by (with_reducible repeat (first|refine blk_drewN ?_ _|refine blk_drew ?_|refine blk_alloc ?_ _));refine blk_far ?_ NB146_147.out _;(with_reducible repeat (first|refine blk_drewN ?_ _|refine blk_drew ?_|refine blk_alloc ?_ _));exact BK146.out⟩
          have n1_ : Aside0 ((wc.setCell ⟨gb147,1,none⟩ (.string (a0.extract (a1 : Int).toNat (t154 : Int).toNat))).heap[gb147]? = some (.cells #[.int .i64 0,.string (a0.extract (a1 : Int).toNat (t154 : Int).toNat),.int .i64 0,.int .i64 a1,.bool false] 46 (0,0))):=⟨by (with_reducible repeat (first|refine blk_drewN ?_ _|refine blk_drew ?_|refine blk_alloc ?_ _));refine blk_put (cs:=#[.int .i64 0,.string (⟨#[]⟩ : ByteArray),.int .i64 0,.int .i64 a1,.bool false]) ?_ 1 _ rfl;(with_reducible repeat (first|refine blk_drewN ?_ _|refine blk_drew ?_|refine blk_alloc ?_ _));exact BK147.out⟩
          have n2_ : Aside0 (Below w.heap.size w (wc.setCell ⟨gb147,1,none⟩ (.string (a0.extract (a1 : Int).toNat (t154 : Int).toNat)))):=⟨by repeat (first|(with_reducible first|exact HB.out|apply below_alloc|apply pw_below_drewN|apply below_drew1|refine below_set ?_ GE146.out|refine below_set ?_ GE147.out)|exact HB.out)⟩
          (try clear BK146)
          (try clear BK147)
          (try clear HB)
          (try simp only [setCell_drewN])
          generalize (wc.setCell ⟨gb147,1,none⟩ (.string (a0.extract (a1 : Int).toNat (t154 : Int).toNat))) = w128 at n0_ n1_ n2_ ⊢
          have BK146:=n0_
          have BK147:=n1_
          have HB:=n2_
          clear n0_ n1_ n2_
          have n0_:=Aside0.mk (blk_drew BK146.out)
          have n1_:=Aside0.mk (blk_drew BK147.out)
          have n2_:=Aside0.mk (below_drew1 HB.out)
          clear BK146
          clear BK147
          clear HB
          have BK146:=n0_
          have BK147:=n1_
          have HB:=n2_
          clear n0_ n1_ n2_
          refine start_ (n:=9) (S:=fun w' => True) (ds:=[]) #[false,false,false,false,false,false,false,false,false] (by kernel_rfl) rfl rfl trivial (fun hHeld => ?_);refine with_tabW impl_nextSign.tab36 impl_nextSign.bits36 (fun HT_ HW_ => ?_)
          generalize w128.drew = w129 at BK146 BK147 HB hHeld ⊢
          refine pure_ (i:=0) (N:=some 149) (v:=?_) (a':=?_) #[true,false,false,false,false,false,false,false,false] rfl rfl (any_of HT_.out (by kernel_rfl)) (fun _ _ _ h => h) (Or.inl ⟨by rfl,?_⟩) ?_ ?_
          rotate_left
          ·intro w'
           go_simp
           with_reducible rfl
          rotate_left
          ·simp only [Act.put,List.setIfInBounds_toArray,List.set_cons_zero,List.set_cons_succ,i64_w,i32_w]
           rfl
          refine pure_ (i:=1) (N:=some 150) (v:=?_) (a':=?_) #[true,true,false,false,false,false,false,false,false] rfl rfl (any_of HT_.out (by kernel_rfl)) (fun _ _ _ h => h) (Or.inl ⟨by rfl,?_⟩) ?_ ?_
          rotate_left
          ·intro w'
           go_simp
           with_reducible rfl
          rotate_left
          ·simp only [Act.put,List.setIfInBounds_toArray,List.set_cons_zero,List.set_cons_succ,i64_w,i32_w]
           rfl
          refine pure_ (i:=2) (N:=some 151) (v:=?_) (a':=?_) #[true,true,true,false,false,false,false,false,false] rfl rfl (any_of HT_.out (by kernel_rfl)) (fun _ _ _ h => h) (Or.inl ⟨by rfl,?_⟩) ?_ ?_
          rotate_left
          ·intro w'
           go_simp
           with_reducible rfl
          rotate_left
          ·simp only [Act.put,List.setIfInBounds_toArray,List.set_cons_zero,List.set_cons_succ,i64_w,i32_w]
           rfl
          refine pure_ (i:=3) (N:=some 152) (v:=?_) (a':=?_) #[true,true,true,true,false,false,false,false,false] rfl rfl (any_of HT_.out (by kernel_rfl)) (fun _ _ _ h => h) (Or.inl ⟨by rfl,?_⟩) ?_ ?_
          rotate_left
          ·intro w'
           go_simp
           with_reducible rfl
          rotate_left
          ·simp only [Act.put,List.setIfInBounds_toArray,List.set_cons_zero,List.set_cons_succ,i64_w,i32_w]
           rfl
          refine pure_ (i:=4) (N:=some 153) (v:=?_) (a':=?_) #[true,true,true,true,true,false,false,false,false] rfl rfl (any_of HT_.out (by kernel_rfl)) (fun _ _ _ h => h) (Or.inl ⟨by rfl,?_⟩) ?_ ?_
          rotate_left
          ·intro w'
           go_simp
           with_reducible rfl
          rotate_left
          ·simp only [Act.put,List.setIfInBounds_toArray,List.set_cons_zero,List.set_cons_succ,i64_w,i32_w]
           rfl
          refine pure_ (i:=5) (N:=some 154) (v:=?_) (a':=?_) #[true,true,true,true,true,true,false,false,false] rfl rfl (any_of HT_.out (by kernel_rfl)) (fun _ _ _ h => h) (Or.inl ⟨by rfl,?_⟩) ?_ ?_
          rotate_left
          ·intro w'
           go_simp
           with_reducible rfl
          rotate_left
          ·simp only [Act.put,List.setIfInBounds_toArray,List.set_cons_zero,List.set_cons_succ,i64_w,i32_w]
           rfl
          refine one_ (i:=6) (N:=none) #[true,true,true,true,true,true,true,false,false] rfl rfl (one_of HT_.out (by kernel_rfl)) (by decide) (fun K hK => ?_)
          have hs130 : w129.cell? ⟨gb147,0,none⟩ = some (.int .i64 0):=(blk_cell BK147.out 0).trans rfl
          have hfs130:=blk_frozen BK147.out 0
          have hns130_0:=NB146_147.out
          have hms130_0:=NB147_146.out
          refine skip_ (w1:=?_) (by rfl) rfl ?_ ?_
          rotate_left
          ·go_simp
           rfl
          refine hK.out _ _ trivial (fun hHeld => ?_)
          clear hK K
          refine pure_ (i:=7) (N:=some 155) (v:=?_) (a':=?_) #[true,true,true,true,true,true,true,true,false] rfl rfl (any_of HT_.out (by kernel_rfl)) (fun _ _ _ h => h) (Or.inl ⟨by rfl,?_⟩) ?_ ?_
          rotate_left
          ·intro w'
           go_simp
           with_reducible rfl
          rotate_left
          ·simp only [Act.put,List.setIfInBounds_toArray,List.set_cons_zero,List.set_cons_succ,i64_w,i32_w]
           rfl
          refine one_ (i:=8) (N:=none) #[true,true,true,true,true,true,true,true,true] rfl rfl (one_of HT_.out (by kernel_rfl)) (by decide) (fun K hK => ?_)
          have hs131 : w129.cell? ⟨gb147,1,none⟩ = some (.string (a0.extract (a1 : Int).toNat (t154 : Int).toNat)):=(blk_cell BK147.out 1).trans rfl
          have hfs131:=blk_frozen BK147.out 1
          have hns131_0:=NB146_147.out
          have hms131_0:=NB147_146.out
          refine skip_ (w1:=?_) (by rfl) rfl ?_ ?_
          rotate_left
          ·go_simp
           rfl
          refine hK.out _ _ trivial (fun hHeld => ?_)
          clear hK K
          refine done_ (done_of HT_.out (by kernel_rfl)) ?_
          have hcz132_0 : w129.cell? ⟨gb147,0,none⟩ = some (.int .i64 0):=(blk_cell BK147.out 0).trans rfl
          have hcz132_1 : w129.cell? ⟨gb147,1,none⟩ = some (.string (a0.extract (a1 : Int).toNat (t154 : Int).toNat)):=(blk_cell BK147.out 1).trans rfl
          have hcz132_2 : w129.cell? ⟨gb147,2,none⟩ = some (.int .i64 0):=(blk_cell BK147.out 2).trans rfl
          have hcz132_3 : w129.cell? ⟨gb147,3,none⟩ = some (.int .i64 a1):=(blk_cell BK147.out 3).trans rfl
          have hcz132_4 : w129.cell? ⟨gb147,4,none⟩ = some (.bool false):=(blk_cell BK147.out 4).trans rfl
          have hfz132_0:=blk_frozen BK147.out 0
          have hfz132_1:=blk_frozen BK147.out 1
          have hfz132_2:=blk_frozen BK147.out 2
          have hfz132_3:=blk_frozen BK147.out 3
          have hfz132_4:=blk_frozen BK147.out 4
          have hcz133_0 : w129.cell? ⟨gb146,0,none⟩ = some (.int .i64 0):=(blk_cell BK146.out 0).trans rfl
          have hcz133_1 : w129.cell? ⟨gb146,1,none⟩ = some (.string (⟨#[]⟩ : ByteArray)):=(blk_cell BK146.out 1).trans rfl
          have hcz133_2 : w129.cell? ⟨gb146,2,none⟩ = some (.int .i64 0):=(blk_cell BK146.out 2).trans rfl
          have hcz133_3 : w129.cell? ⟨gb146,3,none⟩ = some (.int .i64 0):=(blk_cell BK146.out 3).trans rfl
          have hcz133_4 : w129.cell? ⟨gb146,4,none⟩ = some (.bool false):=(blk_cell BK146.out 4).trans rfl
          have hfz133_0:=blk_frozen BK146.out 0
          have hfz133_1:=blk_frozen BK146.out 1
          have hfz133_2:=blk_frozen BK146.out 2
          have hfz133_3:=blk_frozen BK146.out 3
          have hfz133_4:=blk_frozen BK146.out 4
          try go_wp2
          refine bodyPost_ret (results_ct rfl _ _ gb146 46 #[.int .i64 6,.string (a0.extract (a1 : Int).toNat ((wrap64 (a1 + 1)) : Int).toNat),.int .i64 0,.int .i64 a1,.bool false] (0,0) _ rfl (by (with_reducible repeat (first|refine blk_drewN ?_ _|refine blk_drew ?_|refine blk_alloc ?_ _));refine blk_put (cs:=#[.int .i64 6,.string (a0.extract (a1 : Int).toNat ((wrap64 (a1 + 1)) : Int).toNat),.int .i64 0,.int .i64 a1,.bool false]) ?_ 4 _ rfl;(with_reducible repeat (first|refine blk_drewN ?_ _|refine blk_drew ?_|refine blk_alloc ?_ _));refine blk_put (cs:=#[.int .i64 6,.string (a0.extract (a1 : Int).toNat ((wrap64 (a1 + 1)) : Int).toNat),.int .i64 0,.int .i64 0,.bool false]) ?_ 3 _ rfl;(with_reducible repeat (first|refine blk_drewN ?_ _|refine blk_drew ?_|refine blk_alloc ?_ _));refine blk_put (cs:=#[.int .i64 6,.string (a0.extract (a1 : Int).toNat ((wrap64 (a1 + 1)) : Int).toNat),.int .i64 0,.int .i64 0,.bool false]) ?_ 2 _ rfl;(with_reducible repeat (first|refine blk_drewN ?_ _|refine blk_drew ?_|refine blk_alloc ?_ _));refine blk_put (cs:=#[.int .i64 6,.string (⟨#[]⟩ : ByteArray),.int .i64 0,.int .i64 0,.bool false]) ?_ 1 _ rfl;(with_reducible repeat (first|refine blk_drewN ?_ _|refine blk_drew ?_|refine blk_alloc ?_ _));refine blk_put (cs:=#[.int .i64 0,.string (⟨#[]⟩ : ByteArray),.int .i64 0,.int .i64 0,.bool false]) ?_ 0 _ rfl;(with_reducible repeat (first|refine blk_drewN ?_ _|refine blk_drew ?_|refine blk_alloc ?_ _));refine blk_far ?_ NB146_147.out _;(with_reducible repeat (first|refine blk_drewN ?_ _|refine blk_drew ?_|refine blk_alloc ?_ _));refine blk_far ?_ NB146_147.out _;(with_reducible repeat (first|refine blk_drewN ?_ _|refine blk_drew ?_|refine blk_alloc ?_ _));exact BK146.out) Try.underlying46 rfl (by kernel_rfl)) rfl ?_
          exact ⟨by first|rfl|(simp [errW_none,errW_some] <;> rfl)|(simp [*,errW_none,errW_some] <;> rfl),by repeat (first|(with_reducible first|exact HB.out|apply below_alloc|apply pw_below_drewN|apply below_drew1|refine below_set ?_ GE146.out|refine below_set ?_ GE147.out)|exact HB.out)⟩
         ·exact absurd rfl c122
     ·replace c106:=Bool.eq_false_iff.mpr c106
      subst c106
      have H1 : ((impl_SymbolByte.f kj14 (bt a0 a1)).bind fun t155 => (if t155 = true then ((fk_impl_run.f kj14 a0 a1 14).bind fun t156 => (if 0 ≤ a1 then (if a1 ≤ t156 then (if t156 ≤ (a0.size : Int) then (if 1 = 0 then (if a1 ≤ (wrap64 (a1 + 1)) then (if (wrap64 (a1 + 1)) ≤ (a0.size : Int) then (some (6,a0.extract (a1 : Int).toNat ((wrap64 (a1 + 1)) : Int).toNat,0,a1,false,wrap64 (a1 + 1))) else (none)) else (none)) else (if 1 = 4 then (some (1,a0.extract (a1 : Int).toNat (t156 : Int).toNat,0,a1,false,t156)) else (if ((a0.extract (a1 : Int).toNat (t156 : Int).toNat).size : Int) > 20 then (if a1 ≤ (wrap64 (a1 + 1)) then (if (wrap64 (a1 + 1)) ≤ (a0.size : Int) then (some (6,a0.extract (a1 : Int).toNat ((wrap64 (a1 + 1)) : Int).toNat,0,a1,false,wrap64 (a1 + 1))) else (none)) else (none)) else (some (1,a0.extract (a1 : Int).toNat (t156 : Int).toNat,0,a1,false,t156))))) else (none)) else (none)) else (none))) else (if (bt a0 a1) = 33 then (impl_nextSign.j3 kj14 a0 a1 (bt a0 a1) (wrap64 (a1 + 1)) true 0 (⟨#[]⟩ : ByteArray) 0 a1 false) else (impl_nextSign.j3 kj14 a0 a1 (bt a0 a1) (wrap64 (a1 + 1)) ((bt a0 a1) == 59) 0 (⟨#[]⟩ : ByteArray) 0 a1 false)))) = some (r1,r2,r3,r4,r5,r6):=by rw [if_neg (show ¬ (false = true) by decide)] at H;exact H
      clear H
      have H:=H1
      clear H1
      replace H:=Option.bind_eq_some_iff.mp H
      obtain ⟨t155,A1530,H⟩:=H
      replace H : (if t155 = true then ((fk_impl_run.f kj14 a0 a1 14).bind fun t156 => (if 0 ≤ a1 then (if a1 ≤ t156 then (if t156 ≤ (a0.size : Int) then (if 1 = 0 then (if a1 ≤ (wrap64 (a1 + 1)) then (if (wrap64 (a1 + 1)) ≤ (a0.size : Int) then (some (6,a0.extract (a1 : Int).toNat ((wrap64 (a1 + 1)) : Int).toNat,0,a1,false,wrap64 (a1 + 1))) else (none)) else (none)) else (if 1 = 4 then (some (1,a0.extract (a1 : Int).toNat (t156 : Int).toNat,0,a1,false,t156)) else (if ((a0.extract (a1 : Int).toNat (t156 : Int).toNat).size : Int) > 20 then (if a1 ≤ (wrap64 (a1 + 1)) then (if (wrap64 (a1 + 1)) ≤ (a0.size : Int) then (some (6,a0.extract (a1 : Int).toNat ((wrap64 (a1 + 1)) : Int).toNat,0,a1,false,wrap64 (a1 + 1))) else (none)) else (none)) else (some (1,a0.extract (a1 : Int).toNat (t156 : Int).toNat,0,a1,false,t156))))) else (none)) else (none)) else (none))) else (if (bt a0 a1) = 33 then (impl_nextSign.j3 kj14 a0 a1 (bt a0 a1) (wrap64 (a1 + 1)) true 0 (⟨#[]⟩ : ByteArray) 0 a1 false) else (impl_nextSign.j3 kj14 a0 a1 (bt a0 a1) (wrap64 (a1 + 1)) ((bt a0 a1) == 59) 0 (⟨#[]⟩ : ByteArray) 0 a1 false))) = some (r1,r2,r3,r4,r5,r6):=H
      have A153:=Aside0.mk A1530
      clear A1530
      by_cases c154 : t155 = true
      ·subst c154
       have H1 : ((fk_impl_run.f kj14 a0 a1 14).bind fun t156 => (if 0 ≤ a1 then (if a1 ≤ t156 then (if t156 ≤ (a0.size : Int) then (if 1 = 0 then (if a1 ≤ (wrap64 (a1 + 1)) then (if (wrap64 (a1 + 1)) ≤ (a0.size : Int) then (some (6,a0.extract (a1 : Int).toNat ((wrap64 (a1 + 1)) : Int).toNat,0,a1,false,wrap64 (a1 + 1))) else (none)) else (none)) else (if 1 = 4 then (some (1,a0.extract (a1 : Int).toNat (t156 : Int).toNat,0,a1,false,t156)) else (if ((a0.extract (a1 : Int).toNat (t156 : Int).toNat).size : Int) > 20 then (if a1 ≤ (wrap64 (a1 + 1)) then (if (wrap64 (a1 + 1)) ≤ (a0.size : Int) then (some (6,a0.extract (a1 : Int).toNat ((wrap64 (a1 + 1)) : Int).toNat,0,a1,false,wrap64 (a1 + 1))) else (none)) else (none)) else (some (1,a0.extract (a1 : Int).toNat (t156 : Int).toNat,0,a1,false,t156))))) else (none)) else (none)) else (none))) = some (r1,r2,r3,r4,r5,r6):=by rw [if_pos rfl] at H;exact H
       clear H
       have H:=H1
       clear H1
       replace H:=Option.bind_eq_some_iff.mp H
       obtain ⟨t156,A1550,H⟩:=H
       replace H : (if 0 ≤ a1 then (if a1 ≤ t156 then (if t156 ≤ (a0.size : Int) then (if 1 = 0 then (if a1 ≤ (wrap64 (a1 + 1)) then (if (wrap64 (a1 + 1)) ≤ (a0.size : Int) then (some (6,a0.extract (a1 : Int).toNat ((wrap64 (a1 + 1)) : Int).toNat,0,a1,false,wrap64 (a1 + 1))) else (none)) else (none)) else (if 1 = 4 then (some (1,a0.extract (a1 : Int).toNat (t156 : Int).toNat,0,a1,false,t156)) else (if ((a0.extract (a1 : Int).toNat (t156 : Int).toNat).size : Int) > 20 then (if a1 ≤ (wrap64 (a1 + 1)) then (if (wrap64 (a1 + 1)) ≤ (a0.size : Int) then (some (6,a0.extract (a1 : Int).toNat ((wrap64 (a1 + 1)) : Int).toNat,0,a1,false,wrap64 (a1 + 1))) else (none)) else (none)) else (some (1,a0.extract (a1 : Int).toNat (t156 : Int).toNat,0,a1,false,t156))))) else (none)) else (none)) else (none)) = some (r1,r2,r3,r4,r5,r6):=H
       have A155:=Aside0.mk A1550
       clear A1550
       by_cases c156 : 0 ≤ a1
       rotate_left
       ·rw [if_neg c156] at H
        exact absurd H (by simp)
       rw [if_pos c156] at H
       have c156b0:=eq_true c156
       have c156b1 : decide (0 ≤ a1) = true:=decide_eq_true c156
       clear c156
       by_cases c157 : a1 ≤ t156
       rotate_left
       ·rw [if_neg c157] at H
        exact absurd H (by simp)
       rw [if_pos c157] at H
       have c157b0:=eq_true c157
       have c157b1 : decide (a1 ≤ t156) = true:=decide_eq_true c157
       clear c157
       by_cases c158 : t156 ≤ (a0.size : Int)
       rotate_left
       ·rw [if_neg c158] at H
        exact absurd H (by simp)
       rw [if_pos c158] at H
       have c158b0:=eq_true c158
       have c158b1 : decide (t156 ≤ (a0.size : Int)) = true:=decide_eq_true c158
       clear c158
       by_cases c159 : 1 = 0
       ·exact absurd c159 (by decide)
       ·first|rw [if_neg c159] at H|rw [if_neg not_false] at H
        have c159b0 : (1 == 0) = false:=beq_eq_false_iff_ne.mpr c159
        have c159b1 : (1 != 0) = true:=bne_iff_ne.mpr c159
        by_cases c173 : 1 = 4
        ·exact absurd c173 (by decide)
        ·first|rw [if_neg c173] at H|rw [if_neg not_false] at H
         have c173b0 : (1 == 4) = false:=beq_eq_false_iff_ne.mpr c173
         have c173b1 : (1 != 4) = true:=bne_iff_ne.mpr c173
         by_cases c179 : ((a0.extract (a1 : Int).toNat (t156 : Int).toNat).size : Int) > 20
         ·rw [if_pos c179] at H
          have c179b0 : decide (20 < ((a0.extract (a1 : Int).toNat (t156 : Int).toNat).size : Int)) = true:=decide_eq_true c179
          have c179b2 : decide (20 < ((((t156 : Int)).toNat - ((a1 : Int)).toNat : Nat) : Int)) = true:=by have h_:=c179b0;have hx_ : (t156) ≤ (a0.size : Int):=of_decide_eq_true (by first|(with_reducible assumption)|assumption);rw [ByteArray.size_extract,Nat.min_eq_left (by omega)] at h_;exact h_
          have c179b1 : decide (20 < (a0.extract (a1 : Int).toNat (t156 : Int).toNat).size) = true:=decide_eq_true (by omega)
          clear c179
          have c180b0:=eq_true (of_decide_eq_true (by first|(with_reducible assumption)|assumption) : 0 ≤ a1)
          by_cases c181 : a1 ≤ (wrap64 (a1 + 1))
          rotate_left
          ·rw [if_neg c181] at H
           exact absurd H (by simp)
          rw [if_pos c181] at H
          have c181b0:=eq_true c181
          have c181b1 : decide (a1 ≤ (wrap64 (a1 + 1))) = true:=decide_eq_true c181
          by_cases c182 : (wrap64 (a1 + 1)) ≤ (a0.size : Int)
          rotate_left
          ·rw [if_neg c182] at H
           exact absurd H (by simp)
          rw [if_pos c182] at H
          have c182b0:=eq_true c182
          have c182b1 : decide ((wrap64 (a1 + 1)) ≤ (a0.size : Int)) = true:=decide_eq_true c182
          simp only [Option.some.injEq,Prod.mk.injEq] at H
          obtain ⟨rfl,rfl,rfl,rfl,rfl,rfl⟩:=H
          try go_wp2_with (first|((with_reducible refine gate_callee (f:=74) rfl ?_);refine goesL_ (some 47) rfl rfl Try.func74 (by kernel_rfl) rfl #[.int .u8 (bt a0 a1)] rfl (by (try simp only [List.map_toArray,List.map_cons,List.map_nil]);first|done|rfl|(simp only [List.length_drop,List.length_take];rfl)) ?_;(with_reducible refine (impl_figure.calls (bt a0 a1) false _ A105.out).mono ?_);rintro e w' ⟨rfl,⟨nd,rfl⟩⟩;refine ⟨_,rfl,?_⟩;(try (rw [drewN_self wc];generalize hq_ : World.drewN wc _ = wc;have n0_ : Aside0 (wc.heap[gb146]? = some (.cells #[.int .i64 0,.string (⟨#[]⟩ : ByteArray),.int .i64 0,.int .i64 0,.bool false] 46 (0,0))):=⟨by rw [← hq_];exact (by (with_reducible repeat (first|refine blk_drewN ?_ _|refine blk_drew ?_|refine blk_alloc ?_ _));exact BK146.out)⟩;have n1_ : Aside0 (wc.heap[gb147]? = some (.cells #[.int .i64 0,.string (⟨#[]⟩ : ByteArray),.int .i64 0,.int .i64 a1,.bool false] 46 (0,0))):=⟨by rw [← hq_];exact (by (with_reducible repeat (first|refine blk_drewN ?_ _|refine blk_drew ?_|refine blk_alloc ?_ _));exact BK147.out)⟩;have n2_ : Aside0 (Below w.heap.size w wc):=⟨by rw [← hq_];exact (by repeat (first|(with_reducible first|exact HB.out|apply below_alloc|apply pw_below_drewN|apply below_drew1|refine below_set ?_ GE146.out|refine below_set ?_ GE147.out)|exact HB.out))⟩;clear BK146 BK147 HB hq_;have BK146:=n0_;have BK147:=n1_;have HB:=n2_;clear n0_ n1_ n2_;(try have hyq146_0:=(blk_cell BK146.out 0).trans (rfl : _ = some _));(try have hyf146_0:=blk_frozen BK146.out 0);(try have hyq146_1:=(blk_cell BK146.out 1).trans (rfl : _ = some _));(try have hyf146_1:=blk_frozen BK146.out 1);(try have hyq146_2:=(blk_cell BK146.out 2).trans (rfl : _ = some _));(try have hyf146_2:=blk_frozen BK146.out 2);(try have hyq146_3:=(blk_cell BK146.out 3).trans (rfl : _ = some _));(try have hyf146_3:=blk_frozen BK146.out 3);(try have hyq147_0:=(blk_cell BK147.out 0).trans (rfl : _ = some _));(try have hyf147_0:=blk_frozen BK147.out 0);(try have hyq147_1:=(blk_cell BK147.out 1).trans (rfl : _ = some _));(try have hyf147_1:=blk_frozen BK147.out 1);(try have hyq147_2:=(blk_cell BK147.out 2).trans (rfl : _ = some _));(try have hyf147_2:=blk_frozen BK147.out 2);(try have hyq147_3:=(blk_cell BK147.out 3).trans (rfl : _ = some _));(try have hyf147_3:=blk_frozen BK147.out 3))))|((with_reducible refine gate_callee (f:=14) rfl ?_);refine goesL_ (some 78) rfl rfl Try.func14 (by kernel_rfl) rfl #[.int .u8 (bt a0 a1)] rfl (by (try simp only [List.map_toArray,List.map_cons,List.map_nil]);first|done|rfl|(simp only [List.length_drop,List.length_take];rfl)) ?_;(with_reducible refine (impl_SymbolByte.calls kj14 (bt a0 a1) true _ A153.out).mono ?_);rintro e w183 ⟨rfl,hb⟩;refine ⟨_,rfl,?_⟩;have n0_:=Aside0.mk (blk_below (g:=gb146) (o:=.cells #[.int .i64 0,.string (⟨#[]⟩ : ByteArray),.int .i64 0,.int .i64 0,.bool false] 46 (0,0)) (by (with_reducible repeat (first|refine blk_drewN ?_ _|refine blk_drew ?_|refine blk_alloc ?_ _));exact BK146.out) hb);have n1_:=Aside0.mk (blk_below (g:=gb147) (o:=.cells #[.int .i64 0,.string (⟨#[]⟩ : ByteArray),.int .i64 0,.int .i64 a1,.bool false] 46 (0,0)) (by (with_reducible repeat (first|refine blk_drewN ?_ _|refine blk_drew ?_|refine blk_alloc ?_ _));exact BK147.out) hb);have n2_:=Aside0.mk (below_step (by repeat (first|(with_reducible first|exact HB.out|apply below_alloc|apply pw_below_drewN|apply below_drew1|refine below_set ?_ GE146.out|refine below_set ?_ GE147.out)|exact HB.out)) hb);clear BK146;clear BK147;clear HB;have BK146:=n0_;have BK147:=n1_;have HB:=n2_;clear n0_ n1_ n2_;(try clear hb))|((with_reducible refine gate_callee (f:=55) rfl ?_);refine goesL_ (some 81) rfl rfl Try.func55 (by kernel_rfl) rfl #[.string a0,.int .i64 a1,.func (.func 14) #[] #[]] rfl (by (try simp only [List.map_toArray,List.map_cons,List.map_nil]);first|done|rfl|(simp only [List.length_drop,List.length_take];rfl)) ?_;(with_reducible refine (fk_impl_run.calls_14 kj14 a0 a1 t156 _ A155.out).mono ?_);rintro e w184 ⟨rfl,hb⟩;refine ⟨_,rfl,?_⟩;have n0_:=Aside0.mk (blk_below (g:=gb146) (o:=.cells #[.int .i64 0,.string (⟨#[]⟩ : ByteArray),.int .i64 0,.int .i64 0,.bool false] 46 (0,0)) (by (with_reducible repeat (first|refine blk_drewN ?_ _|refine blk_drew ?_|refine blk_alloc ?_ _));exact BK146.out) hb);have n1_:=Aside0.mk (blk_below (g:=gb147) (o:=.cells #[.int .i64 0,.string (⟨#[]⟩ : ByteArray),.int .i64 0,.int .i64 a1,.bool false] 46 (0,0)) (by (with_reducible repeat (first|refine blk_drewN ?_ _|refine blk_drew ?_|refine blk_alloc ?_ _));exact BK147.out) hb);have n2_:=Aside0.mk (below_step (by repeat (first|(with_reducible first|exact HB.out|apply below_alloc|apply pw_below_drewN|apply below_drew1|refine below_set ?_ GE146.out|refine below_set ?_ GE147.out)|exact HB.out)) hb);clear BK146;clear BK147;clear HB;have BK146:=n0_;have BK147:=n1_;have HB:=n2_;clear n0_ n1_ n2_;(try clear hb);(try clear hb2);(try clear hk);(try clear hi);have hnb185:=NB147_146.out;have hnc185:=NB146_147.out;have hcz186_0 : w184.cell? ⟨gb147,0,none⟩ = some (.int .i64 0):=(blk_cell BK147.out 0).trans rfl;have hcz186_1 : w184.cell? ⟨gb147,1,none⟩ = some (.string (⟨#[]⟩ : ByteArray)):=(blk_cell BK147.out 1).trans rfl;have hcz186_2 : w184.cell? ⟨gb147,2,none⟩ = some (.int .i64 0):=(blk_cell BK147.out 2).trans rfl;have hcz186_3 : w184.cell? ⟨gb147,3,none⟩ = some (.int .i64 a1):=(blk_cell BK147.out 3).trans rfl;have hcz186_4 : w184.cell? ⟨gb147,4,none⟩ = some (.bool false):=(blk_cell BK147.out 4).trans rfl;have hfz186_0:=blk_frozen BK147.out 0;have hfz186_1:=blk_frozen BK147.out 1;have hfz186_2:=blk_frozen BK147.out 2;have hfz186_3:=blk_frozen BK147.out 3;have hfz186_4:=blk_frozen BK147.out 4))
          have n0_ : Aside0 (((w184.setCell ⟨gb147,0,none⟩ (.int .i64 1)).setCell ⟨gb147,1,none⟩ (.string (a0.extract (a1 : Int).toNat (t156 : Int).toNat))).heap[gb146]? = some (.cells #[.int .i64 0,.string (⟨#[]⟩ : ByteArray),.int .i64 0,.int .i64 0,.bool false] 46 (0,0))):=⟨by (with_reducible repeat (first|refine blk_drewN ?_ _|refine blk_drew ?_|refine blk_alloc ?_ _));refine blk_far ?_ NB146_147.out _;(with_reducible repeat (first|refine blk_drewN ?_ _|refine blk_drew ?_|refine blk_alloc ?_ _));refine blk_far ?_ NB146_147.out _;(with_reducible repeat (first|refine blk_drewN ?_ _|refine blk_drew ?_|refine blk_alloc ?_ _));exact BK146.out⟩
          have n1_ : Aside0 (((w184.setCell ⟨gb147,0,none⟩ (.int .i64 1)).setCell ⟨gb147,1,none⟩ (.string (a0.extract (a1 : Int).toNat (t156 : Int).toNat))).heap[gb147]? = some (.cells #[.int .i64 1,.string (a0.extract (a1 : Int).toNat (t156 : Int).toNat),.int .i64 0,.int .i64 a1,.bool false] 46 (0,0))):=⟨by (with_reducible repeat (first|refine blk_drewN ?_ _|refine blk_drew ?_|refine blk_alloc ?_ _));refine blk_put (cs:=#[.int .i64 1,.string (⟨#[]⟩ : ByteArray),.int .i64 0,.int .i64 a1,.bool false]) ?_ 1 _ rfl;(with_reducible repeat (first|refine blk_drewN ?_ _|refine blk_drew ?_|refine blk_alloc ?_ _));refine blk_put (cs:=#[.int .i64 0,.string (⟨#[]⟩ : ByteArray),.int .i64 0,.int .i64 a1,.bool false]) ?_ 0 _ rfl;(with_reducible repeat (first|refine blk_drewN ?_ _|refine blk_drew ?_|refine blk_alloc ?_ _));exact BK147.out⟩
          have n2_ : Aside0 (Below w.heap.size w ((w184.setCell ⟨gb147,0,none⟩ (.int .i64 1)).setCell ⟨gb147,1,none⟩ (.string (a0.extract (a1 : Int).toNat (t156 : Int).toNat)))):=⟨by repeat (first|(with_reducible first|exact HB.out|apply below_alloc|apply pw_below_drewN|apply below_drew1|refine below_set ?_ GE146.out|refine below_set ?_ GE147.out)|exact HB.out)⟩
          (try clear BK146)
          (try clear BK147)
          (try clear HB)
          (try simp only [setCell_drewN])
          generalize ((w184.setCell ⟨gb147,0,none⟩ (.int .i64 1)).setCell ⟨gb147,1,none⟩ (.string (a0.extract (a1 : Int).toNat (t156 : Int).toNat))) = w187 at n0_ n1_ n2_ ⊢
          have BK146:=n0_
          have BK147:=n1_
          have HB:=n2_
          clear n0_ n1_ n2_
          have n0_:=Aside0.mk (blk_drew BK146.out)
          have n1_:=Aside0.mk (blk_drew BK147.out)
          have n2_:=Aside0.mk (below_drew1 HB.out)
          clear BK146
          clear BK147
          clear HB
          have BK146:=n0_
          have BK147:=n1_
          have HB:=n2_
          clear n0_ n1_ n2_
          refine start_ (n:=9) (S:=fun w' => True) (ds:=[]) #[false,false,false,false,false,false,false,false,false] (by kernel_rfl) rfl rfl trivial (fun hHeld => ?_);refine with_tabW impl_nextSign.tab36 impl_nextSign.bits36 (fun HT_ HW_ => ?_)
          generalize w187.drew = w188 at BK146 BK147 HB hHeld ⊢
          refine pure_ (i:=0) (N:=some 149) (v:=?_) (a':=?_) #[true,false,false,false,false,false,false,false,false] rfl rfl (any_of HT_.out (by kernel_rfl)) (fun _ _ _ h => h) (Or.inl ⟨by rfl,?_⟩) ?_ ?_
          rotate_left
          ·intro w'
           go_simp
           with_reducible rfl
          rotate_left
          ·simp only [Act.put,List.setIfInBounds_toArray,List.set_cons_zero,List.set_cons_succ,i64_w,i32_w]
           rfl
          refine pure_ (i:=1) (N:=some 150) (v:=?_) (a':=?_) #[true,true,false,false,false,false,false,false,false] rfl rfl (any_of HT_.out (by kernel_rfl)) (fun _ _ _ h => h) (Or.inl ⟨by rfl,?_⟩) ?_ ?_
          rotate_left
          ·intro w'
           go_simp
           with_reducible rfl
          rotate_left
          ·simp only [Act.put,List.setIfInBounds_toArray,List.set_cons_zero,List.set_cons_succ,i64_w,i32_w]
           rfl
          refine pure_ (i:=2) (N:=some 151) (v:=?_) (a':=?_) #[true,true,true,false,false,false,false,false,false] rfl rfl (any_of HT_.out (by kernel_rfl)) (fun _ _ _ h => h) (Or.inl ⟨by rfl,?_⟩) ?_ ?_
          rotate_left
          ·intro w'
           go_simp
           with_reducible rfl
          rotate_left
          ·simp only [Act.put,List.setIfInBounds_toArray,List.set_cons_zero,List.set_cons_succ,i64_w,i32_w]
           rfl
          refine pure_ (i:=3) (N:=some 152) (v:=?_) (a':=?_) #[true,true,true,true,false,false,false,false,false] rfl rfl (any_of HT_.out (by kernel_rfl)) (fun _ _ _ h => h) (Or.inl ⟨by rfl,?_⟩) ?_ ?_
          rotate_left
          ·intro w'
           go_simp
           with_reducible rfl
          rotate_left
          ·simp only [Act.put,List.setIfInBounds_toArray,List.set_cons_zero,List.set_cons_succ,i64_w,i32_w]
           rfl
          refine pure_ (i:=4) (N:=some 153) (v:=?_) (a':=?_) #[true,true,true,true,true,false,false,false,false] rfl rfl (any_of HT_.out (by kernel_rfl)) (fun _ _ _ h => h) (Or.inl ⟨by rfl,?_⟩) ?_ ?_
          rotate_left
          ·intro w'
           go_simp
           with_reducible rfl
          rotate_left
          ·simp only [Act.put,List.setIfInBounds_toArray,List.set_cons_zero,List.set_cons_succ,i64_w,i32_w]
           rfl
          refine pure_ (i:=5) (N:=some 154) (v:=?_) (a':=?_) #[true,true,true,true,true,true,false,false,false] rfl rfl (any_of HT_.out (by kernel_rfl)) (fun _ _ _ h => h) (Or.inl ⟨by rfl,?_⟩) ?_ ?_
          rotate_left
          ·intro w'
           go_simp
           with_reducible rfl
          rotate_left
          ·simp only [Act.put,List.setIfInBounds_toArray,List.set_cons_zero,List.set_cons_succ,i64_w,i32_w]
           rfl
          refine one_ (i:=6) (N:=none) #[true,true,true,true,true,true,true,false,false] rfl rfl (one_of HT_.out (by kernel_rfl)) (by decide) (fun K hK => ?_)
          have hs189 : w188.cell? ⟨gb147,0,none⟩ = some (.int .i64 1):=(blk_cell BK147.out 0).trans rfl
          have hfs189:=blk_frozen BK147.out 0
          have hns189_0:=NB146_147.out
          have hms189_0:=NB147_146.out
          refine skip_ (w1:=?_) (by rfl) rfl ?_ ?_
          rotate_left
          ·go_simp
           rfl
          refine hK.out _ _ trivial (fun hHeld => ?_)
          clear hK K
          refine pure_ (i:=7) (N:=some 155) (v:=?_) (a':=?_) #[true,true,true,true,true,true,true,true,false] rfl rfl (any_of HT_.out (by kernel_rfl)) (fun _ _ _ h => h) (Or.inl ⟨by rfl,?_⟩) ?_ ?_
          rotate_left
          ·intro w'
           go_simp
           with_reducible rfl
          rotate_left
          ·simp only [Act.put,List.setIfInBounds_toArray,List.set_cons_zero,List.set_cons_succ,i64_w,i32_w]
           rfl
          refine one_ (i:=8) (N:=none) #[true,true,true,true,true,true,true,true,true] rfl rfl (one_of HT_.out (by kernel_rfl)) (by decide) (fun K hK => ?_)
          have hs190 : w188.cell? ⟨gb147,1,none⟩ = some (.string (a0.extract (a1 : Int).toNat (t156 : Int).toNat)):=(blk_cell BK147.out 1).trans rfl
          have hfs190:=blk_frozen BK147.out 1
          have hns190_0:=NB146_147.out
          have hms190_0:=NB147_146.out
          refine skip_ (w1:=?_) (by rfl) rfl ?_ ?_
          rotate_left
          ·go_simp
           rfl
          refine hK.out _ _ trivial (fun hHeld => ?_)
          clear hK K
          refine done_ (done_of HT_.out (by kernel_rfl)) ?_
          have hcz191_0 : w188.cell? ⟨gb147,0,none⟩ = some (.int .i64 1):=(blk_cell BK147.out 0).trans rfl
          have hcz191_1 : w188.cell? ⟨gb147,1,none⟩ = some (.string (a0.extract (a1 : Int).toNat (t156 : Int).toNat)):=(blk_cell BK147.out 1).trans rfl
          have hcz191_2 : w188.cell? ⟨gb147,2,none⟩ = some (.int .i64 0):=(blk_cell BK147.out 2).trans rfl
          have hcz191_3 : w188.cell? ⟨gb147,3,none⟩ = some (.int .i64 a1):=(blk_cell BK147.out 3).trans rfl
          have hcz191_4 : w188.cell? ⟨gb147,4,none⟩ = some (.bool false):=(blk_cell BK147.out 4).trans rfl
          have hfz191_0:=blk_frozen BK147.out 0
          have hfz191_1:=blk_frozen BK147.out 1
          have hfz191_2:=blk_frozen BK147.out 2
          have hfz191_3:=blk_frozen BK147.out 3
          have hfz191_4:=blk_frozen BK147.out 4
          have hcz192_0 : w188.cell? ⟨gb146,0,none⟩ = some (.int .i64 0):=(blk_cell BK146.out 0).trans rfl
          have hcz192_1 : w188.cell? ⟨gb146,1,none⟩ = some (.string (⟨#[]⟩ : ByteArray)):=(blk_cell BK146.out 1).trans rfl
          have hcz192_2 : w188.cell? ⟨gb146,2,none⟩ = some (.int .i64 0):=(blk_cell BK146.out 2).trans rfl
          have hcz192_3 : w188.cell? ⟨gb146,3,none⟩ = some (.int .i64 0):=(blk_cell BK146.out 3).trans rfl
          have hcz192_4 : w188.cell? ⟨gb146,4,none⟩ = some (.bool false):=(blk_cell BK146.out 4).trans rfl
          have hfz192_0:=blk_frozen BK146.out 0
          have hfz192_1:=blk_frozen BK146.out 1
          have hfz192_2:=blk_frozen BK146.out 2
          have hfz192_3:=blk_frozen BK146.out 3
          have hfz192_4:=blk_frozen BK146.out 4
          try go_wp2
          refine bodyPost_ret (results_ct rfl _ _ gb146 46 #[.int .i64 6,.string (a0.extract (a1 : Int).toNat ((wrap64 (a1 + 1)) : Int).toNat),.int .i64 0,.int .i64 a1,.bool false] (0,0) _ rfl (by (with_reducible repeat (first|refine blk_drewN ?_ _|refine blk_drew ?_|refine blk_alloc ?_ _));refine blk_put (cs:=#[.int .i64 6,.string (a0.extract (a1 : Int).toNat ((wrap64 (a1 + 1)) : Int).toNat),.int .i64 0,.int .i64 a1,.bool false]) ?_ 4 _ rfl;(with_reducible repeat (first|refine blk_drewN ?_ _|refine blk_drew ?_|refine blk_alloc ?_ _));refine blk_put (cs:=#[.int .i64 6,.string (a0.extract (a1 : Int).toNat ((wrap64 (a1 + 1)) : Int).toNat),.int .i64 0,.int .i64 0,.bool false]) ?_ 3 _ rfl;(with_reducible repeat (first|refine blk_drewN ?_ _|refine blk_drew ?_|refine blk_alloc ?_ _));refine blk_put (cs:=#[.int .i64 6,.string (a0.extract (a1 : Int).toNat ((wrap64 (a1 + 1)) : Int).toNat),.int .i64 0,.int .i64 0,.bool false]) ?_ 2 _ rfl;(with_reducible repeat (first|refine blk_drewN ?_ _|refine blk_drew ?_|refine blk_alloc ?_ _));refine blk_put (cs:=#[.int .i64 6,.string (⟨#[]⟩ : ByteArray),.int .i64 0,.int .i64 0,.bool false]) ?_ 1 _ rfl;(with_reducible repeat (first|refine blk_drewN ?_ _|refine blk_drew ?_|refine blk_alloc ?_ _));refine blk_put (cs:=#[.int .i64 0,.string (⟨#[]⟩ : ByteArray),.int .i64 0,.int .i64 0,.bool false]) ?_ 0 _ rfl;(with_reducible repeat (first|refine blk_drewN ?_ _|refine blk_drew ?_|refine blk_alloc ?_ _));refine blk_far ?_ NB146_147.out _;(with_reducible repeat (first|refine blk_drewN ?_ _|refine blk_drew ?_|refine blk_alloc ?_ _));refine blk_far ?_ NB146_147.out _;(with_reducible repeat (first|refine blk_drewN ?_ _|refine blk_drew ?_|refine blk_alloc ?_ _));exact BK146.out) Try.underlying46 rfl (by kernel_rfl)) rfl ?_
          exact ⟨by first|rfl|(simp [errW_none,errW_some] <;> rfl)|(simp [*,errW_none,errW_some] <;> rfl),by repeat (first|(with_reducible first|exact HB.out|apply below_alloc|apply pw_below_drewN|apply below_drew1|refine below_set ?_ GE146.out|refine below_set ?_ GE147.out)|exact HB.out)⟩
         ·rw [if_neg c179] at H
          have c179b0 : decide (20 < ((a0.extract (a1 : Int).toNat (t156 : Int).toNat).size : Int)) = false:=decide_eq_false c179
          have c179b2 : decide (20 < ((((t156 : Int)).toNat - ((a1 : Int)).toNat : Nat) : Int)) = false:=by have h_:=c179b0;have hx_ : (t156) ≤ (a0.size : Int):=of_decide_eq_true (by first|(with_reducible assumption)|assumption);rw [ByteArray.size_extract,Nat.min_eq_left (by omega)] at h_;exact h_
          have c179b1 : decide (20 < (a0.extract (a1 : Int).toNat (t156 : Int).toNat).size) = false:=decide_eq_false (by omega)
          clear c179
          simp only [Option.some.injEq,Prod.mk.injEq] at H
          obtain ⟨rfl,rfl,rfl,rfl,rfl,rfl⟩:=H
          go_wp2_with (first|((with_reducible refine gate_callee (f:=74) rfl ?_);refine goesL_ (some 47) rfl rfl Try.func74 (by kernel_rfl) rfl #[.int .u8 (bt a0 a1)] rfl (by (try simp only [List.map_toArray,List.map_cons,List.map_nil]);first|done|rfl|(simp only [List.length_drop,List.length_take];rfl)) ?_;(with_reducible refine (impl_figure.calls (bt a0 a1) false _ A105.out).mono ?_);rintro e w' ⟨rfl,⟨nd,rfl⟩⟩;refine ⟨_,rfl,?_⟩;(try (rw [drewN_self wc];generalize hq_ : World.drewN wc _ = wc;have n0_ : Aside0 (wc.heap[gb146]? = some (.cells #[.int .i64 0,.string (⟨#[]⟩ : ByteArray),.int .i64 0,.int .i64 0,.bool false] 46 (0,0))):=⟨by rw [← hq_];exact (by (with_reducible repeat (first|refine blk_drewN ?_ _|refine blk_drew ?_|refine blk_alloc ?_ _));exact BK146.out)⟩;have n1_ : Aside0 (wc.heap[gb147]? = some (.cells #[.int .i64 0,.string (⟨#[]⟩ : ByteArray),.int .i64 0,.int .i64 a1,.bool false] 46 (0,0))):=⟨by rw [← hq_];exact (by (with_reducible repeat (first|refine blk_drewN ?_ _|refine blk_drew ?_|refine blk_alloc ?_ _));exact BK147.out)⟩;have n2_ : Aside0 (Below w.heap.size w wc):=⟨by rw [← hq_];exact (by repeat (first|(with_reducible first|exact HB.out|apply below_alloc|apply pw_below_drewN|apply below_drew1|refine below_set ?_ GE146.out|refine below_set ?_ GE147.out)|exact HB.out))⟩;clear BK146 BK147 HB hq_;have BK146:=n0_;have BK147:=n1_;have HB:=n2_;clear n0_ n1_ n2_;(try have hyq146_0:=(blk_cell BK146.out 0).trans (rfl : _ = some _));(try have hyf146_0:=blk_frozen BK146.out 0);(try have hyq146_1:=(blk_cell BK146.out 1).trans (rfl : _ = some _));(try have hyf146_1:=blk_frozen BK146.out 1);(try have hyq146_2:=(blk_cell BK146.out 2).trans (rfl : _ = some _));(try have hyf146_2:=blk_frozen BK146.out 2);(try have hyq146_3:=(blk_cell BK146.out 3).trans (rfl : _ = some _));(try have hyf146_3:=blk_frozen BK146.out 3);(try have hyq147_0:=(blk_cell BK147.out 0).trans (rfl : _ = some _));(try have hyf147_0:=blk_frozen BK147.out 0);(try have hyq147_1:=(blk_cell BK147.out 1).trans (rfl : _ = some _));(try have hyf147_1:=blk_frozen BK147.out 1);(try have hyq147_2:=(blk_cell BK147.out 2).trans (rfl : _ = some _));(try have hyf147_2:=blk_frozen BK147.out 2);(try have hyq147_3:=(blk_cell BK147.out 3).trans (rfl : _ = some _));(try have hyf147_3:=blk_frozen BK147.out 3))))|((with_reducible refine gate_callee (f:=14) rfl ?_);refine goesL_ (some 78) rfl rfl Try.func14 (by kernel_rfl) rfl #[.int .u8 (bt a0 a1)] rfl (by (try simp only [List.map_toArray,List.map_cons,List.map_nil]);first|done|rfl|(simp only [List.length_drop,List.length_take];rfl)) ?_;(with_reducible refine (impl_SymbolByte.calls kj14 (bt a0 a1) true _ A153.out).mono ?_);rintro e w193 ⟨rfl,hb⟩;refine ⟨_,rfl,?_⟩;have n0_:=Aside0.mk (blk_below (g:=gb146) (o:=.cells #[.int .i64 0,.string (⟨#[]⟩ : ByteArray),.int .i64 0,.int .i64 0,.bool false] 46 (0,0)) (by (with_reducible repeat (first|refine blk_drewN ?_ _|refine blk_drew ?_|refine blk_alloc ?_ _));exact BK146.out) hb);have n1_:=Aside0.mk (blk_below (g:=gb147) (o:=.cells #[.int .i64 0,.string (⟨#[]⟩ : ByteArray),.int .i64 0,.int .i64 a1,.bool false] 46 (0,0)) (by (with_reducible repeat (first|refine blk_drewN ?_ _|refine blk_drew ?_|refine blk_alloc ?_ _));exact BK147.out) hb);have n2_:=Aside0.mk (below_step (by repeat (first|(with_reducible first|exact HB.out|apply below_alloc|apply pw_below_drewN|apply below_drew1|refine below_set ?_ GE146.out|refine below_set ?_ GE147.out)|exact HB.out)) hb);clear BK146;clear BK147;clear HB;have BK146:=n0_;have BK147:=n1_;have HB:=n2_;clear n0_ n1_ n2_;(try clear hb))|((with_reducible refine gate_callee (f:=55) rfl ?_);refine goesL_ (some 81) rfl rfl Try.func55 (by kernel_rfl) rfl #[.string a0,.int .i64 a1,.func (.func 14) #[] #[]] rfl (by (try simp only [List.map_toArray,List.map_cons,List.map_nil]);first|done|rfl|(simp only [List.length_drop,List.length_take];rfl)) ?_;(with_reducible refine (fk_impl_run.calls_14 kj14 a0 a1 t156 _ A155.out).mono ?_);rintro e w194 ⟨rfl,hb⟩;refine ⟨_,rfl,?_⟩;have n0_:=Aside0.mk (blk_below (g:=gb146) (o:=.cells #[.int .i64 0,.string (⟨#[]⟩ : ByteArray),.int .i64 0,.int .i64 0,.bool false] 46 (0,0)) (by (with_reducible repeat (first|refine blk_drewN ?_ _|refine blk_drew ?_|refine blk_alloc ?_ _));exact BK146.out) hb);have n1_:=Aside0.mk (blk_below (g:=gb147) (o:=.cells #[.int .i64 0,.string (⟨#[]⟩ : ByteArray),.int .i64 0,.int .i64 a1,.bool false] 46 (0,0)) (by (with_reducible repeat (first|refine blk_drewN ?_ _|refine blk_drew ?_|refine blk_alloc ?_ _));exact BK147.out) hb);have n2_:=Aside0.mk (below_step (by repeat (first|(with_reducible first|exact HB.out|apply below_alloc|apply pw_below_drewN|apply below_drew1|refine below_set ?_ GE146.out|refine below_set ?_ GE147.out)|exact HB.out)) hb);clear BK146;clear BK147;clear HB;have BK146:=n0_;have BK147:=n1_;have HB:=n2_;clear n0_ n1_ n2_;(try clear hb);(try clear hb2);(try clear hk);(try clear hi);have hnb195:=NB147_146.out;have hnc195:=NB146_147.out;have hcz196_0 : w194.cell? ⟨gb147,0,none⟩ = some (.int .i64 0):=(blk_cell BK147.out 0).trans rfl;have hcz196_1 : w194.cell? ⟨gb147,1,none⟩ = some (.string (⟨#[]⟩ : ByteArray)):=(blk_cell BK147.out 1).trans rfl;have hcz196_2 : w194.cell? ⟨gb147,2,none⟩ = some (.int .i64 0):=(blk_cell BK147.out 2).trans rfl;have hcz196_3 : w194.cell? ⟨gb147,3,none⟩ = some (.int .i64 a1):=(blk_cell BK147.out 3).trans rfl;have hcz196_4 : w194.cell? ⟨gb147,4,none⟩ = some (.bool false):=(blk_cell BK147.out 4).trans rfl;have hfz196_0:=blk_frozen BK147.out 0;have hfz196_1:=blk_frozen BK147.out 1;have hfz196_2:=blk_frozen BK147.out 2;have hfz196_3:=blk_frozen BK147.out 3;have hfz196_4:=blk_frozen BK147.out 4;have hcz197_0 : w194.cell? ⟨gb146,0,none⟩ = some (.int .i64 0):=(blk_cell BK146.out 0).trans rfl;have hcz197_1 : w194.cell? ⟨gb146,1,none⟩ = some (.string (⟨#[]⟩ : ByteArray)):=(blk_cell BK146.out 1).trans rfl;have hcz197_2 : w194.cell? ⟨gb146,2,none⟩ = some (.int .i64 0):=(blk_cell BK146.out 2).trans rfl;have hcz197_3 : w194.cell? ⟨gb146,3,none⟩ = some (.int .i64 0):=(blk_cell BK146.out 3).trans rfl;have hcz197_4 : w194.cell? ⟨gb146,4,none⟩ = some (.bool false):=(blk_cell BK146.out 4).trans rfl;have hfz197_0:=blk_frozen BK146.out 0;have hfz197_1:=blk_frozen BK146.out 1;have hfz197_2:=blk_frozen BK146.out 2;have hfz197_3:=blk_frozen BK146.out 3;have hfz197_4:=blk_frozen BK146.out 4))
          refine bodyPost_ret (results_ct rfl _ _ gb146 46 #[.int .i64 1,.string (a0.extract (a1 : Int).toNat (t156 : Int).toNat),.int .i64 0,.int .i64 a1,.bool false] (0,0) _ rfl (by (with_reducible repeat (first|refine blk_drewN ?_ _|refine blk_drew ?_|refine blk_alloc ?_ _));refine blk_put (cs:=#[.int .i64 1,.string (a0.extract (a1 : Int).toNat (t156 : Int).toNat),.int .i64 0,.int .i64 a1,.bool false]) ?_ 4 _ rfl;(with_reducible repeat (first|refine blk_drewN ?_ _|refine blk_drew ?_|refine blk_alloc ?_ _));refine blk_put (cs:=#[.int .i64 1,.string (a0.extract (a1 : Int).toNat (t156 : Int).toNat),.int .i64 0,.int .i64 0,.bool false]) ?_ 3 _ rfl;(with_reducible repeat (first|refine blk_drewN ?_ _|refine blk_drew ?_|refine blk_alloc ?_ _));refine blk_put (cs:=#[.int .i64 1,.string (a0.extract (a1 : Int).toNat (t156 : Int).toNat),.int .i64 0,.int .i64 0,.bool false]) ?_ 2 _ rfl;(with_reducible repeat (first|refine blk_drewN ?_ _|refine blk_drew ?_|refine blk_alloc ?_ _));refine blk_put (cs:=#[.int .i64 1,.string (⟨#[]⟩ : ByteArray),.int .i64 0,.int .i64 0,.bool false]) ?_ 1 _ rfl;(with_reducible repeat (first|refine blk_drewN ?_ _|refine blk_drew ?_|refine blk_alloc ?_ _));refine blk_put (cs:=#[.int .i64 0,.string (⟨#[]⟩ : ByteArray),.int .i64 0,.int .i64 0,.bool false]) ?_ 0 _ rfl;(with_reducible repeat (first|refine blk_drewN ?_ _|refine blk_drew ?_|refine blk_alloc ?_ _));refine blk_far ?_ NB146_147.out _;(with_reducible repeat (first|refine blk_drewN ?_ _|refine blk_drew ?_|refine blk_alloc ?_ _));refine blk_far ?_ NB146_147.out _;(with_reducible repeat (first|refine blk_drewN ?_ _|refine blk_drew ?_|refine blk_alloc ?_ _));exact BK146.out) Try.underlying46 rfl (by kernel_rfl)) rfl ?_
          exact ⟨by first|rfl|(simp [errW_none,errW_some] <;> rfl)|(simp [*,errW_none,errW_some] <;> rfl),by repeat (first|(with_reducible first|exact HB.out|apply below_alloc|apply pw_below_drewN|apply below_drew1|refine below_set ?_ GE146.out|refine below_set ?_ GE147.out)|exact HB.out)⟩
      ·replace c154:=Bool.eq_false_iff.mpr c154
       subst c154
       have H1 : (if (bt a0 a1) = 33 then (impl_nextSign.j3 kj14 a0 a1 (bt a0 a1) (wrap64 (a1 + 1)) true 0 (⟨#[]⟩ : ByteArray) 0 a1 false) else (impl_nextSign.j3 kj14 a0 a1 (bt a0 a1) (wrap64 (a1 + 1)) ((bt a0 a1) == 59) 0 (⟨#[]⟩ : ByteArray) 0 a1 false)) = some (r1,r2,r3,r4,r5,r6):=by rw [if_neg (show ¬ (false = true) by decide)] at H;exact H
       clear H
       have H:=H1
       clear H1
       have HC198:=Aside0.mk H
       clear H
       go_upto_region 25 with (first|((with_reducible refine gate_callee (f:=74) rfl ?_);refine goesL_ (some 47) rfl rfl Try.func74 (by kernel_rfl) rfl #[.int .u8 (bt a0 a1)] rfl (by (try simp only [List.map_toArray,List.map_cons,List.map_nil]);first|done|rfl|(simp only [List.length_drop,List.length_take];rfl)) ?_;(with_reducible refine (impl_figure.calls (bt a0 a1) false _ A105.out).mono ?_);rintro e w' ⟨rfl,⟨nd,rfl⟩⟩;refine ⟨_,rfl,?_⟩)|((with_reducible refine gate_callee (f:=14) rfl ?_);refine goesL_ (some 78) rfl rfl Try.func14 (by kernel_rfl) rfl #[.int .u8 (bt a0 a1)] rfl (by (try simp only [List.map_toArray,List.map_cons,List.map_nil]);first|done|rfl|(simp only [List.length_drop,List.length_take];rfl)) ?_;(with_reducible refine (impl_SymbolByte.calls kj14 (bt a0 a1) false _ A153.out).mono ?_);rintro e w199 ⟨rfl,hb⟩;refine ⟨_,rfl,?_⟩;have n0_:=Aside0.mk (blk_below (g:=gb146) (o:=.cells #[.int .i64 0,.string (⟨#[]⟩ : ByteArray),.int .i64 0,.int .i64 0,.bool false] 46 (0,0)) (by (with_reducible repeat (first|refine blk_drewN ?_ _|refine blk_drew ?_|refine blk_alloc ?_ _));exact BK146.out) hb);have n1_:=Aside0.mk (blk_below (g:=gb147) (o:=.cells #[.int .i64 0,.string (⟨#[]⟩ : ByteArray),.int .i64 0,.int .i64 a1,.bool false] 46 (0,0)) (by (with_reducible repeat (first|refine blk_drewN ?_ _|refine blk_drew ?_|refine blk_alloc ?_ _));exact BK147.out) hb);have n2_:=Aside0.mk (below_step (by repeat (first|(with_reducible first|exact HB.out|apply below_alloc|apply pw_below_drewN|apply below_drew1|refine below_set ?_ GE146.out|refine below_set ?_ GE147.out)|exact HB.out)) hb);clear BK146;clear BK147;clear HB;have BK146:=n0_;have BK147:=n1_;have HB:=n2_;clear n0_ n1_ n2_;(try clear hb)))
       (try simp only [Act.put,List.setIfInBounds_toArray,List.set_cons_zero,List.set_cons_succ])
       go_cut [83] (fun v83 wc => ∃ (kq : Nat) (x83_197 : Bool),v83 = .bool x83_197 ∧ Aside0 (impl_nextSign.j3 kq a0 a1 (bt a0 a1) (wrap64 (a1 + 1)) x83_197 0 (⟨#[]⟩ : ByteArray) 0 a1 false = some (r1,r2,r3,r4,r5,r6)) ∧ Aside0 (kq ≤ kj14) ∧ Aside0 (wc.heap[gb146]? = some (.cells #[.int .i64 0,.string (⟨#[]⟩ : ByteArray),.int .i64 0,.int .i64 0,.bool false] 46 (0,0))) ∧ Aside0 (wc.heap[gb147]? = some (.cells #[.int .i64 0,.string (⟨#[]⟩ : ByteArray),.int .i64 0,.int .i64 a1,.bool false] 46 (0,0))) ∧ Aside0 (Below w.heap.size w wc))
       case first =>
        have H:=HC198.out
        clear HC198
        by_cases c200 : (bt a0 a1) = 33
        ·rw [if_pos c200] at H
         have c200b0 : ((bt a0 a1) == 33) = true:=beq_iff_eq.mpr c200
         have c200b1 : ((bt a0 a1) != 33) = false:=bne_eq_false_iff_eq.mpr c200
         clear c200
         (first|rw [c200b0]|(simp only [i64_w,i32_w];rw [c200b0])|skip)
         have H':=Aside0.mk H
         clear H
         go_wp2
         go_meet
         case rel => exact ⟨_,(true),(by first|rfl|(simp;done)|(simp [*];done)),H',⟨by have:=HJ14.out;first|omega|exact Nat.le_refl _⟩,⟨by (with_reducible repeat (first|refine blk_drewN ?_ _|refine blk_drew ?_|refine blk_alloc ?_ _));exact BK146.out⟩,⟨by (with_reducible repeat (first|refine blk_drewN ?_ _|refine blk_drew ?_|refine blk_alloc ?_ _));exact BK147.out⟩,⟨by repeat (first|(with_reducible first|exact HB.out|apply below_alloc|apply pw_below_drewN|apply below_drew1|refine below_set ?_ GE146.out|refine below_set ?_ GE147.out)|exact HB.out)⟩⟩
        ·rw [if_neg c200] at H
         have c200b0 : ((bt a0 a1) == 33) = false:=beq_eq_false_iff_ne.mpr c200
         have c200b1 : ((bt a0 a1) != 33) = true:=bne_iff_ne.mpr c200
         (first|rw [c200b0]|(simp only [i64_w,i32_w];rw [c200b0])|skip)
         have H':=Aside0.mk H
         clear H
         go_wp2
         go_meet
         case rel => exact ⟨_,(((bt a0 a1) == 59)),(by first|rfl|(simp;done)|(simp [*];done)),H',⟨by have:=HJ14.out;first|omega|exact Nat.le_refl _⟩,⟨by (with_reducible repeat (first|refine blk_drewN ?_ _|refine blk_drew ?_|refine blk_alloc ?_ _));exact BK146.out⟩,⟨by (with_reducible repeat (first|refine blk_drewN ?_ _|refine blk_drew ?_|refine blk_alloc ?_ _));exact BK147.out⟩,⟨by repeat (first|(with_reducible first|exact HB.out|apply below_alloc|apply pw_below_drewN|apply below_drew1|refine below_set ?_ GE146.out|refine below_set ?_ GE147.out)|exact HB.out)⟩⟩
       case rest =>
        clear HC198
        try clear c7
        try clear c106
        try clear c119
        try clear c120
        try clear c121
        try clear c154
        try clear c156
        try clear c156b0
        try clear c156b1
        try clear c157
        try clear c157b0
        try clear c157b1
        try clear c158
        try clear c158b0
        try clear c158b1
        try clear c159
        try clear c159b0
        try clear c159b1
        try clear c173
        try clear c173b0
        try clear c173b1
        try clear c179
        try clear c179b0
        try clear c179b1
        try clear c180b0
        try clear c181
        try clear c181b0
        try clear c181b1
        try clear c182
        try clear c182b0
        try clear c182b1
        try clear c200
        try clear c200b0
        try clear c200b1
        try clear hcz186_0
        try clear hcz186_1
        try clear hcz186_2
        try clear hcz186_3
        try clear hcz186_4
        try clear hcz191_0
        try clear hcz191_1
        try clear hcz191_2
        try clear hcz191_3
        try clear hcz191_4
        try clear hcz192_0
        try clear hcz192_1
        try clear hcz192_2
        try clear hcz192_3
        try clear hcz192_4
        try clear hcz196_0
        try clear hcz196_1
        try clear hcz196_2
        try clear hcz196_3
        try clear hcz196_4
        try clear hcz197_0
        try clear hcz197_1
        try clear hcz197_2
        try clear hcz197_3
        try clear hcz197_4
        try clear hfz186_0
        try clear hfz186_1
        try clear hfz186_2
        try clear hfz186_3
        try clear hfz186_4
        try clear hfz191_0
        try clear hfz191_1
        try clear hfz191_2
        try clear hfz191_3
        try clear hfz191_4
        try clear hfz192_0
        try clear hfz192_1
        try clear hfz192_2
        try clear hfz192_3
        try clear hfz192_4
        try clear hfz196_0
        try clear hfz196_1
        try clear hfz196_2
        try clear hfz196_3
        try clear hfz196_4
        try clear hfz197_0
        try clear hfz197_1
        try clear hfz197_2
        try clear hfz197_3
        try clear hfz197_4
        try clear BK146
        try clear BK147
        obtain ⟨kq,x83_197,rfl,HA,HJ197,BK146,BK147,HB⟩:=hcut
        cases kq with
        | zero => exact absurd HA.out (by simp [impl_nextSign.j3])
        | succ kj197 =>
         have H:=HA.out
         clear HA
         simp only [impl_nextSign.j3] at H
         by_cases c201 : x83_197 = true
         ·subst c201
          have H1 : (if 0 ≤ a1 then (if a1 ≤ (wrap64 (a1 + 1)) then (if (wrap64 (a1 + 1)) ≤ (a0.size : Int) then (if 1 = 0 then (if a1 ≤ (wrap64 (a1 + 1)) then (if (wrap64 (a1 + 1)) ≤ (a0.size : Int) then (some (6,a0.extract (a1 : Int).toNat ((wrap64 (a1 + 1)) : Int).toNat,0,a1,false,wrap64 (a1 + 1))) else (none)) else (none)) else (if 1 = 4 then (some (1,a0.extract (a1 : Int).toNat ((wrap64 (a1 + 1)) : Int).toNat,0,a1,false,(wrap64 (a1 + 1)))) else (if ((a0.extract (a1 : Int).toNat ((wrap64 (a1 + 1)) : Int).toNat).size : Int) > 20 then (if a1 ≤ (wrap64 (a1 + 1)) then (if (wrap64 (a1 + 1)) ≤ (a0.size : Int) then (some (6,a0.extract (a1 : Int).toNat ((wrap64 (a1 + 1)) : Int).toNat,0,a1,false,wrap64 (a1 + 1))) else (none)) else (none)) else (some (1,a0.extract (a1 : Int).toNat ((wrap64 (a1 + 1)) : Int).toNat,0,a1,false,(wrap64 (a1 + 1))))))) else (none)) else (none)) else (none)) = some (r1,r2,r3,r4,r5,r6):=by rw [if_pos rfl] at H;exact H
          clear H
          have H:=H1
          clear H1
          by_cases c202 : 0 ≤ a1
          rotate_left
          ·rw [if_neg c202] at H
           exact absurd H (by simp)
          rw [if_pos c202] at H
          have c202b0:=eq_true c202
          have c202b1 : decide (0 ≤ a1) = true:=decide_eq_true c202
          clear c202
          by_cases c203 : a1 ≤ (wrap64 (a1 + 1))
          rotate_left
          ·rw [if_neg c203] at H
           exact absurd H (by simp)
          rw [if_pos c203] at H
          have c203b0:=eq_true c203
          have c203b1 : decide (a1 ≤ (wrap64 (a1 + 1))) = true:=decide_eq_true c203
          by_cases c204 : (wrap64 (a1 + 1)) ≤ (a0.size : Int)
          rotate_left
          ·rw [if_neg c204] at H
           exact absurd H (by simp)
          rw [if_pos c204] at H
          have c204b0:=eq_true c204
          have c204b1 : decide ((wrap64 (a1 + 1)) ≤ (a0.size : Int)) = true:=decide_eq_true c204
          by_cases c205 : 1 = 0
          ·exact absurd c205 (by decide)
          ·first|rw [if_neg c205] at H|rw [if_neg not_false] at H
           have c205b0 : (1 == 0) = false:=beq_eq_false_iff_ne.mpr c205
           have c205b1 : (1 != 0) = true:=bne_iff_ne.mpr c205
           by_cases c217 : 1 = 4
           ·exact absurd c217 (by decide)
           ·first|rw [if_neg c217] at H|rw [if_neg not_false] at H
            have c217b0 : (1 == 4) = false:=beq_eq_false_iff_ne.mpr c217
            have c217b1 : (1 != 4) = true:=bne_iff_ne.mpr c217
            by_cases c221 : ((a0.extract (a1 : Int).toNat ((wrap64 (a1 + 1)) : Int).toNat).size : Int) > 20
            ·rw [if_pos c221] at H
             have c221b0 : decide (20 < ((a0.extract (a1 : Int).toNat ((wrap64 (a1 + 1)) : Int).toNat).size : Int)) = true:=decide_eq_true c221
             have c221b2 : decide (20 < (((((wrap64 (a1 + 1)) : Int)).toNat - ((a1 : Int)).toNat : Nat) : Int)) = true:=by have h_:=c221b0;have hx_ : ((wrap64 (a1 + 1))) ≤ (a0.size : Int):=of_decide_eq_true (by first|(with_reducible assumption)|assumption);rw [ByteArray.size_extract,Nat.min_eq_left (by omega)] at h_;exact h_
             have c221b1 : decide (20 < (a0.extract (a1 : Int).toNat ((wrap64 (a1 + 1)) : Int).toNat).size) = true:=decide_eq_true (by omega)
             clear c221
             have c222b0:=eq_true (of_decide_eq_true (by first|(with_reducible assumption)|assumption) : 0 ≤ a1)
             by_cases c223 : a1 ≤ (wrap64 (a1 + 1))
             rotate_left
             ·rw [if_neg c223] at H
              exact absurd H (by simp)
             rw [if_pos c223] at H
             have c223b0:=eq_true c223
             have c223b1 : decide (a1 ≤ (wrap64 (a1 + 1))) = true:=decide_eq_true c223
             by_cases c224 : (wrap64 (a1 + 1)) ≤ (a0.size : Int)
             rotate_left
             ·rw [if_neg c224] at H
              exact absurd H (by simp)
             rw [if_pos c224] at H
             have c224b0:=eq_true c224
             have c224b1 : decide ((wrap64 (a1 + 1)) ≤ (a0.size : Int)) = true:=decide_eq_true c224
             simp only [Option.some.injEq,Prod.mk.injEq] at H
             obtain ⟨rfl,rfl,rfl,rfl,rfl,rfl⟩:=H
             have hnb225:=NB147_146.out
             have hnc225:=NB146_147.out
             have hcz226_0 : wc.cell? ⟨gb147,0,none⟩ = some (.int .i64 0):=(blk_cell BK147.out 0).trans rfl
             have hcz226_1 : wc.cell? ⟨gb147,1,none⟩ = some (.string (⟨#[]⟩ : ByteArray)):=(blk_cell BK147.out 1).trans rfl
             have hcz226_2 : wc.cell? ⟨gb147,2,none⟩ = some (.int .i64 0):=(blk_cell BK147.out 2).trans rfl
             have hcz226_3 : wc.cell? ⟨gb147,3,none⟩ = some (.int .i64 a1):=(blk_cell BK147.out 3).trans rfl
             have hcz226_4 : wc.cell? ⟨gb147,4,none⟩ = some (.bool false):=(blk_cell BK147.out 4).trans rfl
             have hfz226_0:=blk_frozen BK147.out 0
             have hfz226_1:=blk_frozen BK147.out 1
             have hfz226_2:=blk_frozen BK147.out 2
             have hfz226_3:=blk_frozen BK147.out 3
             have hfz226_4:=blk_frozen BK147.out 4
             try go_wp2
             have n0_ : Aside0 (((wc.setCell ⟨gb147,0,none⟩ (.int .i64 1)).setCell ⟨gb147,1,none⟩ (.string (a0.extract (a1 : Int).toNat ((wrap64 (a1 + 1)) : Int).toNat))).heap[gb146]? = some (.cells #[.int .i64 0,.string (⟨#[]⟩ : ByteArray),.int .i64 0,.int .i64 0,.bool false] 46 (0,0))):=⟨by (with_reducible repeat (first|refine blk_drewN ?_ _|refine blk_drew ?_|refine blk_alloc ?_ _));refine blk_far ?_ NB146_147.out _;(with_reducible repeat (first|refine blk_drewN ?_ _|refine blk_drew ?_|refine blk_alloc ?_ _));refine blk_far ?_ NB146_147.out _;(with_reducible repeat (first|refine blk_drewN ?_ _|refine blk_drew ?_|refine blk_alloc ?_ _));exact BK146.out⟩
             have n1_ : Aside0 (((wc.setCell ⟨gb147,0,none⟩ (.int .i64 1)).setCell ⟨gb147,1,none⟩ (.string (a0.extract (a1 : Int).toNat ((wrap64 (a1 + 1)) : Int).toNat))).heap[gb147]? = some (.cells #[.int .i64 1,.string (a0.extract (a1 : Int).toNat ((wrap64 (a1 + 1)) : Int).toNat),.int .i64 0,.int .i64 a1,.bool false] 46 (0,0))):=⟨by (with_reducible repeat (first|refine blk_drewN ?_ _|refine blk_drew ?_|refine blk_alloc ?_ _));refine blk_put (cs:=#[.int .i64 1,.string (⟨#[]⟩ : ByteArray),.int .i64 0,.int .i64 a1,.bool false]) ?_ 1 _ rfl;(with_reducible repeat (first|refine blk_drewN ?_ _|refine blk_drew ?_|refine blk_alloc ?_ _));refine blk_put (cs:=#[.int .i64 0,.string (⟨#[]⟩ : ByteArray),.int .i64 0,.int .i64 a1,.bool false]) ?_ 0 _ rfl;(with_reducible repeat (first|refine blk_drewN ?_ _|refine blk_drew ?_|refine blk_alloc ?_ _));exact BK147.out⟩
             have n2_ : Aside0 (Below w.heap.size w ((wc.setCell ⟨gb147,0,none⟩ (.int .i64 1)).setCell ⟨gb147,1,none⟩ (.string (a0.extract (a1 : Int).toNat ((wrap64 (a1 + 1)) : Int).toNat)))):=⟨by repeat (first|(with_reducible first|exact HB.out|apply below_alloc|apply pw_below_drewN|apply below_drew1|refine below_set ?_ GE146.out|refine below_set ?_ GE147.out)|exact HB.out)⟩
             (try clear BK146)
             (try clear BK147)
             (try clear HB)
             (try simp only [setCell_drewN])
             generalize ((wc.setCell ⟨gb147,0,none⟩ (.int .i64 1)).setCell ⟨gb147,1,none⟩ (.string (a0.extract (a1 : Int).toNat ((wrap64 (a1 + 1)) : Int).toNat))) = w227 at n0_ n1_ n2_ ⊢
             have BK146:=n0_
             have BK147:=n1_
             have HB:=n2_
             clear n0_ n1_ n2_
             have n0_:=Aside0.mk (blk_drew BK146.out)
             have n1_:=Aside0.mk (blk_drew BK147.out)
             have n2_:=Aside0.mk (below_drew1 HB.out)
             clear BK146
             clear BK147
             clear HB
             have BK146:=n0_
             have BK147:=n1_
             have HB:=n2_
             clear n0_ n1_ n2_
             refine start_ (n:=9) (S:=fun w' => True) (ds:=[]) #[false,false,false,false,false,false,false,false,false] (by kernel_rfl) rfl rfl trivial (fun hHeld => ?_);refine with_tabW impl_nextSign.tab36 impl_nextSign.bits36 (fun HT_ HW_ => ?_)
             generalize w227.drew = w228 at BK146 BK147 HB hHeld ⊢
             refine pure_ (i:=0) (N:=some 149) (v:=?_) (a':=?_) #[true,false,false,false,false,false,false,false,false] rfl rfl (any_of HT_.out (by kernel_rfl)) (fun _ _ _ h => h) (Or.inl ⟨by rfl,?_⟩) ?_ ?_
             rotate_left
             ·intro w'
              go_simp
              with_reducible rfl
             rotate_left
             ·simp only [Act.put,List.setIfInBounds_toArray,List.set_cons_zero,List.set_cons_succ,i64_w,i32_w]
              rfl
             refine pure_ (i:=1) (N:=some 150) (v:=?_) (a':=?_) #[true,true,false,false,false,false,false,false,false] rfl rfl (any_of HT_.out (by kernel_rfl)) (fun _ _ _ h => h) (Or.inl ⟨by rfl,?_⟩) ?_ ?_
             rotate_left
             ·intro w'
              go_simp
              with_reducible rfl
             rotate_left
             ·simp only [Act.put,List.setIfInBounds_toArray,List.set_cons_zero,List.set_cons_succ,i64_w,i32_w]
              rfl
             refine pure_ (i:=2) (N:=some 151) (v:=?_) (a':=?_) #[true,true,true,false,false,false,false,false,false] rfl rfl (any_of HT_.out (by kernel_rfl)) (fun _ _ _ h => h) (Or.inl ⟨by rfl,?_⟩) ?_ ?_
             rotate_left
             ·intro w'
              go_simp
              with_reducible rfl
             rotate_left
             ·simp only [Act.put,List.setIfInBounds_toArray,List.set_cons_zero,List.set_cons_succ,i64_w,i32_w]
              rfl
             refine pure_ (i:=3) (N:=some 152) (v:=?_) (a':=?_) #[true,true,true,true,false,false,false,false,false] rfl rfl (any_of HT_.out (by kernel_rfl)) (fun _ _ _ h => h) (Or.inl ⟨by rfl,?_⟩) ?_ ?_
             rotate_left
             ·intro w'
              go_simp
              with_reducible rfl
             rotate_left
             ·simp only [Act.put,List.setIfInBounds_toArray,List.set_cons_zero,List.set_cons_succ,i64_w,i32_w]
              rfl
             refine pure_ (i:=4) (N:=some 153) (v:=?_) (a':=?_) #[true,true,true,true,true,false,false,false,false] rfl rfl (any_of HT_.out (by kernel_rfl)) (fun _ _ _ h => h) (Or.inl ⟨by rfl,?_⟩) ?_ ?_
             rotate_left
             ·intro w'
              go_simp
              with_reducible rfl
             rotate_left
             ·simp only [Act.put,List.setIfInBounds_toArray,List.set_cons_zero,List.set_cons_succ,i64_w,i32_w]
              rfl
             refine pure_ (i:=5) (N:=some 154) (v:=?_) (a':=?_) #[true,true,true,true,true,true,false,false,false] rfl rfl (any_of HT_.out (by kernel_rfl)) (fun _ _ _ h => h) (Or.inl ⟨by rfl,?_⟩) ?_ ?_
             rotate_left
             ·intro w'
              go_simp
              with_reducible rfl
             rotate_left
             ·simp only [Act.put,List.setIfInBounds_toArray,List.set_cons_zero,List.set_cons_succ,i64_w,i32_w]
              rfl
             refine one_ (i:=6) (N:=none) #[true,true,true,true,true,true,true,false,false] rfl rfl (one_of HT_.out (by kernel_rfl)) (by decide) (fun K hK => ?_)
             have hs229 : w228.cell? ⟨gb147,0,none⟩ = some (.int .i64 1):=(blk_cell BK147.out 0).trans rfl
             have hfs229:=blk_frozen BK147.out 0
             have hns229_0:=NB146_147.out
             have hms229_0:=NB147_146.out
             refine skip_ (w1:=?_) (by rfl) rfl ?_ ?_
             rotate_left
             ·go_simp
              rfl
             refine hK.out _ _ trivial (fun hHeld => ?_)
             clear hK K
             refine pure_ (i:=7) (N:=some 155) (v:=?_) (a':=?_) #[true,true,true,true,true,true,true,true,false] rfl rfl (any_of HT_.out (by kernel_rfl)) (fun _ _ _ h => h) (Or.inl ⟨by rfl,?_⟩) ?_ ?_
             rotate_left
             ·intro w'
              go_simp
              with_reducible rfl
             rotate_left
             ·simp only [Act.put,List.setIfInBounds_toArray,List.set_cons_zero,List.set_cons_succ,i64_w,i32_w]
              rfl
             refine one_ (i:=8) (N:=none) #[true,true,true,true,true,true,true,true,true] rfl rfl (one_of HT_.out (by kernel_rfl)) (by decide) (fun K hK => ?_)
             have hs230 : w228.cell? ⟨gb147,1,none⟩ = some (.string (a0.extract (a1 : Int).toNat ((wrap64 (a1 + 1)) : Int).toNat)):=(blk_cell BK147.out 1).trans rfl
             have hfs230:=blk_frozen BK147.out 1
             have hns230_0:=NB146_147.out
             have hms230_0:=NB147_146.out
             refine skip_ (w1:=?_) (by rfl) rfl ?_ ?_
             rotate_left
             ·go_simp
              rfl
             refine hK.out _ _ trivial (fun hHeld => ?_)
             clear hK K
             refine done_ (done_of HT_.out (by kernel_rfl)) ?_
             have hcz231_0 : w228.cell? ⟨gb147,0,none⟩ = some (.int .i64 1):=(blk_cell BK147.out 0).trans rfl
             have hcz231_1 : w228.cell? ⟨gb147,1,none⟩ = some (.string (a0.extract (a1 : Int).toNat ((wrap64 (a1 + 1)) : Int).toNat)):=(blk_cell BK147.out 1).trans rfl
             have hcz231_2 : w228.cell? ⟨gb147,2,none⟩ = some (.int .i64 0):=(blk_cell BK147.out 2).trans rfl
             have hcz231_3 : w228.cell? ⟨gb147,3,none⟩ = some (.int .i64 a1):=(blk_cell BK147.out 3).trans rfl
             have hcz231_4 : w228.cell? ⟨gb147,4,none⟩ = some (.bool false):=(blk_cell BK147.out 4).trans rfl
             have hfz231_0:=blk_frozen BK147.out 0
             have hfz231_1:=blk_frozen BK147.out 1
             have hfz231_2:=blk_frozen BK147.out 2
             have hfz231_3:=blk_frozen BK147.out 3
             have hfz231_4:=blk_frozen BK147.out 4
             have hcz232_0 : w228.cell? ⟨gb146,0,none⟩ = some (.int .i64 0):=(blk_cell BK146.out 0).trans rfl
             have hcz232_1 : w228.cell? ⟨gb146,1,none⟩ = some (.string (⟨#[]⟩ : ByteArray)):=(blk_cell BK146.out 1).trans rfl
             have hcz232_2 : w228.cell? ⟨gb146,2,none⟩ = some (.int .i64 0):=(blk_cell BK146.out 2).trans rfl
             have hcz232_3 : w228.cell? ⟨gb146,3,none⟩ = some (.int .i64 0):=(blk_cell BK146.out 3).trans rfl
             have hcz232_4 : w228.cell? ⟨gb146,4,none⟩ = some (.bool false):=(blk_cell BK146.out 4).trans rfl
             have hfz232_0:=blk_frozen BK146.out 0
             have hfz232_1:=blk_frozen BK146.out 1
             have hfz232_2:=blk_frozen BK146.out 2
             have hfz232_3:=blk_frozen BK146.out 3
             have hfz232_4:=blk_frozen BK146.out 4
             try go_wp2
             refine bodyPost_ret (results_ct rfl _ _ gb146 46 #[.int .i64 6,.string (a0.extract (a1 : Int).toNat ((wrap64 (a1 + 1)) : Int).toNat),.int .i64 0,.int .i64 a1,.bool false] (0,0) _ rfl (by (with_reducible repeat (first|refine blk_drewN ?_ _|refine blk_drew ?_|refine blk_alloc ?_ _));refine blk_put (cs:=#[.int .i64 6,.string (a0.extract (a1 : Int).toNat ((wrap64 (a1 + 1)) : Int).toNat),.int .i64 0,.int .i64 a1,.bool false]) ?_ 4 _ rfl;(with_reducible repeat (first|refine blk_drewN ?_ _|refine blk_drew ?_|refine blk_alloc ?_ _));refine blk_put (cs:=#[.int .i64 6,.string (a0.extract (a1 : Int).toNat ((wrap64 (a1 + 1)) : Int).toNat),.int .i64 0,.int .i64 0,.bool false]) ?_ 3 _ rfl;(with_reducible repeat (first|refine blk_drewN ?_ _|refine blk_drew ?_|refine blk_alloc ?_ _));refine blk_put (cs:=#[.int .i64 6,.string (a0.extract (a1 : Int).toNat ((wrap64 (a1 + 1)) : Int).toNat),.int .i64 0,.int .i64 0,.bool false]) ?_ 2 _ rfl;(with_reducible repeat (first|refine blk_drewN ?_ _|refine blk_drew ?_|refine blk_alloc ?_ _));refine blk_put (cs:=#[.int .i64 6,.string (⟨#[]⟩ : ByteArray),.int .i64 0,.int .i64 0,.bool false]) ?_ 1 _ rfl;(with_reducible repeat (first|refine blk_drewN ?_ _|refine blk_drew ?_|refine blk_alloc ?_ _));refine blk_put (cs:=#[.int .i64 0,.string (⟨#[]⟩ : ByteArray),.int .i64 0,.int .i64 0,.bool false]) ?_ 0 _ rfl;(with_reducible repeat (first|refine blk_drewN ?_ _|refine blk_drew ?_|refine blk_alloc ?_ _));refine blk_far ?_ NB146_147.out _;(with_reducible repeat (first|refine blk_drewN ?_ _|refine blk_drew ?_|refine blk_alloc ?_ _));refine blk_far ?_ NB146_147.out _;(with_reducible repeat (first|refine blk_drewN ?_ _|refine blk_drew ?_|refine blk_alloc ?_ _));exact BK146.out) Try.underlying46 rfl (by kernel_rfl)) rfl ?_
             exact ⟨by first|rfl|(simp [errW_none,errW_some] <;> rfl)|(simp [*,errW_none,errW_some] <;> rfl),by repeat (first|(with_reducible first|exact HB.out|apply below_alloc|apply pw_below_drewN|apply below_drew1|refine below_set ?_ GE146.out|refine below_set ?_ GE147.out)|exact HB.out)⟩
            ·rw [if_neg c221] at H
             have c221b0 : decide (20 < ((a0.extract (a1 : Int).toNat ((wrap64 (a1 + 1)) : Int).toNat).size : Int)) = false:=decide_eq_false c221
             have c221b2 : decide (20 < (((((wrap64 (a1 + 1)) : Int)).toNat - ((a1 : Int)).toNat : Nat) : Int)) = false:=by have h_:=c221b0;have hx_ : ((wrap64 (a1 + 1))) ≤ (a0.size : Int):=of_decide_eq_true (by first|(with_reducible assumption)|assumption);rw [ByteArray.size_extract,Nat.min_eq_left (by omega)] at h_;exact h_
             have c221b1 : decide (20 < (a0.extract (a1 : Int).toNat ((wrap64 (a1 + 1)) : Int).toNat).size) = false:=decide_eq_false (by omega)
             clear c221
             simp only [Option.some.injEq,Prod.mk.injEq] at H
             obtain ⟨rfl,rfl,rfl,rfl,rfl,rfl⟩:=H
             have hnb233:=NB147_146.out
             have hnc233:=NB146_147.out
             have hcz234_0 : wc.cell? ⟨gb147,0,none⟩ = some (.int .i64 0):=(blk_cell BK147.out 0).trans rfl
             have hcz234_1 : wc.cell? ⟨gb147,1,none⟩ = some (.string (⟨#[]⟩ : ByteArray)):=(blk_cell BK147.out 1).trans rfl
             have hcz234_2 : wc.cell? ⟨gb147,2,none⟩ = some (.int .i64 0):=(blk_cell BK147.out 2).trans rfl
             have hcz234_3 : wc.cell? ⟨gb147,3,none⟩ = some (.int .i64 a1):=(blk_cell BK147.out 3).trans rfl
             have hcz234_4 : wc.cell? ⟨gb147,4,none⟩ = some (.bool false):=(blk_cell BK147.out 4).trans rfl
             have hfz234_0:=blk_frozen BK147.out 0
             have hfz234_1:=blk_frozen BK147.out 1
             have hfz234_2:=blk_frozen BK147.out 2
             have hfz234_3:=blk_frozen BK147.out 3
             have hfz234_4:=blk_frozen BK147.out 4
             have hcz235_0 : wc.cell? ⟨gb146,0,none⟩ = some (.int .i64 0):=(blk_cell BK146.out 0).trans rfl
             have hcz235_1 : wc.cell? ⟨gb146,1,none⟩ = some (.string (⟨#[]⟩ : ByteArray)):=(blk_cell BK146.out 1).trans rfl
             have hcz235_2 : wc.cell? ⟨gb146,2,none⟩ = some (.int .i64 0):=(blk_cell BK146.out 2).trans rfl
             have hcz235_3 : wc.cell? ⟨gb146,3,none⟩ = some (.int .i64 0):=(blk_cell BK146.out 3).trans rfl
             have hcz235_4 : wc.cell? ⟨gb146,4,none⟩ = some (.bool false):=(blk_cell BK146.out 4).trans rfl
             have hfz235_0:=blk_frozen BK146.out 0
             have hfz235_1:=blk_frozen BK146.out 1
             have hfz235_2:=blk_frozen BK146.out 2
             have hfz235_3:=blk_frozen BK146.out 3
             have hfz235_4:=blk_frozen BK146.out 4
             go_wp2
             refine bodyPost_ret (results_ct rfl _ _ gb146 46 #[.int .i64 1,.string (a0.extract (a1 : Int).toNat ((wrap64 (a1 + 1)) : Int).toNat),.int .i64 0,.int .i64 a1,.bool false] (0,0) _ rfl (by (with_reducible repeat (first|refine blk_drewN ?_ _|refine blk_drew ?_|refine blk_alloc ?_ _));refine blk_put (cs:=#[.int .i64 1,.string (a0.extract (a1 : Int).toNat ((wrap64 (a1 + 1)) : Int).toNat),.int .i64 0,.int .i64 a1,.bool false]) ?_ 4 _ rfl;(with_reducible repeat (first|refine blk_drewN ?_ _|refine blk_drew ?_|refine blk_alloc ?_ _));refine blk_put (cs:=#[.int .i64 1,.string (a0.extract (a1 : Int).toNat ((wrap64 (a1 + 1)) : Int).toNat),.int .i64 0,.int .i64 0,.bool false]) ?_ 3 _ rfl;(with_reducible repeat (first|refine blk_drewN ?_ _|refine blk_drew ?_|refine blk_alloc ?_ _));refine blk_put (cs:=#[.int .i64 1,.string (a0.extract (a1 : Int).toNat ((wrap64 (a1 + 1)) : Int).toNat),.int .i64 0,.int .i64 0,.bool false]) ?_ 2 _ rfl;(with_reducible repeat (first|refine blk_drewN ?_ _|refine blk_drew ?_|refine blk_alloc ?_ _));refine blk_put (cs:=#[.int .i64 1,.string (⟨#[]⟩ : ByteArray),.int .i64 0,.int .i64 0,.bool false]) ?_ 1 _ rfl;(with_reducible repeat (first|refine blk_drewN ?_ _|refine blk_drew ?_|refine blk_alloc ?_ _));refine blk_put (cs:=#[.int .i64 0,.string (⟨#[]⟩ : ByteArray),.int .i64 0,.int .i64 0,.bool false]) ?_ 0 _ rfl;(with_reducible repeat (first|refine blk_drewN ?_ _|refine blk_drew ?_|refine blk_alloc ?_ _));refine blk_far ?_ NB146_147.out _;(with_reducible repeat (first|refine blk_drewN ?_ _|refine blk_drew ?_|refine blk_alloc ?_ _));refine blk_far ?_ NB146_147.out _;(with_reducible repeat (first|refine blk_drewN ?_ _|refine blk_drew ?_|refine blk_alloc ?_ _));exact BK146.out) Try.underlying46 rfl (by kernel_rfl)) rfl ?_
             exact ⟨by first|rfl|(simp [errW_none,errW_some] <;> rfl)|(simp [*,errW_none,errW_some] <;> rfl),by repeat (first|(with_reducible first|exact HB.out|apply below_alloc|apply pw_below_drewN|apply below_drew1|refine below_set ?_ GE146.out|refine below_set ?_ GE147.out)|exact HB.out)⟩
         ·replace c201:=Bool.eq_false_iff.mpr c201
          subst c201
          have H1 : ((fk_strings_IndexByte.f kj197 (⟨#[40,41,91,93,44,124]⟩ : ByteArray) (bt a0 a1)).bind fun t157 => (if t157 ≥ 0 then (if 0 ≤ a1 then (if a1 ≤ (wrap64 (a1 + 1)) then (if (wrap64 (a1 + 1)) ≤ (a0.size : Int) then (if 4 = 0 then (if a1 ≤ (wrap64 (a1 + 1)) then (if (wrap64 (a1 + 1)) ≤ (a0.size : Int) then (some (6,a0.extract (a1 : Int).toNat ((wrap64 (a1 + 1)) : Int).toNat,0,a1,false,wrap64 (a1 + 1))) else (none)) else (none)) else (if 4 = 4 then (some (4,a0.extract (a1 : Int).toNat ((wrap64 (a1 + 1)) : Int).toNat,0,a1,false,(wrap64 (a1 + 1)))) else (if ((a0.extract (a1 : Int).toNat ((wrap64 (a1 + 1)) : Int).toNat).size : Int) > 20 then (if a1 ≤ (wrap64 (a1 + 1)) then (if (wrap64 (a1 + 1)) ≤ (a0.size : Int) then (some (6,a0.extract (a1 : Int).toNat ((wrap64 (a1 + 1)) : Int).toNat,0,a1,false,wrap64 (a1 + 1))) else (none)) else (none)) else (some (4,a0.extract (a1 : Int).toNat ((wrap64 (a1 + 1)) : Int).toNat,0,a1,false,(wrap64 (a1 + 1))))))) else (none)) else (none)) else (none)) else (if (bt a0 a1) = 39 then ((fk_impl_run.f kj197 a0 (wrap64 (a1 + 1)) 75).bind fun t158 => (if t158 < (a0.size : Int) then (if 0 ≤ t158 then (if (bt a0 t158) = 39 then ((impl_within.f (wrap64 ((wrap64 (t158 - a1)) - 1)) 1 20).bind fun t159 => (impl_nextSign.j4 kj197 a0 a1 (wrap64 (a1 + 1)) t158 t159 0 (⟨#[]⟩ : ByteArray) 0 a1 false)) else (impl_nextSign.j4 kj197 a0 a1 (wrap64 (a1 + 1)) t158 false 0 (⟨#[]⟩ : ByteArray) 0 a1 false)) else (none)) else (impl_nextSign.j4 kj197 a0 a1 (wrap64 (a1 + 1)) t158 false 0 (⟨#[]⟩ : ByteArray) 0 a1 false))) else (if 0 ≤ a1 then (if a1 ≤ (wrap64 (a1 + 1)) then (if (wrap64 (a1 + 1)) ≤ (a0.size : Int) then (if 0 = 0 then (if a1 ≤ (wrap64 (a1 + 1)) then (if (wrap64 (a1 + 1)) ≤ (a0.size : Int) then (some (6,a0.extract (a1 : Int).toNat ((wrap64 (a1 + 1)) : Int).toNat,0,a1,false,wrap64 (a1 + 1))) else (none)) else (none)) else (if 0 = 4 then (some (0,a0.extract (a1 : Int).toNat ((wrap64 (a1 + 1)) : Int).toNat,0,a1,false,(wrap64 (a1 + 1)))) else (if ((a0.extract (a1 : Int).toNat ((wrap64 (a1 + 1)) : Int).toNat).size : Int) > 20 then (if a1 ≤ (wrap64 (a1 + 1)) then (if (wrap64 (a1 + 1)) ≤ (a0.size : Int) then (some (6,a0.extract (a1 : Int).toNat ((wrap64 (a1 + 1)) : Int).toNat,0,a1,false,wrap64 (a1 + 1))) else (none)) else (none)) else (some (0,a0.extract (a1 : Int).toNat ((wrap64 (a1 + 1)) : Int).toNat,0,a1,false,(wrap64 (a1 + 1))))))) else (none)) else (none)) else (none))))) = some (r1,r2,r3,r4,r5,r6):=by rw [if_neg (show ¬ (false = true) by decide)] at H;exact H
          clear H
          have H:=H1
          clear H1
          replace H:=Option.bind_eq_some_iff.mp H
          obtain ⟨t157,A2360,H⟩:=H
          replace H : (if t157 ≥ 0 then (if 0 ≤ a1 then (if a1 ≤ (wrap64 (a1 + 1)) then (if (wrap64 (a1 + 1)) ≤ (a0.size : Int) then (if 4 = 0 then (if a1 ≤ (wrap64 (a1 + 1)) then (if (wrap64 (a1 + 1)) ≤ (a0.size : Int) then (some (6,a0.extract (a1 : Int).toNat ((wrap64 (a1 + 1)) : Int).toNat,0,a1,false,wrap64 (a1 + 1))) else (none)) else (none)) else (if 4 = 4 then (some (4,a0.extract (a1 : Int).toNat ((wrap64 (a1 + 1)) : Int).toNat,0,a1,false,(wrap64 (a1 + 1)))) else (if ((a0.extract (a1 : Int).toNat ((wrap64 (a1 + 1)) : Int).toNat).size : Int) > 20 then (if a1 ≤ (wrap64 (a1 + 1)) then (if (wrap64 (a1 + 1)) ≤ (a0.size : Int) then (some (6,a0.extract (a1 : Int).toNat ((wrap64 (a1 + 1)) : Int).toNat,0,a1,false,wrap64 (a1 + 1))) else (none)) else (none)) else (some (4,a0.extract (a1 : Int).toNat ((wrap64 (a1 + 1)) : Int).toNat,0,a1,false,(wrap64 (a1 + 1))))))) else (none)) else (none)) else (none)) else (if (bt a0 a1) = 39 then ((fk_impl_run.f kj197 a0 (wrap64 (a1 + 1)) 75).bind fun t158 => (if t158 < (a0.size : Int) then (if 0 ≤ t158 then (if (bt a0 t158) = 39 then ((impl_within.f (wrap64 ((wrap64 (t158 - a1)) - 1)) 1 20).bind fun t159 => (impl_nextSign.j4 kj197 a0 a1 (wrap64 (a1 + 1)) t158 t159 0 (⟨#[]⟩ : ByteArray) 0 a1 false)) else (impl_nextSign.j4 kj197 a0 a1 (wrap64 (a1 + 1)) t158 false 0 (⟨#[]⟩ : ByteArray) 0 a1 false)) else (none)) else (impl_nextSign.j4 kj197 a0 a1 (wrap64 (a1 + 1)) t158 false 0 (⟨#[]⟩ : ByteArray) 0 a1 false))) else (if 0 ≤ a1 then (if a1 ≤ (wrap64 (a1 + 1)) then (if (wrap64 (a1 + 1)) ≤ (a0.size : Int) then (if 0 = 0 then (if a1 ≤ (wrap64 (a1 + 1)) then (if (wrap64 (a1 + 1)) ≤ (a0.size : Int) then (some (6,a0.extract (a1 : Int).toNat ((wrap64 (a1 + 1)) : Int).toNat,0,a1,false,wrap64 (a1 + 1))) else (none)) else (none)) else (if 0 = 4 then (some (0,a0.extract (a1 : Int).toNat ((wrap64 (a1 + 1)) : Int).toNat,0,a1,false,(wrap64 (a1 + 1)))) else (if ((a0.extract (a1 : Int).toNat ((wrap64 (a1 + 1)) : Int).toNat).size : Int) > 20 then (if a1 ≤ (wrap64 (a1 + 1)) then (if (wrap64 (a1 + 1)) ≤ (a0.size : Int) then (some (6,a0.extract (a1 : Int).toNat ((wrap64 (a1 + 1)) : Int).toNat,0,a1,false,wrap64 (a1 + 1))) else (none)) else (none)) else (some (0,a0.extract (a1 : Int).toNat ((wrap64 (a1 + 1)) : Int).toNat,0,a1,false,(wrap64 (a1 + 1))))))) else (none)) else (none)) else (none)))) = some (r1,r2,r3,r4,r5,r6):=H
          have A236:=Aside0.mk A2360
          clear A2360
          by_cases c237 : t157 ≥ 0
          ·rw [if_pos c237] at H
           have c237b0 : decide (0 ≤ t157) = true:=decide_eq_true c237
           clear c237
           by_cases c238 : 0 ≤ a1
           rotate_left
           ·rw [if_neg c238] at H
            exact absurd H (by simp)
           rw [if_pos c238] at H
           have c238b0:=eq_true c238
           have c238b1 : decide (0 ≤ a1) = true:=decide_eq_true c238
           clear c238
           by_cases c239 : a1 ≤ (wrap64 (a1 + 1))
           rotate_left
           ·rw [if_neg c239] at H
            exact absurd H (by simp)
           rw [if_pos c239] at H
           have c239b0:=eq_true c239
           have c239b1 : decide (a1 ≤ (wrap64 (a1 + 1))) = true:=decide_eq_true c239
           by_cases c240 : (wrap64 (a1 + 1)) ≤ (a0.size : Int)
           rotate_left
           ·rw [if_neg c240] at H
            exact absurd H (by simp)
           rw [if_pos c240] at H
           have c240b0:=eq_true c240
           have c240b1 : decide ((wrap64 (a1 + 1)) ≤ (a0.size : Int)) = true:=decide_eq_true c240
           by_cases c241 : 4 = 0
           ·exact absurd c241 (by decide)
           ·first|rw [if_neg c241] at H|rw [if_neg not_false] at H
            have c241b0 : (4 == 0) = false:=beq_eq_false_iff_ne.mpr c241
            have c241b1 : (4 != 0) = true:=bne_iff_ne.mpr c241
            by_cases c254 : 4 = 4
            ·first|rw [if_pos c254] at H|rw [if_pos trivial] at H
             have c254b0 : (4 == 4) = true:=beq_iff_eq.mpr c254
             have c254b1 : (4 != 4) = false:=bne_eq_false_iff_eq.mpr c254
             clear c254
             simp only [Option.some.injEq,Prod.mk.injEq] at H
             obtain ⟨rfl,rfl,rfl,rfl,rfl,rfl⟩:=H
             go_wp2_with (first|((with_reducible refine gate_callee (f:=40) rfl ?_);refine goesL_ (some 93) rfl rfl Try.func40 (by kernel_rfl) rfl #[.string (⟨#[40,41,91,93,44,124]⟩ : ByteArray),.int .u8 (bt a0 a1)] rfl (by (try simp only [List.map_toArray,List.map_cons,List.map_nil]);first|done|rfl|(simp only [List.length_drop,List.length_take];rfl)) ?_;(with_reducible refine (fk_strings_IndexByte.calls kj197 (⟨#[40,41,91,93,44,124]⟩ : ByteArray) (bt a0 a1) t157 _ A236.out).mono ?_);rintro e w255 ⟨rfl,hb⟩;refine ⟨_,rfl,?_⟩;have n0_:=Aside0.mk (blk_below (g:=gb146) (o:=.cells #[.int .i64 0,.string (⟨#[]⟩ : ByteArray),.int .i64 0,.int .i64 0,.bool false] 46 (0,0)) (by (with_reducible repeat (first|refine blk_drewN ?_ _|refine blk_drew ?_|refine blk_alloc ?_ _));exact BK146.out) hb);have n1_:=Aside0.mk (blk_below (g:=gb147) (o:=.cells #[.int .i64 0,.string (⟨#[]⟩ : ByteArray),.int .i64 0,.int .i64 a1,.bool false] 46 (0,0)) (by (with_reducible repeat (first|refine blk_drewN ?_ _|refine blk_drew ?_|refine blk_alloc ?_ _));exact BK147.out) hb);have n2_:=Aside0.mk (below_step (by repeat (first|(with_reducible first|exact HB.out|apply below_alloc|apply pw_below_drewN|apply below_drew1|refine below_set ?_ GE146.out|refine below_set ?_ GE147.out)|exact HB.out)) hb);clear BK146;clear BK147;clear HB;have BK146:=n0_;have BK147:=n1_;have HB:=n2_;clear n0_ n1_ n2_;(try clear hb);(try clear hb2);(try clear hk);(try clear hi);have hnb256:=NB147_146.out;have hnc256:=NB146_147.out;have hcz257_0 : w255.cell? ⟨gb147,0,none⟩ = some (.int .i64 0):=(blk_cell BK147.out 0).trans rfl;have hcz257_1 : w255.cell? ⟨gb147,1,none⟩ = some (.string (⟨#[]⟩ : ByteArray)):=(blk_cell BK147.out 1).trans rfl;have hcz257_2 : w255.cell? ⟨gb147,2,none⟩ = some (.int .i64 0):=(blk_cell BK147.out 2).trans rfl;have hcz257_3 : w255.cell? ⟨gb147,3,none⟩ = some (.int .i64 a1):=(blk_cell BK147.out 3).trans rfl;have hcz257_4 : w255.cell? ⟨gb147,4,none⟩ = some (.bool false):=(blk_cell BK147.out 4).trans rfl;have hfz257_0:=blk_frozen BK147.out 0;have hfz257_1:=blk_frozen BK147.out 1;have hfz257_2:=blk_frozen BK147.out 2;have hfz257_3:=blk_frozen BK147.out 3;have hfz257_4:=blk_frozen BK147.out 4;have hcz258_0 : w255.cell? ⟨gb146,0,none⟩ = some (.int .i64 0):=(blk_cell BK146.out 0).trans rfl;have hcz258_1 : w255.cell? ⟨gb146,1,none⟩ = some (.string (⟨#[]⟩ : ByteArray)):=(blk_cell BK146.out 1).trans rfl;have hcz258_2 : w255.cell? ⟨gb146,2,none⟩ = some (.int .i64 0):=(blk_cell BK146.out 2).trans rfl;have hcz258_3 : w255.cell? ⟨gb146,3,none⟩ = some (.int .i64 0):=(blk_cell BK146.out 3).trans rfl;have hcz258_4 : w255.cell? ⟨gb146,4,none⟩ = some (.bool false):=(blk_cell BK146.out 4).trans rfl;have hfz258_0:=blk_frozen BK146.out 0;have hfz258_1:=blk_frozen BK146.out 1;have hfz258_2:=blk_frozen BK146.out 2;have hfz258_3:=blk_frozen BK146.out 3;have hfz258_4:=blk_frozen BK146.out 4))
             refine bodyPost_ret (results_ct rfl _ _ gb146 46 #[.int .i64 4,.string (a0.extract (a1 : Int).toNat ((wrap64 (a1 + 1)) : Int).toNat),.int .i64 0,.int .i64 a1,.bool false] (0,0) _ rfl (by (with_reducible repeat (first|refine blk_drewN ?_ _|refine blk_drew ?_|refine blk_alloc ?_ _));refine blk_put (cs:=#[.int .i64 4,.string (a0.extract (a1 : Int).toNat ((wrap64 (a1 + 1)) : Int).toNat),.int .i64 0,.int .i64 a1,.bool false]) ?_ 4 _ rfl;(with_reducible repeat (first|refine blk_drewN ?_ _|refine blk_drew ?_|refine blk_alloc ?_ _));refine blk_put (cs:=#[.int .i64 4,.string (a0.extract (a1 : Int).toNat ((wrap64 (a1 + 1)) : Int).toNat),.int .i64 0,.int .i64 0,.bool false]) ?_ 3 _ rfl;(with_reducible repeat (first|refine blk_drewN ?_ _|refine blk_drew ?_|refine blk_alloc ?_ _));refine blk_put (cs:=#[.int .i64 4,.string (a0.extract (a1 : Int).toNat ((wrap64 (a1 + 1)) : Int).toNat),.int .i64 0,.int .i64 0,.bool false]) ?_ 2 _ rfl;(with_reducible repeat (first|refine blk_drewN ?_ _|refine blk_drew ?_|refine blk_alloc ?_ _));refine blk_put (cs:=#[.int .i64 4,.string (⟨#[]⟩ : ByteArray),.int .i64 0,.int .i64 0,.bool false]) ?_ 1 _ rfl;(with_reducible repeat (first|refine blk_drewN ?_ _|refine blk_drew ?_|refine blk_alloc ?_ _));refine blk_put (cs:=#[.int .i64 0,.string (⟨#[]⟩ : ByteArray),.int .i64 0,.int .i64 0,.bool false]) ?_ 0 _ rfl;(with_reducible repeat (first|refine blk_drewN ?_ _|refine blk_drew ?_|refine blk_alloc ?_ _));refine blk_far ?_ NB146_147.out _;(with_reducible repeat (first|refine blk_drewN ?_ _|refine blk_drew ?_|refine blk_alloc ?_ _));refine blk_far ?_ NB146_147.out _;(with_reducible repeat (first|refine blk_drewN ?_ _|refine blk_drew ?_|refine blk_alloc ?_ _));exact BK146.out) Try.underlying46 rfl (by kernel_rfl)) rfl ?_
             exact ⟨by first|rfl|(simp [errW_none,errW_some] <;> rfl)|(simp [*,errW_none,errW_some] <;> rfl),by repeat (first|(with_reducible first|exact HB.out|apply below_alloc|apply pw_below_drewN|apply below_drew1|refine below_set ?_ GE146.out|refine below_set ?_ GE147.out)|exact HB.out)⟩
            ·exact absurd rfl c254
          ·rw [if_neg c237] at H
           have c237b0 : decide (0 ≤ t157) = false:=decide_eq_false c237
           clear c237
           by_cases c276 : (bt a0 a1) = 39
           ·rw [if_pos c276] at H
            have c276b0 : ((bt a0 a1) == 39) = true:=beq_iff_eq.mpr c276
            have c276b1 : ((bt a0 a1) != 39) = false:=bne_eq_false_iff_eq.mpr c276
            clear c276
            replace H:=Option.bind_eq_some_iff.mp H
            obtain ⟨t158,A2770,H⟩:=H
            replace H : (if t158 < (a0.size : Int) then (if 0 ≤ t158 then (if (bt a0 t158) = 39 then ((impl_within.f (wrap64 ((wrap64 (t158 - a1)) - 1)) 1 20).bind fun t159 => (impl_nextSign.j4 kj197 a0 a1 (wrap64 (a1 + 1)) t158 t159 0 (⟨#[]⟩ : ByteArray) 0 a1 false)) else (impl_nextSign.j4 kj197 a0 a1 (wrap64 (a1 + 1)) t158 false 0 (⟨#[]⟩ : ByteArray) 0 a1 false)) else (none)) else (impl_nextSign.j4 kj197 a0 a1 (wrap64 (a1 + 1)) t158 false 0 (⟨#[]⟩ : ByteArray) 0 a1 false)) = some (r1,r2,r3,r4,r5,r6):=H
            have A277:=Aside0.mk A2770
            clear A2770
            have HC278:=Aside0.mk H
            clear H
            go_upto_region 31 with (first|((with_reducible refine gate_callee (f:=40) rfl ?_);refine goesL_ (some 93) rfl rfl Try.func40 (by kernel_rfl) rfl #[.string (⟨#[40,41,91,93,44,124]⟩ : ByteArray),.int .u8 (bt a0 a1)] rfl (by (try simp only [List.map_toArray,List.map_cons,List.map_nil]);first|done|rfl|(simp only [List.length_drop,List.length_take];rfl)) ?_;(with_reducible refine (fk_strings_IndexByte.calls kj197 (⟨#[40,41,91,93,44,124]⟩ : ByteArray) (bt a0 a1) t157 _ A236.out).mono ?_);rintro e w279 ⟨rfl,hb⟩;refine ⟨_,rfl,?_⟩;have n0_:=Aside0.mk (blk_below (g:=gb146) (o:=.cells #[.int .i64 0,.string (⟨#[]⟩ : ByteArray),.int .i64 0,.int .i64 0,.bool false] 46 (0,0)) (by (with_reducible repeat (first|refine blk_drewN ?_ _|refine blk_drew ?_|refine blk_alloc ?_ _));exact BK146.out) hb);have n1_:=Aside0.mk (blk_below (g:=gb147) (o:=.cells #[.int .i64 0,.string (⟨#[]⟩ : ByteArray),.int .i64 0,.int .i64 a1,.bool false] 46 (0,0)) (by (with_reducible repeat (first|refine blk_drewN ?_ _|refine blk_drew ?_|refine blk_alloc ?_ _));exact BK147.out) hb);have n2_:=Aside0.mk (below_step (by repeat (first|(with_reducible first|exact HB.out|apply below_alloc|apply pw_below_drewN|apply below_drew1|refine below_set ?_ GE146.out|refine below_set ?_ GE147.out)|exact HB.out)) hb);clear BK146;clear BK147;clear HB;have BK146:=n0_;have BK147:=n1_;have HB:=n2_;clear n0_ n1_ n2_;(try clear hb))|((with_reducible refine gate_callee (f:=55) rfl ?_);refine goesL_ (some 102) rfl rfl Try.func55 (by kernel_rfl) rfl #[.string a0,.int .i64 (wrap64 (a1 + 1)),.func (.func 75) #[] #[]] rfl (by (try simp only [List.map_toArray,List.map_cons,List.map_nil]);first|done|rfl|(simp only [List.length_drop,List.length_take];rfl)) ?_;(with_reducible refine (fk_impl_run.calls_75 kj197 a0 (wrap64 (a1 + 1)) t158 _ A277.out).mono ?_);rintro e w280 ⟨rfl,hb⟩;refine ⟨_,rfl,?_⟩;have n0_:=Aside0.mk (blk_below (g:=gb146) (o:=.cells #[.int .i64 0,.string (⟨#[]⟩ : ByteArray),.int .i64 0,.int .i64 0,.bool false] 46 (0,0)) (by (with_reducible repeat (first|refine blk_drewN ?_ _|refine blk_drew ?_|refine blk_alloc ?_ _));exact BK146.out) hb);have n1_:=Aside0.mk (blk_below (g:=gb147) (o:=.cells #[.int .i64 0,.string (⟨#[]⟩ : ByteArray),.int .i64 0,.int .i64 a1,.bool false] 46 (0,0)) (by (with_reducible repeat (first|refine blk_drewN ?_ _|refine blk_drew ?_|refine blk_alloc ?_ _));exact BK147.out) hb);have n2_:=Aside0.mk (below_step (by repeat (first|(with_reducible first|exact HB.out|apply below_alloc|apply pw_below_drewN|apply below_drew1|refine below_set ?_ GE146.out|refine below_set ?_ GE147.out)|exact HB.out)) hb);clear BK146;clear BK147;clear HB;have BK146:=n0_;have BK147:=n1_;have HB:=n2_;clear n0_ n1_ n2_;(try clear hb)))
            (try simp only [Act.put,List.setIfInBounds_toArray,List.set_cons_zero,List.set_cons_succ])
            go_cut [119] (fun v119 wc => ∃ (kq : Nat) (x119_277 : Bool),v119 = .bool x119_277 ∧ Aside0 (impl_nextSign.j4 kq a0 a1 (wrap64 (a1 + 1)) t158 x119_277 0 (⟨#[]⟩ : ByteArray) 0 a1 false = some (r1,r2,r3,r4,r5,r6)) ∧ Aside0 (kq ≤ kj197) ∧ Aside0 (wc.heap[gb146]? = some (.cells #[.int .i64 0,.string (⟨#[]⟩ : ByteArray),.int .i64 0,.int .i64 0,.bool false] 46 (0,0))) ∧ Aside0 (wc.heap[gb147]? = some (.cells #[.int .i64 0,.string (⟨#[]⟩ : ByteArray),.int .i64 0,.int .i64 a1,.bool false] 46 (0,0))) ∧ Aside0 (Below w.heap.size w wc))
            case first =>
             have H:=HC278.out
             clear HC278
             by_cases c281 : t158 < (a0.size : Int)
             ·rw [if_pos c281] at H
              have c281b0 : decide (t158 < (a0.size : Int)) = true:=decide_eq_true c281
              clear c281
              (first|rw [c281b0]|(simp only [i64_w,i32_w];rw [c281b0])|skip)
              by_cases c282 : 0 ≤ t158
              rotate_left
              ·rw [if_neg c282] at H
               exact absurd H (by simp)
              rw [if_pos c282] at H
              have c282b0 : decide (0 ≤ t158) = true:=decide_eq_true c282
              clear c282
              by_cases c284 : (bt a0 t158) = 39
              ·rw [if_pos c284] at H
               have c284b0 : ((bt a0 t158) == 39) = true:=beq_iff_eq.mpr c284
               have c284b1 : ((bt a0 t158) != 39) = false:=bne_eq_false_iff_eq.mpr c284
               clear c284
               replace H:=Option.bind_eq_some_iff.mp H
               obtain ⟨t159,A2850,H⟩:=H
               replace H : (impl_nextSign.j4 kj197 a0 a1 (wrap64 (a1 + 1)) t158 t159 0 (⟨#[]⟩ : ByteArray) 0 a1 false) = some (r1,r2,r3,r4,r5,r6):=H
               have A285:=Aside0.mk A2850
               clear A2850
               have H':=Aside0.mk H
               clear H
               have p283 : 0 ≤ (t158 : Int):=of_decide_eq_true (by first|(with_reducible assumption)|assumption)
               have q283 : t158 < (a0.size : Int):=of_decide_eq_true (by first|(with_reducible assumption)|assumption)
               have hx283:=bt_at a0 t158
               replace p283:=eq_true p283
               replace q283:=eq_true q283
               go_wp2_with (first|(go_at_call 47;(with_reducible refine (impl_within.calls (wrap64 ((wrap64 (t158 - a1)) - 1)) 1 20 t159 _ A285.out).mono ?_);rintro e w' ⟨rfl,⟨nd,rfl⟩⟩))
               go_meet
               case rel => exact ⟨_,(t159),(by first|rfl|(simp;done)|(simp [*];done)),H',⟨by have:=HJ14.out;have:=HJ197.out;first|omega|exact Nat.le_refl _⟩,⟨by (with_reducible repeat (first|refine blk_drewN ?_ _|refine blk_drew ?_|refine blk_alloc ?_ _));exact BK146.out⟩,⟨by (with_reducible repeat (first|refine blk_drewN ?_ _|refine blk_drew ?_|refine blk_alloc ?_ _));exact BK147.out⟩,⟨by repeat (first|(with_reducible first|exact HB.out|apply below_alloc|apply pw_below_drewN|apply below_drew1|refine below_set ?_ GE146.out|refine below_set ?_ GE147.out)|exact HB.out)⟩⟩
              ·rw [if_neg c284] at H
               have c284b0 : ((bt a0 t158) == 39) = false:=beq_eq_false_iff_ne.mpr c284
               have c284b1 : ((bt a0 t158) != 39) = true:=bne_iff_ne.mpr c284
               have H':=Aside0.mk H
               clear H
               have p283 : 0 ≤ (t158 : Int):=of_decide_eq_true (by first|(with_reducible assumption)|assumption)
               have q283 : t158 < (a0.size : Int):=of_decide_eq_true (by first|(with_reducible assumption)|assumption)
               have hx283:=bt_at a0 t158
               replace p283:=eq_true p283
               replace q283:=eq_true q283
               go_wp2
               go_meet
               case rel => exact ⟨_,(false),(by first|rfl|(simp;done)|(simp [*];done)),H',⟨by have:=HJ14.out;have:=HJ197.out;first|omega|exact Nat.le_refl _⟩,⟨by (with_reducible repeat (first|refine blk_drewN ?_ _|refine blk_drew ?_|refine blk_alloc ?_ _));exact BK146.out⟩,⟨by (with_reducible repeat (first|refine blk_drewN ?_ _|refine blk_drew ?_|refine blk_alloc ?_ _));exact BK147.out⟩,⟨by repeat (first|(with_reducible first|exact HB.out|apply below_alloc|apply pw_below_drewN|apply below_drew1|refine below_set ?_ GE146.out|refine below_set ?_ GE147.out)|exact HB.out)⟩⟩
             ·rw [if_neg c281] at H
              have c281b0 : decide (t158 < (a0.size : Int)) = false:=decide_eq_false c281
              clear c281
              (first|rw [c281b0]|(simp only [i64_w,i32_w];rw [c281b0])|skip)
              have H':=Aside0.mk H
              clear H
              go_wp2
              go_meet
              case rel => exact ⟨_,(false),(by first|rfl|(simp;done)|(simp [*];done)),H',⟨by have:=HJ14.out;have:=HJ197.out;first|omega|exact Nat.le_refl _⟩,⟨by (with_reducible repeat (first|refine blk_drewN ?_ _|refine blk_drew ?_|refine blk_alloc ?_ _));exact BK146.out⟩,⟨by (with_reducible repeat (first|refine blk_drewN ?_ _|refine blk_drew ?_|refine blk_alloc ?_ _));exact BK147.out⟩,⟨by repeat (first|(with_reducible first|exact HB.out|apply below_alloc|apply pw_below_drewN|apply below_drew1|refine below_set ?_ GE146.out|refine below_set ?_ GE147.out)|exact HB.out)⟩⟩
            case rest =>
             clear HC278
             try clear c4
             try clear c22
             try clear c24
             try clear c25
             try clear c28
             try clear c201
             try clear c202
             try clear c203
             try clear c204
             try clear c221
             try clear c221b0
             try clear c221b1
             try clear c223
             try clear c224
             try clear c237
             try clear c237b0
             try clear c238
             try clear c238b0
             try clear c238b1
             try clear c239
             try clear c239b0
             try clear c239b1
             try clear c240
             try clear c240b0
             try clear c240b1
             try clear c241
             try clear c241b0
             try clear c241b1
             try clear c254
             try clear c254b0
             try clear c254b1
             try clear c276
             try clear c276b0
             try clear c276b1
             try clear c281
             try clear c281b0
             try clear c282
             try clear c282b0
             try clear p283
             try clear q283
             try clear hx283
             try clear c284
             try clear c284b0
             try clear c284b1
             try clear hcz226_4
             try clear hcz231_0
             try clear hcz231_1
             try clear hcz231_2
             try clear hcz231_3
             try clear hcz231_4
             try clear hcz232_0
             try clear hcz232_1
             try clear hcz232_2
             try clear hcz232_3
             try clear hcz232_4
             try clear hcz234_0
             try clear hcz234_1
             try clear hcz234_2
             try clear hcz234_3
             try clear hcz234_4
             try clear hcz235_0
             try clear hcz235_1
             try clear hcz235_2
             try clear hcz235_3
             try clear hcz235_4
             try clear hcz257_0
             try clear hcz257_1
             try clear hcz257_2
             try clear hcz257_3
             try clear hcz257_4
             try clear hcz258_0
             try clear hcz258_1
             try clear hcz258_2
             try clear hcz258_3
             try clear hcz258_4
             try clear hfz226_0
             try clear hfz226_1
             try clear hfz226_2
             try clear hfz226_3
             try clear hfz226_4
             try clear hfz231_0
             try clear hfz231_1
             try clear hfz231_2
             try clear hfz231_3
             try clear hfz231_4
             try clear hfz232_0
             try clear hfz232_1
             try clear hfz232_2
             try clear hfz232_3
             try clear hfz232_4
             try clear hfz234_0
             try clear hfz234_1
             try clear hfz234_2
             try clear hfz234_3
             try clear hfz234_4
             try clear hfz235_0
             try clear hfz235_1
             try clear hfz235_2
             try clear hfz235_3
             try clear hfz235_4
             try clear hfz257_0
             try clear hfz257_1
             try clear hfz257_2
             try clear hfz257_3
             try clear hfz257_4
             try clear hfz258_0
             try clear hfz258_1
             try clear hfz258_2
             try clear hfz258_3
             try clear hfz258_4
             try clear p283
             try clear q283
             try clear BK146
             try clear BK147
             obtain ⟨kq,x119_277,rfl,HA,HJ277,BK146,BK147,HB⟩:=hcut
             cases kq with
             | zero => exact absurd HA.out (by simp [impl_nextSign.j4])
             | succ kj277 =>
              have H:=HA.out
              clear HA
              simp only [impl_nextSign.j4] at H
              by_cases c286 : x119_277 = true
              ·subst c286
               have H1 : (if 0 ≤ (wrap64 (a1 + 1)) then (if (wrap64 (a1 + 1)) ≤ t158 then (if t158 ≤ (a0.size : Int) then (some (1,a0.extract ((wrap64 (a1 + 1)) : Int).toNat (t158 : Int).toNat,0,a1,false,wrap64 (t158 + 1))) else (none)) else (none)) else (none)) = some (r1,r2,r3,r4,r5,r6):=by rw [if_pos rfl] at H;exact H
               clear H
               have H:=H1
               clear H1
               obtain ⟨ji287,hji287⟩ : ∃ j_ : Int,(wrap64 (a1 + 1)) = j_:=⟨_,rfl⟩
               replace H : (if 0 ≤ (ji287) then (if (ji287) ≤ t158 then (if t158 ≤ (a0.size : Int) then (some (1,a0.extract ((ji287) : Int).toNat (t158 : Int).toNat,0,a1,false,wrap64 (t158 + 1))) else (none)) else (none)) else (none)) = some (r1,r2,r3,r4,r5,r6):=by first|(rw [hji287] at H;exact H)|(simp only [hji287] at H ⊢;exact H)
               have hji287w : (IntKind.i64.wrap (a1 + 1)) = ji287:=(i64_w _).trans hji287
               (try rw [hji287] at BK146)
               (try rw [hji287] at BK147)
               by_cases c288 : 0 ≤ (ji287)
               rotate_left
               ·rw [if_neg c288] at H
                exact absurd H (by simp)
               rw [if_pos c288] at H
               have c288b0:=eq_true c288
               have c288b1 : decide (0 ≤ (ji287)) = true:=decide_eq_true c288
               clear c288
               by_cases c289 : (ji287) ≤ t158
               rotate_left
               ·rw [if_neg c289] at H
                exact absurd H (by simp)
               rw [if_pos c289] at H
               have c289b0:=eq_true c289
               have c289b1 : decide ((ji287) ≤ t158) = true:=decide_eq_true c289
               clear c289
               by_cases c290 : t158 ≤ (a0.size : Int)
               rotate_left
               ·rw [if_neg c290] at H
                exact absurd H (by simp)
               rw [if_pos c290] at H
               have c290b0:=eq_true c290
               have c290b1 : decide (t158 ≤ (a0.size : Int)) = true:=decide_eq_true c290
               clear c290
               simp only [Option.some.injEq,Prod.mk.injEq] at H
               obtain ⟨rfl,rfl,rfl,rfl,rfl,rfl⟩:=H
               try go_wp2
               have n0_:=Aside0.mk (blk_drew BK146.out)
               have n1_:=Aside0.mk (blk_drew BK147.out)
               have n2_:=Aside0.mk (below_drew1 HB.out)
               clear BK146
               clear BK147
               clear HB
               have BK146:=n0_
               have BK147:=n1_
               have HB:=n2_
               clear n0_ n1_ n2_
               refine start_ (n:=9) (S:=fun w' => True) (ds:=[]) #[false,false,false,false,false,false,false,false,false] (by kernel_rfl) rfl rfl trivial (fun hHeld => ?_);refine with_tabW impl_nextSign.tab32 impl_nextSign.bits32 (fun HT_ HW_ => ?_)
               generalize wc.drew = w291 at BK146 BK147 HB hHeld ⊢
               refine pure_ (i:=0) (N:=some 120) (v:=?_) (a':=?_) #[true,false,false,false,false,false,false,false,false] rfl rfl (any_of HT_.out (by kernel_rfl)) (fun _ _ _ h => h) (Or.inl ⟨by rfl,?_⟩) ?_ ?_
               rotate_left
               ·intro w'
                go_simp
                with_reducible rfl
               rotate_left
               ·simp only [Act.put,List.setIfInBounds_toArray,List.set_cons_zero,List.set_cons_succ,i64_w,i32_w]
                rfl
               refine pure_ (i:=1) (N:=some 121) (v:=?_) (a':=?_) #[true,true,false,false,false,false,false,false,false] rfl rfl (any_of HT_.out (by kernel_rfl)) (fun _ _ _ h => h) (Or.inl ⟨by rfl,?_⟩) ?_ ?_
               rotate_left
               ·intro w'
                go_simp
                with_reducible rfl
               rotate_left
               ·simp only [Act.put,List.setIfInBounds_toArray,List.set_cons_zero,List.set_cons_succ,i64_w,i32_w]
                rfl
               refine pure_ (i:=2) (N:=some 122) (v:=?_) (a':=?_) #[true,true,true,false,false,false,false,false,false] rfl rfl (any_of HT_.out (by kernel_rfl)) (fun _ _ _ h => h) (Or.inl ⟨by rfl,?_⟩) ?_ ?_
               rotate_left
               ·intro w'
                go_simp
                with_reducible rfl
               rotate_left
               ·simp only [Act.put,List.setIfInBounds_toArray,List.set_cons_zero,List.set_cons_succ,i64_w,i32_w]
                rfl
               refine pure_ (i:=3) (N:=some 123) (v:=?_) (a':=?_) #[true,true,true,true,false,false,false,false,false] rfl rfl (any_of HT_.out (by kernel_rfl)) (fun _ _ _ h => h) (Or.inl ⟨by rfl,?_⟩) ?_ ?_
               rotate_left
               ·intro w'
                go_simp
                with_reducible rfl
               rotate_left
               ·simp only [Act.put,List.setIfInBounds_toArray,List.set_cons_zero,List.set_cons_succ,i64_w,i32_w]
                rfl
               refine pure_ (i:=4) (N:=some 124) (v:=?_) (a':=?_) #[true,true,true,true,true,false,false,false,false] rfl rfl (any_of HT_.out (by kernel_rfl)) (fun _ _ _ h => h) (Or.inl ⟨by rfl,?_⟩) ?_ ?_
               rotate_left
               ·intro w'
                go_simp
                with_reducible rfl
               rotate_left
               ·simp only [Act.put,List.setIfInBounds_toArray,List.set_cons_zero,List.set_cons_succ,i64_w,i32_w]
                rfl
               refine pure_ (i:=5) (N:=some 125) (v:=?_) (a':=?_) #[true,true,true,true,true,true,false,false,false] rfl rfl (any_of HT_.out (by kernel_rfl)) (fun _ _ _ h => h) (Or.inl ⟨by rfl,?_⟩) ?_ ?_
               rotate_left
               ·intro w'
                go_simp
                with_reducible rfl
               rotate_left
               ·simp only [Act.put,List.setIfInBounds_toArray,List.set_cons_zero,List.set_cons_succ,i64_w,i32_w]
                rfl
               refine one_ (i:=6) (N:=none) #[true,true,true,true,true,true,true,false,false] rfl rfl (one_of HT_.out (by kernel_rfl)) (by decide) (fun K hK => ?_)
               have hs292 : w291.cell? ⟨gb147,0,none⟩ = some (.int .i64 0):=(blk_cell BK147.out 0).trans rfl
               have hfs292:=blk_frozen BK147.out 0
               have hns292_0:=NB146_147.out
               have hms292_0:=NB147_146.out
               refine skip_ (w1:=?_) (by rfl) rfl ?_ ?_
               rotate_left
               ·go_simp
                rfl
               refine hK.out _ _ trivial (fun hHeld => ?_)
               clear hK K
               refine pure_ (i:=7) (N:=some 126) (v:=?_) (a':=?_) #[true,true,true,true,true,true,true,true,false] rfl rfl (any_of HT_.out (by kernel_rfl)) (fun _ _ _ h => h) (Or.inl ⟨by rfl,?_⟩) ?_ ?_
               rotate_left
               ·intro w'
                go_simp
                with_reducible rfl
               rotate_left
               ·simp only [Act.put,List.setIfInBounds_toArray,List.set_cons_zero,List.set_cons_succ,i64_w,i32_w]
                rfl
               refine one_ (i:=8) (N:=none) #[true,true,true,true,true,true,true,true,true] rfl rfl (one_of HT_.out (by kernel_rfl)) (by decide) (fun K hK => ?_)
               have hs293 : w291.cell? ⟨gb147,1,none⟩ = some (.string (⟨#[]⟩ : ByteArray)):=(blk_cell BK147.out 1).trans rfl
               have hfs293:=blk_frozen BK147.out 1
               have hns293_0:=NB146_147.out
               have hms293_0:=NB147_146.out
               refine skip_ (w1:=?_) (by rfl) rfl ?_ ?_
               rotate_left
               ·go_simp
                rfl
               refine hK.out _ _ trivial (fun hHeld => ?_)
               clear hK K
               refine done_ (done_of HT_.out (by kernel_rfl)) ?_
               have hnb294:=NB147_146.out
               have hnc294:=NB146_147.out
               have hcz295_0 : w291.cell? ⟨gb147,0,none⟩ = some (.int .i64 0):=(blk_cell BK147.out 0).trans rfl
               have hcz295_1 : w291.cell? ⟨gb147,1,none⟩ = some (.string (⟨#[]⟩ : ByteArray)):=(blk_cell BK147.out 1).trans rfl
               have hcz295_2 : w291.cell? ⟨gb147,2,none⟩ = some (.int .i64 0):=(blk_cell BK147.out 2).trans rfl
               have hcz295_3 : w291.cell? ⟨gb147,3,none⟩ = some (.int .i64 a1):=(blk_cell BK147.out 3).trans rfl
               have hcz295_4 : w291.cell? ⟨gb147,4,none⟩ = some (.bool false):=(blk_cell BK147.out 4).trans rfl
               have hfz295_0:=blk_frozen BK147.out 0
               have hfz295_1:=blk_frozen BK147.out 1
               have hfz295_2:=blk_frozen BK147.out 2
               have hfz295_3:=blk_frozen BK147.out 3
               have hfz295_4:=blk_frozen BK147.out 4
               have hcz296_0 : w291.cell? ⟨gb146,0,none⟩ = some (.int .i64 0):=(blk_cell BK146.out 0).trans rfl
               have hcz296_1 : w291.cell? ⟨gb146,1,none⟩ = some (.string (⟨#[]⟩ : ByteArray)):=(blk_cell BK146.out 1).trans rfl
               have hcz296_2 : w291.cell? ⟨gb146,2,none⟩ = some (.int .i64 0):=(blk_cell BK146.out 2).trans rfl
               have hcz296_3 : w291.cell? ⟨gb146,3,none⟩ = some (.int .i64 0):=(blk_cell BK146.out 3).trans rfl
               have hcz296_4 : w291.cell? ⟨gb146,4,none⟩ = some (.bool false):=(blk_cell BK146.out 4).trans rfl
               have hfz296_0:=blk_frozen BK146.out 0
               have hfz296_1:=blk_frozen BK146.out 1
               have hfz296_2:=blk_frozen BK146.out 2
               have hfz296_3:=blk_frozen BK146.out 3
               have hfz296_4:=blk_frozen BK146.out 4
               try go_wp2
               refine bodyPost_ret (results_ct rfl _ _ gb146 46 #[.int .i64 1,.string (a0.extract ((ji287) : Int).toNat (t158 : Int).toNat),.int .i64 0,.int .i64 a1,.bool false] (0,0) _ rfl (by (with_reducible repeat (first|refine blk_drewN ?_ _|refine blk_drew ?_|refine blk_alloc ?_ _));refine blk_put (cs:=#[.int .i64 1,.string (a0.extract ((ji287) : Int).toNat (t158 : Int).toNat),.int .i64 0,.int .i64 a1,.bool false]) ?_ 4 _ rfl;(with_reducible repeat (first|refine blk_drewN ?_ _|refine blk_drew ?_|refine blk_alloc ?_ _));refine blk_put (cs:=#[.int .i64 1,.string (a0.extract ((ji287) : Int).toNat (t158 : Int).toNat),.int .i64 0,.int .i64 0,.bool false]) ?_ 3 _ rfl;(with_reducible repeat (first|refine blk_drewN ?_ _|refine blk_drew ?_|refine blk_alloc ?_ _));refine blk_put (cs:=#[.int .i64 1,.string (a0.extract ((ji287) : Int).toNat (t158 : Int).toNat),.int .i64 0,.int .i64 0,.bool false]) ?_ 2 _ rfl;(with_reducible repeat (first|refine blk_drewN ?_ _|refine blk_drew ?_|refine blk_alloc ?_ _));refine blk_put (cs:=#[.int .i64 1,.string (⟨#[]⟩ : ByteArray),.int .i64 0,.int .i64 0,.bool false]) ?_ 1 _ rfl;(with_reducible repeat (first|refine blk_drewN ?_ _|refine blk_drew ?_|refine blk_alloc ?_ _));refine blk_put (cs:=#[.int .i64 0,.string (⟨#[]⟩ : ByteArray),.int .i64 0,.int .i64 0,.bool false]) ?_ 0 _ rfl;(with_reducible repeat (first|refine blk_drewN ?_ _|refine blk_drew ?_|refine blk_alloc ?_ _));refine blk_far ?_ NB146_147.out _;(with_reducible repeat (first|refine blk_drewN ?_ _|refine blk_drew ?_|refine blk_alloc ?_ _));refine blk_far ?_ NB146_147.out _;(with_reducible repeat (first|refine blk_drewN ?_ _|refine blk_drew ?_|refine blk_alloc ?_ _));exact BK146.out) Try.underlying46 rfl (by kernel_rfl)) rfl ?_
               exact ⟨by first|rfl|(simp [errW_none,errW_some] <;> rfl)|(simp only [← hji287];first|rfl|(simp [errW_none,errW_some] <;> rfl))|(simp [*,errW_none,errW_some] <;> rfl),by repeat (first|(with_reducible first|exact HB.out|apply below_alloc|apply pw_below_drewN|apply below_drew1|refine below_set ?_ GE146.out|refine below_set ?_ GE147.out)|exact HB.out)⟩
              ·replace c286:=Bool.eq_false_iff.mpr c286
               subst c286
               have H1 : (if 0 ≤ a1 then (if a1 ≤ (wrap64 (a1 + 1)) then (if (wrap64 (a1 + 1)) ≤ (a0.size : Int) then (if 0 = 0 then (if a1 ≤ (wrap64 (a1 + 1)) then (if (wrap64 (a1 + 1)) ≤ (a0.size : Int) then (some (6,a0.extract (a1 : Int).toNat ((wrap64 (a1 + 1)) : Int).toNat,0,a1,false,wrap64 (a1 + 1))) else (none)) else (none)) else (if 0 = 4 then (some (0,a0.extract (a1 : Int).toNat ((wrap64 (a1 + 1)) : Int).toNat,0,a1,false,(wrap64 (a1 + 1)))) else (if ((a0.extract (a1 : Int).toNat ((wrap64 (a1 + 1)) : Int).toNat).size : Int) > 20 then (if a1 ≤ (wrap64 (a1 + 1)) then (if (wrap64 (a1 + 1)) ≤ (a0.size : Int) then (some (6,a0.extract (a1 : Int).toNat ((wrap64 (a1 + 1)) : Int).toNat,0,a1,false,wrap64 (a1 + 1))) else (none)) else (none)) else (some (0,a0.extract (a1 : Int).toNat ((wrap64 (a1 + 1)) : Int).toNat,0,a1,false,(wrap64 (a1 + 1))))))) else (none)) else (none)) else (none)) = some (r1,r2,r3,r4,r5,r6):=by rw [if_neg (show ¬ (false = true) by decide)] at H;exact H
               clear H
               have H:=H1
               clear H1
               by_cases c297 : 0 ≤ a1
               rotate_left
               ·rw [if_neg c297] at H
                exact absurd H (by simp)
               rw [if_pos c297] at H
               have c297b0:=eq_true c297
               have c297b1 : decide (0 ≤ a1) = true:=decide_eq_true c297
               clear c297
               by_cases c298 : a1 ≤ (wrap64 (a1 + 1))
               rotate_left
               ·rw [if_neg c298] at H
                exact absurd H (by simp)
               rw [if_pos c298] at H
               have c298b0:=eq_true c298
               have c298b1 : decide (a1 ≤ (wrap64 (a1 + 1))) = true:=decide_eq_true c298
               by_cases c299 : (wrap64 (a1 + 1)) ≤ (a0.size : Int)
               rotate_left
               ·rw [if_neg c299] at H
                exact absurd H (by simp)
               rw [if_pos c299] at H
               have c299b0:=eq_true c299
               have c299b1 : decide ((wrap64 (a1 + 1)) ≤ (a0.size : Int)) = true:=decide_eq_true c299
               by_cases c300 : 0 = 0
               ·first|rw [if_pos c300] at H|rw [if_pos trivial] at H
                have c300b0 : (0 == 0) = true:=beq_iff_eq.mpr c300
                have c300b1 : (0 != 0) = false:=bne_eq_false_iff_eq.mpr c300
                clear c300
                have c301b0:=eq_true (of_decide_eq_true (by first|(with_reducible assumption)|assumption) : 0 ≤ a1)
                by_cases c302 : a1 ≤ (wrap64 (a1 + 1))
                rotate_left
                ·rw [if_neg c302] at H
                 exact absurd H (by simp)
                rw [if_pos c302] at H
                have c302b0:=eq_true c302
                have c302b1 : decide (a1 ≤ (wrap64 (a1 + 1))) = true:=decide_eq_true c302
                by_cases c303 : (wrap64 (a1 + 1)) ≤ (a0.size : Int)
                rotate_left
                ·rw [if_neg c303] at H
                 exact absurd H (by simp)
                rw [if_pos c303] at H
                have c303b0:=eq_true c303
                have c303b1 : decide ((wrap64 (a1 + 1)) ≤ (a0.size : Int)) = true:=decide_eq_true c303
                simp only [Option.some.injEq,Prod.mk.injEq] at H
                obtain ⟨rfl,rfl,rfl,rfl,rfl,rfl⟩:=H
                have hnb304:=NB147_146.out
                have hnc304:=NB146_147.out
                have hcz305_0 : wc.cell? ⟨gb147,0,none⟩ = some (.int .i64 0):=(blk_cell BK147.out 0).trans rfl
                have hcz305_1 : wc.cell? ⟨gb147,1,none⟩ = some (.string (⟨#[]⟩ : ByteArray)):=(blk_cell BK147.out 1).trans rfl
                have hcz305_2 : wc.cell? ⟨gb147,2,none⟩ = some (.int .i64 0):=(blk_cell BK147.out 2).trans rfl
                have hcz305_3 : wc.cell? ⟨gb147,3,none⟩ = some (.int .i64 a1):=(blk_cell BK147.out 3).trans rfl
                have hcz305_4 : wc.cell? ⟨gb147,4,none⟩ = some (.bool false):=(blk_cell BK147.out 4).trans rfl
                have hfz305_0:=blk_frozen BK147.out 0
                have hfz305_1:=blk_frozen BK147.out 1
                have hfz305_2:=blk_frozen BK147.out 2
                have hfz305_3:=blk_frozen BK147.out 3
                have hfz305_4:=blk_frozen BK147.out 4
                try go_wp2
                have n0_ : Aside0 ((wc.setCell ⟨gb147,1,none⟩ (.string (a0.extract (a1 : Int).toNat ((wrap64 (a1 + 1)) : Int).toNat))).heap[gb146]? = some (.cells #[.int .i64 0,.string (⟨#[]⟩ : ByteArray),.int .i64 0,.int .i64 0,.bool false] 46 (0,0))):=⟨by (with_reducible repeat (first|refine blk_drewN ?_ _|refine blk_drew ?_|refine blk_alloc ?_ _));refine blk_far ?_ NB146_147.out _;(with_reducible repeat (first|refine blk_drewN ?_ _|refine blk_drew ?_|refine blk_alloc ?_ _));exact BK146.out⟩
                have n1_ : Aside0 ((wc.setCell ⟨gb147,1,none⟩ (.string (a0.extract (a1 : Int).toNat ((wrap64 (a1 + 1)) : Int).toNat))).heap[gb147]? = some (.cells #[.int .i64 0,.string (a0.extract (a1 : Int).toNat ((wrap64 (a1 + 1)) : Int).toNat),.int .i64 0,.int .i64 a1,.bool false] 46 (0,0))):=⟨by (with_reducible repeat (first|refine blk_drewN ?_ _|refine blk_drew ?_|refine blk_alloc ?_ _));refine blk_put (cs:=#[.int .i64 0,.string (⟨#[]⟩ : ByteArray),.int .i64 0,.int .i64 a1,.bool false]) ?_ 1 _ rfl;(with_reducible repeat (first|refine blk_drewN ?_ _|refine blk_drew ?_|refine blk_alloc ?_ _));exact BK147.out⟩
                have n2_ : Aside0 (Below w.heap.size w (wc.setCell ⟨gb147,1,none⟩ (.string (a0.extract (a1 : Int).toNat ((wrap64 (a1 + 1)) : Int).toNat)))):=⟨by repeat (first|(with_reducible first|exact HB.out|apply below_alloc|apply pw_below_drewN|apply below_drew1|refine below_set ?_ GE146.out|refine below_set ?_ GE147.out)|exact HB.out)⟩
                (try clear BK146)
                (try clear BK147)
                (try clear HB)
                (try simp only [setCell_drewN])
                generalize (wc.setCell ⟨gb147,1,none⟩ (.string (a0.extract (a1 : Int).toNat ((wrap64 (a1 + 1)) : Int).toNat))) = w306 at n0_ n1_ n2_ ⊢
                have BK146:=n0_
                have BK147:=n1_
                have HB:=n2_
                clear n0_ n1_ n2_
                have n0_:=Aside0.mk (blk_drew BK146.out)
                have n1_:=Aside0.mk (blk_drew BK147.out)
                have n2_:=Aside0.mk (below_drew1 HB.out)
                clear BK146
                clear BK147
                clear HB
                have BK146:=n0_
                have BK147:=n1_
                have HB:=n2_
                clear n0_ n1_ n2_
                refine start_ (n:=9) (S:=fun w' => True) (ds:=[]) #[false,false,false,false,false,false,false,false,false] (by kernel_rfl) rfl rfl trivial (fun hHeld => ?_);refine with_tabW impl_nextSign.tab36 impl_nextSign.bits36 (fun HT_ HW_ => ?_)
                generalize w306.drew = w307 at BK146 BK147 HB hHeld ⊢
                refine pure_ (i:=0) (N:=some 149) (v:=?_) (a':=?_) #[true,false,false,false,false,false,false,false,false] rfl rfl (any_of HT_.out (by kernel_rfl)) (fun _ _ _ h => h) (Or.inl ⟨by rfl,?_⟩) ?_ ?_
                rotate_left
                ·intro w'
                 go_simp
                 with_reducible rfl
                rotate_left
                ·simp only [Act.put,List.setIfInBounds_toArray,List.set_cons_zero,List.set_cons_succ,i64_w,i32_w]
                 rfl
                refine pure_ (i:=1) (N:=some 150) (v:=?_) (a':=?_) #[true,true,false,false,false,false,false,false,false] rfl rfl (any_of HT_.out (by kernel_rfl)) (fun _ _ _ h => h) (Or.inl ⟨by rfl,?_⟩) ?_ ?_
                rotate_left
                ·intro w'
                 go_simp
                 with_reducible rfl
                rotate_left
                ·simp only [Act.put,List.setIfInBounds_toArray,List.set_cons_zero,List.set_cons_succ,i64_w,i32_w]
                 rfl
                refine pure_ (i:=2) (N:=some 151) (v:=?_) (a':=?_) #[true,true,true,false,false,false,false,false,false] rfl rfl (any_of HT_.out (by kernel_rfl)) (fun _ _ _ h => h) (Or.inl ⟨by rfl,?_⟩) ?_ ?_
                rotate_left
                ·intro w'
                 go_simp
                 with_reducible rfl
                rotate_left
                ·simp only [Act.put,List.setIfInBounds_toArray,List.set_cons_zero,List.set_cons_succ,i64_w,i32_w]
                 rfl
                refine pure_ (i:=3) (N:=some 152) (v:=?_) (a':=?_) #[true,true,true,true,false,false,false,false,false] rfl rfl (any_of HT_.out (by kernel_rfl)) (fun _ _ _ h => h) (Or.inl ⟨by rfl,?_⟩) ?_ ?_
                rotate_left
                ·intro w'
                 go_simp
                 with_reducible rfl
                rotate_left
                ·simp only [Act.put,List.setIfInBounds_toArray,List.set_cons_zero,List.set_cons_succ,i64_w,i32_w]
                 rfl
                refine pure_ (i:=4) (N:=some 153) (v:=?_) (a':=?_) #[true,true,true,true,true,false,false,false,false] rfl rfl (any_of HT_.out (by kernel_rfl)) (fun _ _ _ h => h) (Or.inl ⟨by rfl,?_⟩) ?_ ?_
                rotate_left
                ·intro w'
                 go_simp
                 with_reducible rfl
                rotate_left
                ·simp only [Act.put,List.setIfInBounds_toArray,List.set_cons_zero,List.set_cons_succ,i64_w,i32_w]
                 rfl
                refine pure_ (i:=5) (N:=some 154) (v:=?_) (a':=?_) #[true,true,true,true,true,true,false,false,false] rfl rfl (any_of HT_.out (by kernel_rfl)) (fun _ _ _ h => h) (Or.inl ⟨by rfl,?_⟩) ?_ ?_
                rotate_left
                ·intro w'
                 go_simp
                 with_reducible rfl
                rotate_left
                ·simp only [Act.put,List.setIfInBounds_toArray,List.set_cons_zero,List.set_cons_succ,i64_w,i32_w]
                 rfl
                refine one_ (i:=6) (N:=none) #[true,true,true,true,true,true,true,false,false] rfl rfl (one_of HT_.out (by kernel_rfl)) (by decide) (fun K hK => ?_)
                have hs308 : w307.cell? ⟨gb147,0,none⟩ = some (.int .i64 0):=(blk_cell BK147.out 0).trans rfl
                have hfs308:=blk_frozen BK147.out 0
                have hns308_0:=NB146_147.out
                have hms308_0:=NB147_146.out
                refine skip_ (w1:=?_) (by rfl) rfl ?_ ?_
                rotate_left
                ·go_simp
                 rfl
                refine hK.out _ _ trivial (fun hHeld => ?_)
                clear hK K
                refine pure_ (i:=7) (N:=some 155) (v:=?_) (a':=?_) #[true,true,true,true,true,true,true,true,false] rfl rfl (any_of HT_.out (by kernel_rfl)) (fun _ _ _ h => h) (Or.inl ⟨by rfl,?_⟩) ?_ ?_
                rotate_left
                ·intro w'
                 go_simp
                 with_reducible rfl
                rotate_left
                ·simp only [Act.put,List.setIfInBounds_toArray,List.set_cons_zero,List.set_cons_succ,i64_w,i32_w]
                 rfl
                refine one_ (i:=8) (N:=none) #[true,true,true,true,true,true,true,true,true] rfl rfl (one_of HT_.out (by kernel_rfl)) (by decide) (fun K hK => ?_)
                have hs309 : w307.cell? ⟨gb147,1,none⟩ = some (.string (a0.extract (a1 : Int).toNat ((wrap64 (a1 + 1)) : Int).toNat)):=(blk_cell BK147.out 1).trans rfl
                have hfs309:=blk_frozen BK147.out 1
                have hns309_0:=NB146_147.out
                have hms309_0:=NB147_146.out
                refine skip_ (w1:=?_) (by rfl) rfl ?_ ?_
                rotate_left
                ·go_simp
                 rfl
                refine hK.out _ _ trivial (fun hHeld => ?_)
                clear hK K
                refine done_ (done_of HT_.out (by kernel_rfl)) ?_
                have hcz310_0 : w307.cell? ⟨gb147,0,none⟩ = some (.int .i64 0):=(blk_cell BK147.out 0).trans rfl
                have hcz310_1 : w307.cell? ⟨gb147,1,none⟩ = some (.string (a0.extract (a1 : Int).toNat ((wrap64 (a1 + 1)) : Int).toNat)):=(blk_cell BK147.out 1).trans rfl
                have hcz310_2 : w307.cell? ⟨gb147,2,none⟩ = some (.int .i64 0):=(blk_cell BK147.out 2).trans rfl
                have hcz310_3 : w307.cell? ⟨gb147,3,none⟩ = some (.int .i64 a1):=(blk_cell BK147.out 3).trans rfl
                have hcz310_4 : w307.cell? ⟨gb147,4,none⟩ = some (.bool false):=(blk_cell BK147.out 4).trans rfl
                have hfz310_0:=blk_frozen BK147.out 0
                have hfz310_1:=blk_frozen BK147.out 1
                have hfz310_2:=blk_frozen BK147.out 2
                have hfz310_3:=blk_frozen BK147.out 3
                have hfz310_4:=blk_frozen BK147.out 4
                have hcz311_0 : w307.cell? ⟨gb146,0,none⟩ = some (.int .i64 0):=(blk_cell BK146.out 0).trans rfl
                have hcz311_1 : w307.cell? ⟨gb146,1,none⟩ = some (.string (⟨#[]⟩ : ByteArray)):=(blk_cell BK146.out 1).trans rfl
                have hcz311_2 : w307.cell? ⟨gb146,2,none⟩ = some (.int .i64 0):=(blk_cell BK146.out 2).trans rfl
                have hcz311_3 : w307.cell? ⟨gb146,3,none⟩ = some (.int .i64 0):=(blk_cell BK146.out 3).trans rfl
                have hcz311_4 : w307.cell? ⟨gb146,4,none⟩ = some (.bool false):=(blk_cell BK146.out 4).trans rfl
                have hfz311_0:=blk_frozen BK146.out 0
                have hfz311_1:=blk_frozen BK146.out 1
                have hfz311_2:=blk_frozen BK146.out 2
                have hfz311_3:=blk_frozen BK146.out 3
                have hfz311_4:=blk_frozen BK146.out 4
                try go_wp2
                refine bodyPost_ret (results_ct rfl _ _ gb146 46 #[.int .i64 6,.string (a0.extract (a1 : Int).toNat ((wrap64 (a1 + 1)) : Int).toNat),.int .i64 0,.int .i64 a1,.bool false] (0,0) _ rfl (by (with_reducible repeat (first|refine blk_drewN ?_ _|refine blk_drew ?_|refine blk_alloc ?_ _));refine blk_put (cs:=#[.int .i64 6,.string (a0.extract (a1 : Int).toNat ((wrap64 (a1 + 1)) : Int).toNat),.int .i64 0,.int .i64 a1,.bool false]) ?_ 4 _ rfl;(with_reducible repeat (first|refine blk_drewN ?_ _|refine blk_drew ?_|refine blk_alloc ?_ _));refine blk_put (cs:=#[.int .i64 6,.string (a0.extract (a1 : Int).toNat ((wrap64 (a1 + 1)) : Int).toNat),.int .i64 0,.int .i64 0,.bool false]) ?_ 3 _ rfl;(with_reducible repeat (first|refine blk_drewN ?_ _|refine blk_drew ?_|refine blk_alloc ?_ _));refine blk_put (cs:=#[.int .i64 6,.string (a0.extract (a1 : Int).toNat ((wrap64 (a1 + 1)) : Int).toNat),.int .i64 0,.int .i64 0,.bool false]) ?_ 2 _ rfl;(with_reducible repeat (first|refine blk_drewN ?_ _|refine blk_drew ?_|refine blk_alloc ?_ _));refine blk_put (cs:=#[.int .i64 6,.string (⟨#[]⟩ : ByteArray),.int .i64 0,.int .i64 0,.bool false]) ?_ 1 _ rfl;(with_reducible repeat (first|refine blk_drewN ?_ _|refine blk_drew ?_|refine blk_alloc ?_ _));refine blk_put (cs:=#[.int .i64 0,.string (⟨#[]⟩ : ByteArray),.int .i64 0,.int .i64 0,.bool false]) ?_ 0 _ rfl;(with_reducible repeat (first|refine blk_drewN ?_ _|refine blk_drew ?_|refine blk_alloc ?_ _));refine blk_far ?_ NB146_147.out _;(with_reducible repeat (first|refine blk_drewN ?_ _|refine blk_drew ?_|refine blk_alloc ?_ _));refine blk_far ?_ NB146_147.out _;(with_reducible repeat (first|refine blk_drewN ?_ _|refine blk_drew ?_|refine blk_alloc ?_ _));exact BK146.out) Try.underlying46 rfl (by kernel_rfl)) rfl ?_
                exact ⟨by first|rfl|(simp [errW_none,errW_some] <;> rfl)|(simp [*,errW_none,errW_some] <;> rfl),by repeat (first|(with_reducible first|exact HB.out|apply below_alloc|apply pw_below_drewN|apply below_drew1|refine below_set ?_ GE146.out|refine below_set ?_ GE147.out)|exact HB.out)⟩
               ·exact absurd rfl c300
           ·rw [if_neg c276] at H
            have c276b0 : ((bt a0 a1) == 39) = false:=beq_eq_false_iff_ne.mpr c276
            have c276b1 : ((bt a0 a1) != 39) = true:=bne_iff_ne.mpr c276
            by_cases c331 : 0 ≤ a1
            rotate_left
            ·rw [if_neg c331] at H
             exact absurd H (by simp)
            rw [if_pos c331] at H
            have c331b0:=eq_true c331
            have c331b1 : decide (0 ≤ a1) = true:=decide_eq_true c331
            clear c331
            by_cases c332 : a1 ≤ (wrap64 (a1 + 1))
            rotate_left
            ·rw [if_neg c332] at H
             exact absurd H (by simp)
            rw [if_pos c332] at H
            have c332b0:=eq_true c332
            have c332b1 : decide (a1 ≤ (wrap64 (a1 + 1))) = true:=decide_eq_true c332
            by_cases c333 : (wrap64 (a1 + 1)) ≤ (a0.size : Int)
            rotate_left
            ·rw [if_neg c333] at H
             exact absurd H (by simp)
            rw [if_pos c333] at H
            have c333b0:=eq_true c333
            have c333b1 : decide ((wrap64 (a1 + 1)) ≤ (a0.size : Int)) = true:=decide_eq_true c333
            by_cases c334 : 0 = 0
            ·first|rw [if_pos c334] at H|rw [if_pos trivial] at H
             have c334b0 : (0 == 0) = true:=beq_iff_eq.mpr c334
             have c334b1 : (0 != 0) = false:=bne_eq_false_iff_eq.mpr c334
             clear c334
             have c335b0:=eq_true (of_decide_eq_true (by first|(with_reducible assumption)|assumption) : 0 ≤ a1)
             by_cases c336 : a1 ≤ (wrap64 (a1 + 1))
             rotate_left
             ·rw [if_neg c336] at H
              exact absurd H (by simp)
             rw [if_pos c336] at H
             have c336b0:=eq_true c336
             have c336b1 : decide (a1 ≤ (wrap64 (a1 + 1))) = true:=decide_eq_true c336
             by_cases c337 : (wrap64 (a1 + 1)) ≤ (a0.size : Int)
             rotate_left
             ·rw [if_neg c337] at H
              exact absurd H (by simp)
             rw [if_pos c337] at H
             have c337b0:=eq_true c337
             have c337b1 : decide ((wrap64 (a1 + 1)) ≤ (a0.size : Int)) = true:=decide_eq_true c337
             simp only [Option.some.injEq,Prod.mk.injEq] at H
             obtain ⟨rfl,rfl,rfl,rfl,rfl,rfl⟩:=H
             try go_wp2_with (first|((with_reducible refine gate_callee (f:=40) rfl ?_);refine goesL_ (some 93) rfl rfl Try.func40 (by kernel_rfl) rfl #[.string (⟨#[40,41,91,93,44,124]⟩ : ByteArray),.int .u8 (bt a0 a1)] rfl (by (try simp only [List.map_toArray,List.map_cons,List.map_nil]);first|done|rfl|(simp only [List.length_drop,List.length_take];rfl)) ?_;(with_reducible refine (fk_strings_IndexByte.calls kj197 (⟨#[40,41,91,93,44,124]⟩ : ByteArray) (bt a0 a1) t157 _ A236.out).mono ?_);rintro e w338 ⟨rfl,hb⟩;refine ⟨_,rfl,?_⟩;have n0_:=Aside0.mk (blk_below (g:=gb146) (o:=.cells #[.int .i64 0,.string (⟨#[]⟩ : ByteArray),.int .i64 0,.int .i64 0,.bool false] 46 (0,0)) (by (with_reducible repeat (first|refine blk_drewN ?_ _|refine blk_drew ?_|refine blk_alloc ?_ _));exact BK146.out) hb);have n1_:=Aside0.mk (blk_below (g:=gb147) (o:=.cells #[.int .i64 0,.string (⟨#[]⟩ : ByteArray),.int .i64 0,.int .i64 a1,.bool false] 46 (0,0)) (by (with_reducible repeat (first|refine blk_drewN ?_ _|refine blk_drew ?_|refine blk_alloc ?_ _));exact BK147.out) hb);have n2_:=Aside0.mk (below_step (by repeat (first|(with_reducible first|exact HB.out|apply below_alloc|apply pw_below_drewN|apply below_drew1|refine below_set ?_ GE146.out|refine below_set ?_ GE147.out)|exact HB.out)) hb);clear BK146;clear BK147;clear HB;have BK146:=n0_;have BK147:=n1_;have HB:=n2_;clear n0_ n1_ n2_;(try clear hb);(try clear hb2);(try clear hk);(try clear hi);have hnb339:=NB147_146.out;have hnc339:=NB146_147.out;have hcz340_0 : w338.cell? ⟨gb147,0,none⟩ = some (.int .i64 0):=(blk_cell BK147.out 0).trans rfl;have hcz340_1 : w338.cell? ⟨gb147,1,none⟩ = some (.string (⟨#[]⟩ : ByteArray)):=(blk_cell BK147.out 1).trans rfl;have hcz340_2 : w338.cell? ⟨gb147,2,none⟩ = some (.int .i64 0):=(blk_cell BK147.out 2).trans rfl;have hcz340_3 : w338.cell? ⟨gb147,3,none⟩ = some (.int .i64 a1):=(blk_cell BK147.out 3).trans rfl;have hcz340_4 : w338.cell? ⟨gb147,4,none⟩ = some (.bool false):=(blk_cell BK147.out 4).trans rfl;have hfz340_0:=blk_frozen BK147.out 0;have hfz340_1:=blk_frozen BK147.out 1;have hfz340_2:=blk_frozen BK147.out 2;have hfz340_3:=blk_frozen BK147.out 3;have hfz340_4:=blk_frozen BK147.out 4))
             have n0_ : Aside0 ((w338.setCell ⟨gb147,1,none⟩ (.string (a0.extract (a1 : Int).toNat ((wrap64 (a1 + 1)) : Int).toNat))).heap[gb146]? = some (.cells #[.int .i64 0,.string (⟨#[]⟩ : ByteArray),.int .i64 0,.int .i64 0,.bool false] 46 (0,0))):=⟨by (with_reducible repeat (first|refine blk_drewN ?_ _|refine blk_drew ?_|refine blk_alloc ?_ _));refine blk_far ?_ NB146_147.out _;(with_reducible repeat (first|refine blk_drewN ?_ _|refine blk_drew ?_|refine blk_alloc ?_ _));exact BK146.out⟩
             have n1_ : Aside0 ((w338.setCell ⟨gb147,1,none⟩ (.string (a0.extract (a1 : Int).toNat ((wrap64 (a1 + 1)) : Int).toNat))).heap[gb147]? = some (.cells #[.int .i64 0,.string (a0.extract (a1 : Int).toNat ((wrap64 (a1 + 1)) : Int).toNat),.int .i64 0,.int .i64 a1,.bool false] 46 (0,0))):=⟨by (with_reducible repeat (first|refine blk_drewN ?_ _|refine blk_drew ?_|refine blk_alloc ?_ _));refine blk_put (cs:=#[.int .i64 0,.string (⟨#[]⟩ : ByteArray),.int .i64 0,.int .i64 a1,.bool false]) ?_ 1 _ rfl;(with_reducible repeat (first|refine blk_drewN ?_ _|refine blk_drew ?_|refine blk_alloc ?_ _));exact BK147.out⟩
             have n2_ : Aside0 (Below w.heap.size w (w338.setCell ⟨gb147,1,none⟩ (.string (a0.extract (a1 : Int).toNat ((wrap64 (a1 + 1)) : Int).toNat)))):=⟨by repeat (first|(with_reducible first|exact HB.out|apply below_alloc|apply pw_below_drewN|apply below_drew1|refine below_set ?_ GE146.out|refine below_set ?_ GE147.out)|exact HB.out)⟩
             (try clear BK146)
             (try clear BK147)
             (try clear HB)
             (try simp only [setCell_drewN])
             generalize (w338.setCell ⟨gb147,1,none⟩ (.string (a0.extract (a1 : Int).toNat ((wrap64 (a1 + 1)) : Int).toNat))) = w341 at n0_ n1_ n2_ ⊢
             have BK146:=n0_
             have BK147:=n1_
             have HB:=n2_
             clear n0_ n1_ n2_
             have n0_:=Aside0.mk (blk_drew BK146.out)
             have n1_:=Aside0.mk (blk_drew BK147.out)
             have n2_:=Aside0.mk (below_drew1 HB.out)
             clear BK146
             clear BK147
             clear HB
             have BK146:=n0_
             have BK147:=n1_
             have HB:=n2_
             clear n0_ n1_ n2_
             refine start_ (n:=9) (S:=fun w' => True) (ds:=[]) #[false,false,false,false,false,false,false,false,false] (by kernel_rfl) rfl rfl trivial (fun hHeld => ?_);refine with_tabW impl_nextSign.tab36 impl_nextSign.bits36 (fun HT_ HW_ => ?_)
             generalize w341.drew = w342 at BK146 BK147 HB hHeld ⊢
             refine pure_ (i:=0) (N:=some 149) (v:=?_) (a':=?_) #[true,false,false,false,false,false,false,false,false] rfl rfl (any_of HT_.out (by kernel_rfl)) (fun _ _ _ h => h) (Or.inl ⟨by rfl,?_⟩) ?_ ?_
             rotate_left
             ·intro w'
              go_simp
              with_reducible rfl
             rotate_left
             ·simp only [Act.put,List.setIfInBounds_toArray,List.set_cons_zero,List.set_cons_succ,i64_w,i32_w]
              rfl
             refine pure_ (i:=1) (N:=some 150) (v:=?_) (a':=?_) #[true,true,false,false,false,false,false,false,false] rfl rfl (any_of HT_.out (by kernel_rfl)) (fun _ _ _ h => h) (Or.inl ⟨by rfl,?_⟩) ?_ ?_
             rotate_left
             ·intro w'
              go_simp
              with_reducible rfl
             rotate_left
             ·simp only [Act.put,List.setIfInBounds_toArray,List.set_cons_zero,List.set_cons_succ,i64_w,i32_w]
              rfl
             refine pure_ (i:=2) (N:=some 151) (v:=?_) (a':=?_) #[true,true,true,false,false,false,false,false,false] rfl rfl (any_of HT_.out (by kernel_rfl)) (fun _ _ _ h => h) (Or.inl ⟨by rfl,?_⟩) ?_ ?_
             rotate_left
             ·intro w'
              go_simp
              with_reducible rfl
             rotate_left
             ·simp only [Act.put,List.setIfInBounds_toArray,List.set_cons_zero,List.set_cons_succ,i64_w,i32_w]
              rfl
             refine pure_ (i:=3) (N:=some 152) (v:=?_) (a':=?_) #[true,true,true,true,false,false,false,false,false] rfl rfl (any_of HT_.out (by kernel_rfl)) (fun _ _ _ h => h) (Or.inl ⟨by rfl,?_⟩) ?_ ?_
             rotate_left
             ·intro w'
              go_simp
              with_reducible rfl
             rotate_left
             ·simp only [Act.put,List.setIfInBounds_toArray,List.set_cons_zero,List.set_cons_succ,i64_w,i32_w]
              rfl
             refine pure_ (i:=4) (N:=some 153) (v:=?_) (a':=?_) #[true,true,true,true,true,false,false,false,false] rfl rfl (any_of HT_.out (by kernel_rfl)) (fun _ _ _ h => h) (Or.inl ⟨by rfl,?_⟩) ?_ ?_
             rotate_left
             ·intro w'
              go_simp
              with_reducible rfl
             rotate_left
             ·simp only [Act.put,List.setIfInBounds_toArray,List.set_cons_zero,List.set_cons_succ,i64_w,i32_w]
              rfl
             refine pure_ (i:=5) (N:=some 154) (v:=?_) (a':=?_) #[true,true,true,true,true,true,false,false,false] rfl rfl (any_of HT_.out (by kernel_rfl)) (fun _ _ _ h => h) (Or.inl ⟨by rfl,?_⟩) ?_ ?_
             rotate_left
             ·intro w'
              go_simp
              with_reducible rfl
             rotate_left
             ·simp only [Act.put,List.setIfInBounds_toArray,List.set_cons_zero,List.set_cons_succ,i64_w,i32_w]
              rfl
             refine one_ (i:=6) (N:=none) #[true,true,true,true,true,true,true,false,false] rfl rfl (one_of HT_.out (by kernel_rfl)) (by decide) (fun K hK => ?_)
             have hs343 : w342.cell? ⟨gb147,0,none⟩ = some (.int .i64 0):=(blk_cell BK147.out 0).trans rfl
             have hfs343:=blk_frozen BK147.out 0
             have hns343_0:=NB146_147.out
             have hms343_0:=NB147_146.out
             refine skip_ (w1:=?_) (by rfl) rfl ?_ ?_
             rotate_left
             ·go_simp
              rfl
             refine hK.out _ _ trivial (fun hHeld => ?_)
             clear hK K
             refine pure_ (i:=7) (N:=some 155) (v:=?_) (a':=?_) #[true,true,true,true,true,true,true,true,false] rfl rfl (any_of HT_.out (by kernel_rfl)) (fun _ _ _ h => h) (Or.inl ⟨by rfl,?_⟩) ?_ ?_
             rotate_left
             ·intro w'
              go_simp
              with_reducible rfl
             rotate_left
             ·simp only [Act.put,List.setIfInBounds_toArray,List.set_cons_zero,List.set_cons_succ,i64_w,i32_w]
              rfl
             refine one_ (i:=8) (N:=none) #[true,true,true,true,true,true,true,true,true] rfl rfl (one_of HT_.out (by kernel_rfl)) (by decide) (fun K hK => ?_)
             have hs344 : w342.cell? ⟨gb147,1,none⟩ = some (.string (a0.extract (a1 : Int).toNat ((wrap64 (a1 + 1)) : Int).toNat)):=(blk_cell BK147.out 1).trans rfl
             have hfs344:=blk_frozen BK147.out 1
             have hns344_0:=NB146_147.out
             have hms344_0:=NB147_146.out
             refine skip_ (w1:=?_) (by rfl) rfl ?_ ?_
             rotate_left
             ·go_simp
              rfl
             refine hK.out _ _ trivial (fun hHeld => ?_)
             clear hK K
             refine done_ (done_of HT_.out (by kernel_rfl)) ?_
             have hcz345_0 : w342.cell? ⟨gb147,0,none⟩ = some (.int .i64 0):=(blk_cell BK147.out 0).trans rfl
             have hcz345_1 : w342.cell? ⟨gb147,1,none⟩ = some (.string (a0.extract (a1 : Int).toNat ((wrap64 (a1 + 1)) : Int).toNat)):=(blk_cell BK147.out 1).trans rfl
             have hcz345_2 : w342.cell? ⟨gb147,2,none⟩ = some (.int .i64 0):=(blk_cell BK147.out 2).trans rfl
             have hcz345_3 : w342.cell? ⟨gb147,3,none⟩ = some (.int .i64 a1):=(blk_cell BK147.out 3).trans rfl
             have hcz345_4 : w342.cell? ⟨gb147,4,none⟩ = some (.bool false):=(blk_cell BK147.out 4).trans rfl
             have hfz345_0:=blk_frozen BK147.out 0
             have hfz345_1:=blk_frozen BK147.out 1
             have hfz345_2:=blk_frozen BK147.out 2
             have hfz345_3:=blk_frozen BK147.out 3
             have hfz345_4:=blk_frozen BK147.out 4
             have hcz346_0 : w342.cell? ⟨gb146,0,none⟩ = some (.int .i64 0):=(blk_cell BK146.out 0).trans rfl
             have hcz346_1 : w342.cell? ⟨gb146,1,none⟩ = some (.string (⟨#[]⟩ : ByteArray)):=(blk_cell BK146.out 1).trans rfl
             have hcz346_2 : w342.cell? ⟨gb146,2,none⟩ = some (.int .i64 0):=(blk_cell BK146.out 2).trans rfl
             have hcz346_3 : w342.cell? ⟨gb146,3,none⟩ = some (.int .i64 0):=(blk_cell BK146.out 3).trans rfl
             have hcz346_4 : w342.cell? ⟨gb146,4,none⟩ = some (.bool false):=(blk_cell BK146.out 4).trans rfl
             have hfz346_0:=blk_frozen BK146.out 0
             have hfz346_1:=blk_frozen BK146.out 1
             have hfz346_2:=blk_frozen BK146.out 2
             have hfz346_3:=blk_frozen BK146.out 3
             have hfz346_4:=blk_frozen BK146.out 4
             try go_wp2
             refine bodyPost_ret (results_ct rfl _ _ gb146 46 #[.int .i64 6,.string (a0.extract (a1 : Int).toNat ((wrap64 (a1 + 1)) : Int).toNat),.int .i64 0,.int .i64 a1,.bool false] (0,0) _ rfl (by (with_reducible repeat (first|refine blk_drewN ?_ _|refine blk_drew ?_|refine blk_alloc ?_ _));refine blk_put (cs:=#[.int .i64 6,.string (a0.extract (a1 : Int).toNat ((wrap64 (a1 + 1)) : Int).toNat),.int .i64 0,.int .i64 a1,.bool false]) ?_ 4 _ rfl;(with_reducible repeat (first|refine blk_drewN ?_ _|refine blk_drew ?_|refine blk_alloc ?_ _));refine blk_put (cs:=#[.int .i64 6,.string (a0.extract (a1 : Int).toNat ((wrap64 (a1 + 1)) : Int).toNat),.int .i64 0,.int .i64 0,.bool false]) ?_ 3 _ rfl;(with_reducible repeat (first|refine blk_drewN ?_ _|refine blk_drew ?_|refine blk_alloc ?_ _));refine blk_put (cs:=#[.int .i64 6,.string (a0.extract (a1 : Int).toNat ((wrap64 (a1 + 1)) : Int).toNat),.int .i64 0,.int .i64 0,.bool false]) ?_ 2 _ rfl;(with_reducible repeat (first|refine blk_drewN ?_ _|refine blk_drew ?_|refine blk_alloc ?_ _));refine blk_put (cs:=#[.int .i64 6,.string (⟨#[]⟩ : ByteArray),.int .i64 0,.int .i64 0,.bool false]) ?_ 1 _ rfl;(with_reducible repeat (first|refine blk_drewN ?_ _|refine blk_drew ?_|refine blk_alloc ?_ _));refine blk_put (cs:=#[.int .i64 0,.string (⟨#[]⟩ : ByteArray),.int .i64 0,.int .i64 0,.bool false]) ?_ 0 _ rfl;(with_reducible repeat (first|refine blk_drewN ?_ _|refine blk_drew ?_|refine blk_alloc ?_ _));refine blk_far ?_ NB146_147.out _;(with_reducible repeat (first|refine blk_drewN ?_ _|refine blk_drew ?_|refine blk_alloc ?_ _));refine blk_far ?_ NB146_147.out _;(with_reducible repeat (first|refine blk_drewN ?_ _|refine blk_drew ?_|refine blk_alloc ?_ _));exact BK146.out) Try.underlying46 rfl (by kernel_rfl)) rfl ?_
             exact ⟨by first|rfl|(simp [errW_none,errW_some] <;> rfl)|(simp [*,errW_none,errW_some] <;> rfl),by repeat (first|(with_reducible first|exact HB.out|apply below_alloc|apply pw_below_drewN|apply below_drew1|refine below_set ?_ GE146.out|refine below_set ?_ GE147.out)|exact HB.out)⟩
            ·exact absurd rfl c334

end Go.Proofs.Ytbkibnjpolnajaa.KSn
