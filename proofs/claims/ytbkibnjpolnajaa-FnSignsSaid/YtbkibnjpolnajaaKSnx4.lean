/- Contracts of functions of the program and of the reference, each a Lean function and the proof that Go comes to its answer. Written by wip/pp/pp.py out of the kit's print, for this claim; nothing of it is trusted: Lean checks it. -/
import Derived.Test.YtbkibnjpolnajaaKSnx0
import Derived.Test.YtbkibnjpolnajaaKSnx2
import Derived.Test.YtbkibnjpolnajaaKSnx3
namespace Go.Proofs.Ytbkibnjpolnajaa.KSn
open Go.RowKit Go.Proofs.YtbkibnjpolnajaaW.PrintWords Go.Proofs.YtbkibnjpolnajaaW.PrintLast Go.Proofs.YtbkibnjpolnajaaW.PrintMore
attribute [local go_sem] max2_int min2_int max_two min_two max_three min_three max_four min_four   -- for this text's walks alone
set_option linter.unusedVariables false
set_option linter.unusedSimpArgs false

set_option linter.unusedSectionVars false
variable [fk_impl_run] [fk_strings_IndexByte] [fk_spec_SymbolByte]
/-! ### spec_l05Sign: function 54 -/
mutual
def spec_l05Sign.j0 : Nat → ByteArray → Int → Int → Int → Bool → Int → ByteArray → Int → Int → Bool → Option (Int × ByteArray × Int × Int × Bool × Int)
 | 0,_,_,_,_,_,_,_,_,_,_ => none
 | k + 1,x0,x1,x6,x8,x26,x113000,x113001,x113002,x113003,x113004 => if x26 = true then ((spec_l05Run.f k x0 x1).bind fun t115 => (if (wrap64 (t115 - x1)) ≤ 20 then ((spec_l05Great.f x6).bind fun t116 => (if t116 = true then (if 0 ≤ x1 then (if x1 ≤ t115 then (if t115 ≤ (x0.size : Int) then (some (2,x0.extract (x1 : Int).toNat (t115 : Int).toNat,x113002,x113003,x113004,t115)) else (none)) else (none)) else (none)) else (if 0 ≤ x1 then (if x1 ≤ t115 then (if t115 ≤ (x0.size : Int) then (some (1,x0.extract (x1 : Int).toNat (t115 : Int).toNat,x113002,x113003,x113004,t115)) else (none)) else (none)) else (none)))) else (some (x113000,x113001,x113002,x113003,x113004,x8)))) else ((spec_l05Figure.f x6).bind fun t117 => (if t117 = true then (spec_l05Sign.l0 k x0 x1 x8 x1 0 x113000 x113001 x113002 x113003 x113004) else (if x6 = 39 then ((spec_l05Quoted.f k x0 x1).bind fun t119 => (if t119 > 0 then (if 0 ≤ (wrap64 (x1 + 1)) then (if (wrap64 (x1 + 1)) ≤ (wrap64 (t119 - 1)) then (if (wrap64 (t119 - 1)) ≤ (x0.size : Int) then (some (1,x0.extract ((wrap64 (x1 + 1)) : Int).toNat ((wrap64 (t119 - 1)) : Int).toNat,0,x1,false,t119)) else (none)) else (none)) else (none)) else (some (x113000,x113001,x113002,x113003,x113004,x8)))) else (if x6 = 33 then (spec_l05Sign.j2 k x0 x1 x6 x8 true x113000 x113001 x113002 x113003 x113004) else (spec_l05Sign.j2 k x0 x1 x6 x8 (x6 == 59) x113000 x113001 x113002 x113003 x113004)))))
def spec_l05Sign.l0 : Nat → ByteArray → Int → Int → Int → Int → Int → ByteArray → Int → Int → Bool → Option (Int × ByteArray × Int × Int × Bool × Int)
 | 0,_,_,_,_,_,_,_,_,_,_ => none
 | k + 1,x0,x1,x8,x10,x11,x113000,x113001,x113002,x113003,x113004 => if x10 < (x0.size : Int) then (if 0 ≤ x10 then ((spec_l05Figure.f (bt x0 x10)).bind fun t118 => (if t118 = true then (if x11 ≤ 999999999 then (spec_l05Sign.l0 k x0 x1 x8 (wrap64 (x10 + 1)) (wrap64 ((wrap64 ((wrap64 (10 * x11)) + (wrap64 (bt x0 x10)))) - 48)) x113000 x113001 x113002 x113003 x113004) else (some (x113000,x113001,x113002,x113003,x113004,x8))) else (if x11 ≤ 999999999 then (some (3,(⟨#[]⟩ : ByteArray),x11,x1,false,x10)) else (some (x113000,x113001,x113002,x113003,x113004,x8))))) else (none)) else (if x11 ≤ 999999999 then (some (3,(⟨#[]⟩ : ByteArray),x11,x1,false,x10)) else (some (x113000,x113001,x113002,x113003,x113004,x8)))
def spec_l05Sign.j2 : Nat → ByteArray → Int → Int → Int → Bool → Int → ByteArray → Int → Int → Bool → Option (Int × ByteArray × Int × Int × Bool × Int)
 | 0,_,_,_,_,_,_,_,_,_,_ => none
 | k + 1,x0,x1,x6,x8,x101,x113000,x113001,x113002,x113003,x113004 => if x101 = true then (some (1,x113001,x113002,x113003,x113004,x8)) else (if x6 = 40 then (spec_l05Sign.j3 k x0 x1 x6 x8 true x113000 x113001 x113002 x113003 x113004) else (if x6 = 41 then (spec_l05Sign.j3 k x0 x1 x6 x8 true x113000 x113001 x113002 x113003 x113004) else (if x6 = 91 then (spec_l05Sign.j3 k x0 x1 x6 x8 true x113000 x113001 x113002 x113003 x113004) else (if x6 = 93 then (spec_l05Sign.j3 k x0 x1 x6 x8 true x113000 x113001 x113002 x113003 x113004) else (if x6 = 44 then (spec_l05Sign.j3 k x0 x1 x6 x8 true x113000 x113001 x113002 x113003 x113004) else (spec_l05Sign.j3 k x0 x1 x6 x8 (x6 == 124) x113000 x113001 x113002 x113003 x113004))))))
def spec_l05Sign.j3 : Nat → ByteArray → Int → Int → Int → Bool → Int → ByteArray → Int → Int → Bool → Option (Int × ByteArray × Int × Int × Bool × Int)
 | 0,_,_,_,_,_,_,_,_,_,_ => none
 | k + 1,x0,x1,x6,x8,x109,x113000,x113001,x113002,x113003,x113004 => if x109 = true then (some (4,x113001,x113002,x113003,x113004,x8)) else ((spec_l05End.f k x0 x1).bind fun t120 => (if t120 = true then (some (5,x113001,x113002,x113003,x113004,x8)) else ((fk_spec_SymbolByte.f k x6).bind fun t121 => (if t121 = true then (spec_l05Sign.l1 k x0 x1 x8 x1 x113000 x113001 x113002 x113003 x113004) else (some (x113000,x113001,x113002,x113003,x113004,x8))))))
def spec_l05Sign.l1 : Nat → ByteArray → Int → Int → Int → Int → ByteArray → Int → Int → Bool → Option (Int × ByteArray × Int × Int × Bool × Int)
 | 0,_,_,_,_,_,_,_,_,_ => none
 | k + 1,x0,x1,x8,x13,x113000,x113001,x113002,x113003,x113004 => if x13 < (x0.size : Int) then (if 0 ≤ x13 then ((fk_spec_SymbolByte.f k (bt x0 x13)).bind fun t122 => (if t122 = true then (spec_l05Sign.l1 k x0 x1 x8 (wrap64 (x13 + 1)) x113000 x113001 x113002 x113003 x113004) else (if (wrap64 (x13 - x1)) ≤ 20 then (if 0 ≤ x1 then (if x1 ≤ x13 then (if x13 ≤ (x0.size : Int) then (some (1,x0.extract (x1 : Int).toNat (x13 : Int).toNat,x113002,x113003,x113004,x13)) else (none)) else (none)) else (none)) else (some (x113000,x113001,x113002,x113003,x113004,x8))))) else (none)) else (if (wrap64 (x13 - x1)) ≤ 20 then (if 0 ≤ x1 then (if x1 ≤ x13 then (if x13 ≤ (x0.size : Int) then (some (1,x0.extract (x1 : Int).toNat (x13 : Int).toNat,x113002,x113003,x113004,x13)) else (none)) else (none)) else (none)) else (some (x113000,x113001,x113002,x113003,x113004,x8)))
end
def spec_l05Sign.f (k : Nat) (a0 : ByteArray) (a1 : Int) : Option (Int × ByteArray × Int × Int × Bool × Int):=if 0 ≤ a1 then (if a1 < (a0.size : Int) then (if a1 ≤ (wrap64 (a1 + 1)) then (if (wrap64 (a1 + 1)) ≤ (a0.size : Int) then ((spec_l05Small.f (bt a0 a1)).bind fun t113 => (if t113 = true then (spec_l05Sign.j0 k a0 a1 (bt a0 a1) (wrap64 (a1 + 1)) true 6 (a0.extract (a1 : Int).toNat ((wrap64 (a1 + 1)) : Int).toNat) 0 a1 false) else ((spec_l05Great.f (bt a0 a1)).bind fun t114 => (spec_l05Sign.j0 k a0 a1 (bt a0 a1) (wrap64 (a1 + 1)) t114 6 (a0.extract (a1 : Int).toNat ((wrap64 (a1 + 1)) : Int).toNat) 0 a1 false)))) else (none)) else (none)) else (none)) else (none)
theorem spec_l05Sign.mono_l : ∀ k,(∀ y0 y1 y2 y3 y4 y5 y6 y7 y8 y9,LeO (spec_l05Sign.j0 k y0 y1 y2 y3 y4 y5 y6 y7 y8 y9) (spec_l05Sign.j0 (k + 1) y0 y1 y2 y3 y4 y5 y6 y7 y8 y9)) ∧ (∀ y0 y1 y2 y3 y4 y5 y6 y7 y8 y9,LeO (spec_l05Sign.l0 k y0 y1 y2 y3 y4 y5 y6 y7 y8 y9) (spec_l05Sign.l0 (k + 1) y0 y1 y2 y3 y4 y5 y6 y7 y8 y9)) ∧ (∀ y0 y1 y2 y3 y4 y5 y6 y7 y8 y9,LeO (spec_l05Sign.j2 k y0 y1 y2 y3 y4 y5 y6 y7 y8 y9) (spec_l05Sign.j2 (k + 1) y0 y1 y2 y3 y4 y5 y6 y7 y8 y9)) ∧ (∀ y0 y1 y2 y3 y4 y5 y6 y7 y8 y9,LeO (spec_l05Sign.j3 k y0 y1 y2 y3 y4 y5 y6 y7 y8 y9) (spec_l05Sign.j3 (k + 1) y0 y1 y2 y3 y4 y5 y6 y7 y8 y9)) ∧ (∀ y0 y1 y2 y3 y4 y5 y6 y7 y8,LeO (spec_l05Sign.l1 k y0 y1 y2 y3 y4 y5 y6 y7 y8) (spec_l05Sign.l1 (k + 1) y0 y1 y2 y3 y4 y5 y6 y7 y8))
 | 0 => ⟨fun _ _ _ _ _ _ _ _ _ _ r h => by simp [spec_l05Sign.j0] at h,fun _ _ _ _ _ _ _ _ _ _ r h => by simp [spec_l05Sign.l0] at h,fun _ _ _ _ _ _ _ _ _ _ r h => by simp [spec_l05Sign.j2] at h,fun _ _ _ _ _ _ _ _ _ _ r h => by simp [spec_l05Sign.j3] at h,fun _ _ _ _ _ _ _ _ _ r h => by simp [spec_l05Sign.l1] at h⟩
 | k + 1 => by
  obtain ⟨ih0,ih1,ih2,ih3,ih4⟩:=spec_l05Sign.mono_l k
  refine ⟨?_,?_,?_,?_,?_⟩
  ·intro y0 y1 y2 y3 y4 y5 y6 y7 y8 y9
   unfold spec_l05Sign.j0
   repeat' first
   | (with_reducible exact ih0 _ _ _ _ _ _ _ _ _ _)
   | (with_reducible exact ih1 _ _ _ _ _ _ _ _ _ _)
   | (with_reducible exact ih2 _ _ _ _ _ _ _ _ _ _)
   | (with_reducible exact ih3 _ _ _ _ _ _ _ _ _ _)
   | (with_reducible exact ih4 _ _ _ _ _ _ _ _ _)
   | (with_reducible exact fk_spec_SymbolByte.mono _ _)
   | (with_reducible exact spec_l05End.mono _ _ _)
   | (with_reducible exact spec_l05Quoted.mono _ _ _)
   | (with_reducible exact spec_l05Run.mono _ _ _)
   | (with_reducible exact LeO.refl _)
   | (with_reducible exact LeO.none _)
   | (with_reducible refine LeO.ite ?_ ?_)
   | (with_reducible refine LeO.bind ?_ (fun _ => ?_))
   | exact ih0 _ _ _ _ _ _ _ _ _ _
   | exact ih1 _ _ _ _ _ _ _ _ _ _
   | exact ih2 _ _ _ _ _ _ _ _ _ _
   | exact ih3 _ _ _ _ _ _ _ _ _ _
   | exact ih4 _ _ _ _ _ _ _ _ _
   | exact fk_spec_SymbolByte.mono _ _
   | exact spec_l05End.mono _ _ _
   | exact spec_l05Quoted.mono _ _ _
   | exact spec_l05Run.mono _ _ _
   | exact LeO.none _
   | refine LeO.ite ?_ ?_
   | refine LeO.bind ?_ (fun _ => ?_)
  ·intro y0 y1 y2 y3 y4 y5 y6 y7 y8 y9
   unfold spec_l05Sign.l0
   repeat' first
   | (with_reducible exact ih0 _ _ _ _ _ _ _ _ _ _)
   | (with_reducible exact ih1 _ _ _ _ _ _ _ _ _ _)
   | (with_reducible exact ih2 _ _ _ _ _ _ _ _ _ _)
   | (with_reducible exact ih3 _ _ _ _ _ _ _ _ _ _)
   | (with_reducible exact ih4 _ _ _ _ _ _ _ _ _)
   | (with_reducible exact fk_spec_SymbolByte.mono _ _)
   | (with_reducible exact spec_l05End.mono _ _ _)
   | (with_reducible exact spec_l05Quoted.mono _ _ _)
   | (with_reducible exact spec_l05Run.mono _ _ _)
   | (with_reducible exact LeO.refl _)
   | (with_reducible exact LeO.none _)
   | (with_reducible refine LeO.ite ?_ ?_)
   | (with_reducible refine LeO.bind ?_ (fun _ => ?_))
   | exact ih0 _ _ _ _ _ _ _ _ _ _
   | exact ih1 _ _ _ _ _ _ _ _ _ _
   | exact ih2 _ _ _ _ _ _ _ _ _ _
   | exact ih3 _ _ _ _ _ _ _ _ _ _
   | exact ih4 _ _ _ _ _ _ _ _ _
   | exact fk_spec_SymbolByte.mono _ _
   | exact spec_l05End.mono _ _ _
   | exact spec_l05Quoted.mono _ _ _
   | exact spec_l05Run.mono _ _ _
   | exact LeO.none _
   | refine LeO.ite ?_ ?_
   | refine LeO.bind ?_ (fun _ => ?_)
  ·intro y0 y1 y2 y3 y4 y5 y6 y7 y8 y9
   unfold spec_l05Sign.j2
   repeat' first
   | (with_reducible exact ih0 _ _ _ _ _ _ _ _ _ _)
   | (with_reducible exact ih1 _ _ _ _ _ _ _ _ _ _)
   | (with_reducible exact ih2 _ _ _ _ _ _ _ _ _ _)
   | (with_reducible exact ih3 _ _ _ _ _ _ _ _ _ _)
   | (with_reducible exact ih4 _ _ _ _ _ _ _ _ _)
   | (with_reducible exact fk_spec_SymbolByte.mono _ _)
   | (with_reducible exact spec_l05End.mono _ _ _)
   | (with_reducible exact spec_l05Quoted.mono _ _ _)
   | (with_reducible exact spec_l05Run.mono _ _ _)
   | (with_reducible exact LeO.refl _)
   | (with_reducible exact LeO.none _)
   | (with_reducible refine LeO.ite ?_ ?_)
   | (with_reducible refine LeO.bind ?_ (fun _ => ?_))
   | exact ih0 _ _ _ _ _ _ _ _ _ _
   | exact ih1 _ _ _ _ _ _ _ _ _ _
   | exact ih2 _ _ _ _ _ _ _ _ _ _
   | exact ih3 _ _ _ _ _ _ _ _ _ _
   | exact ih4 _ _ _ _ _ _ _ _ _
   | exact fk_spec_SymbolByte.mono _ _
   | exact spec_l05End.mono _ _ _
   | exact spec_l05Quoted.mono _ _ _
   | exact spec_l05Run.mono _ _ _
   | exact LeO.none _
   | refine LeO.ite ?_ ?_
   | refine LeO.bind ?_ (fun _ => ?_)
  ·intro y0 y1 y2 y3 y4 y5 y6 y7 y8 y9
   unfold spec_l05Sign.j3
   repeat' first
   | (with_reducible exact ih0 _ _ _ _ _ _ _ _ _ _)
   | (with_reducible exact ih1 _ _ _ _ _ _ _ _ _ _)
   | (with_reducible exact ih2 _ _ _ _ _ _ _ _ _ _)
   | (with_reducible exact ih3 _ _ _ _ _ _ _ _ _ _)
   | (with_reducible exact ih4 _ _ _ _ _ _ _ _ _)
   | (with_reducible exact fk_spec_SymbolByte.mono _ _)
   | (with_reducible exact spec_l05End.mono _ _ _)
   | (with_reducible exact spec_l05Quoted.mono _ _ _)
   | (with_reducible exact spec_l05Run.mono _ _ _)
   | (with_reducible exact LeO.refl _)
   | (with_reducible exact LeO.none _)
   | (with_reducible refine LeO.ite ?_ ?_)
   | (with_reducible refine LeO.bind ?_ (fun _ => ?_))
   | exact ih0 _ _ _ _ _ _ _ _ _ _
   | exact ih1 _ _ _ _ _ _ _ _ _ _
   | exact ih2 _ _ _ _ _ _ _ _ _ _
   | exact ih3 _ _ _ _ _ _ _ _ _ _
   | exact ih4 _ _ _ _ _ _ _ _ _
   | exact fk_spec_SymbolByte.mono _ _
   | exact spec_l05End.mono _ _ _
   | exact spec_l05Quoted.mono _ _ _
   | exact spec_l05Run.mono _ _ _
   | exact LeO.none _
   | refine LeO.ite ?_ ?_
   | refine LeO.bind ?_ (fun _ => ?_)
  ·intro y0 y1 y2 y3 y4 y5 y6 y7 y8
   unfold spec_l05Sign.l1
   repeat' first
   | (with_reducible exact ih0 _ _ _ _ _ _ _ _ _ _)
   | (with_reducible exact ih1 _ _ _ _ _ _ _ _ _ _)
   | (with_reducible exact ih2 _ _ _ _ _ _ _ _ _ _)
   | (with_reducible exact ih3 _ _ _ _ _ _ _ _ _ _)
   | (with_reducible exact ih4 _ _ _ _ _ _ _ _ _)
   | (with_reducible exact fk_spec_SymbolByte.mono _ _)
   | (with_reducible exact spec_l05End.mono _ _ _)
   | (with_reducible exact spec_l05Quoted.mono _ _ _)
   | (with_reducible exact spec_l05Run.mono _ _ _)
   | (with_reducible exact LeO.refl _)
   | (with_reducible exact LeO.none _)
   | (with_reducible refine LeO.ite ?_ ?_)
   | (with_reducible refine LeO.bind ?_ (fun _ => ?_))
   | exact ih0 _ _ _ _ _ _ _ _ _ _
   | exact ih1 _ _ _ _ _ _ _ _ _ _
   | exact ih2 _ _ _ _ _ _ _ _ _ _
   | exact ih3 _ _ _ _ _ _ _ _ _ _
   | exact ih4 _ _ _ _ _ _ _ _ _
   | exact fk_spec_SymbolByte.mono _ _
   | exact spec_l05End.mono _ _ _
   | exact spec_l05Quoted.mono _ _ _
   | exact spec_l05Run.mono _ _ _
   | exact LeO.none _
   | refine LeO.ite ?_ ?_
   | refine LeO.bind ?_ (fun _ => ?_)
theorem spec_l05Sign.mono : ∀ a0 a1 k,LeO (spec_l05Sign.f k a0 a1) (spec_l05Sign.f (k + 1) a0 a1):=by
 intro a0 a1 k
 obtain ⟨ih0,ih1,ih2,ih3,ih4⟩:=spec_l05Sign.mono_l k
 unfold spec_l05Sign.f
 repeat' first
   | (with_reducible exact ih0 _ _ _ _ _ _ _ _ _ _)
   | (with_reducible exact ih1 _ _ _ _ _ _ _ _ _ _)
   | (with_reducible exact ih2 _ _ _ _ _ _ _ _ _ _)
   | (with_reducible exact ih3 _ _ _ _ _ _ _ _ _ _)
   | (with_reducible exact ih4 _ _ _ _ _ _ _ _ _)
   | (with_reducible exact fk_spec_SymbolByte.mono _ _)
   | (with_reducible exact spec_l05End.mono _ _ _)
   | (with_reducible exact spec_l05Quoted.mono _ _ _)
   | (with_reducible exact spec_l05Run.mono _ _ _)
   | (with_reducible exact LeO.refl _)
   | (with_reducible exact LeO.none _)
   | (with_reducible refine LeO.ite ?_ ?_)
   | (with_reducible refine LeO.bind ?_ (fun _ => ?_))
   | exact ih0 _ _ _ _ _ _ _ _ _ _
   | exact ih1 _ _ _ _ _ _ _ _ _ _
   | exact ih2 _ _ _ _ _ _ _ _ _ _
   | exact ih3 _ _ _ _ _ _ _ _ _ _
   | exact ih4 _ _ _ _ _ _ _ _ _
   | exact fk_spec_SymbolByte.mono _ _
   | exact spec_l05End.mono _ _ _
   | exact spec_l05Quoted.mono _ _ _
   | exact spec_l05Run.mono _ _ _
   | exact LeO.none _
   | refine LeO.ite ?_ ?_
   | refine LeO.bind ?_ (fun _ => ?_)
set_option maxHeartbeats 8000000 in
set_option maxRecDepth 100000 in
theorem spec_l05Sign.calls (k : Nat) (a0 : ByteArray) (a1 : Int) (r1 : Int) (r2 : ByteArray) (r3 : Int) (r4 : Int) (r5 : Bool) (r6 : Int) (w : World) (h : spec_l05Sign.f k a0 a1 = some (r1,r2,r3,r4,r5,r6)) :
  Calls Try.prog 54 #[.string a0,.int .i64 a1] w fun e w' => e = .returned (.tuple #[.agg #[.int .i64 r1,.string r2,.int .i64 r3,.int .i64 r4,.bool r5],.int .i64 r6]) ∧ Below w.heap.size w w':=by
 have hu46:=Try.underlying46
 have HB:=Aside0.mk (Below.refl w.heap.size w)
 have H : (if 0 ≤ a1 then (if a1 < (a0.size : Int) then (if a1 ≤ (wrap64 (a1 + 1)) then (if (wrap64 (a1 + 1)) ≤ (a0.size : Int) then ((spec_l05Small.f (bt a0 a1)).bind fun t113 => (if t113 = true then (spec_l05Sign.j0 k a0 a1 (bt a0 a1) (wrap64 (a1 + 1)) true 6 (a0.extract (a1 : Int).toNat ((wrap64 (a1 + 1)) : Int).toNat) 0 a1 false) else ((spec_l05Great.f (bt a0 a1)).bind fun t114 => (spec_l05Sign.j0 k a0 a1 (bt a0 a1) (wrap64 (a1 + 1)) t114 6 (a0.extract (a1 : Int).toNat ((wrap64 (a1 + 1)) : Int).toNat) 0 a1 false)))) else (none)) else (none)) else (none)) else (none)) = some (r1,r2,r3,r4,r5,r6):=h
 clear h
 by_cases c3 : 0 ≤ a1
 rotate_left
 ·rw [if_neg c3] at H
  exact absurd H (by simp)
 rw [if_pos c3] at H
 have c3b0 : decide (0 ≤ a1) = true:=decide_eq_true c3
 clear c3
 by_cases c4 : a1 < (a0.size : Int)
 rotate_left
 ·rw [if_neg c4] at H
  exact absurd H (by simp)
 rw [if_pos c4] at H
 have c4b0 : decide (a1 < (a0.size : Int)) = true:=decide_eq_true c4
 clear c4
 have c6b0:=eq_true (of_decide_eq_true (by first|(with_reducible assumption)|assumption) : 0 ≤ a1)
 by_cases c7 : a1 ≤ (wrap64 (a1 + 1))
 rotate_left
 ·rw [if_neg c7] at H
  exact absurd H (by simp)
 rw [if_pos c7] at H
 have c7b0:=eq_true c7
 have c7b1 : decide (a1 ≤ (wrap64 (a1 + 1))) = true:=decide_eq_true c7
 by_cases c8 : (wrap64 (a1 + 1)) ≤ (a0.size : Int)
 rotate_left
 ·rw [if_neg c8] at H
  exact absurd H (by simp)
 rw [if_pos c8] at H
 have c8b0:=eq_true c8
 have c8b1 : decide ((wrap64 (a1 + 1)) ≤ (a0.size : Int)) = true:=decide_eq_true c8
 have HC9:=Aside0.mk H
 clear H
 go_enter Try.func54,Try.ntmps54
 go_upto_region 4 with (first|((with_reducible refine gate_dst (N:=4) rfl ?_);refine box_event ?hg (N:=4) ?hd (cs:=#[.int .i64 0,.string (⟨#[]⟩ : ByteArray),.int .i64 0,.int .i64 0,.bool false]) (t:=46) ?hr ?_;(case hd => rfl);(case hg => rfl);(case hr => first|(go_simp;done)|(go_simp;rfl));intro gb111 hg w10 hbox hb;have n0_:=Aside0.mk (below_step (by repeat (first|(with_reducible first|exact HB.out|apply below_alloc|apply pw_below_drewN|apply below_drew1)|exact HB.out)) hb);have n1_:=Aside0.mk (hbox);have n2_:=Aside0.mk ((by rw [hg];exact (below_size (by repeat (first|(with_reducible first|exact HB.out|apply below_alloc|apply pw_below_drewN|apply below_drew1)|exact HB.out))) : w.heap.size ≤ gb111));have n3_:=Aside0.mk ((by rw [hg];exact (below_size (by repeat (first|(with_reducible first|exact HB.out|apply below_alloc|apply pw_below_drewN|apply below_drew1)|exact HB.out))) : w.heap.size ≤ gb111));clear HB;have HB:=n0_;have BK111:=n1_;have GW111:=n2_;have GE111:=n3_;clear n0_ n1_ n2_ n3_;clear hb hbox hg;have p5 : 0 ≤ (a1 : Int):=of_decide_eq_true (by first|(with_reducible assumption)|assumption);have q5 : a1 < (a0.size : Int):=of_decide_eq_true (by first|(with_reducible assumption)|assumption);have hx5:=bt_at a0 a1;replace p5:=eq_true p5;replace q5:=eq_true q5)|((with_reducible refine gate_dst (N:=7) rfl ?_);refine box_event ?hg (N:=7) ?hd (cs:=#[.int .i64 0,.string (⟨#[]⟩ : ByteArray),.int .i64 0,.int .i64 0,.bool false]) (t:=46) ?hr ?_;(case hd => rfl);(case hg => rfl);(case hr => first|(go_simp;done)|(go_simp;rfl));intro gb112 hg w11 hbox hb;have n0_:=Aside0.mk (blk_below (g:=gb111) (o:=.cells #[.int .i64 0,.string (⟨#[]⟩ : ByteArray),.int .i64 0,.int .i64 0,.bool false] 46 (0,0)) (by (with_reducible repeat (first|refine blk_drewN ?_ _|refine blk_drew ?_|refine blk_alloc ?_ _));exact BK111.out) hb);have n1_:=Aside0.mk (below_step (by repeat (first|(with_reducible first|exact HB.out|apply below_alloc|apply pw_below_drewN|apply below_drew1|refine below_set ?_ GE111.out)|exact HB.out)) hb);have n2_:=Aside0.mk (hbox);have n3_:=Aside0.mk ((by rw [hg];exact (below_size (by repeat (first|(with_reducible first|exact HB.out|apply below_alloc|apply pw_below_drewN|apply below_drew1|refine below_set ?_ GE111.out)|exact HB.out))) : w.heap.size ≤ gb112));have n4_:=Aside0.mk ((by rw [hg];exact (below_size (by repeat (first|(with_reducible first|exact HB.out|apply below_alloc|apply pw_below_drewN|apply below_drew1|refine below_set ?_ GE111.out)|exact HB.out))) : w.heap.size ≤ gb112));have n5_:=Aside0.mk ((by rw [hg];exact Nat.ne_of_lt (blk_lt (g:=gb111) (o:=.cells #[.int .i64 0,.string (⟨#[]⟩ : ByteArray),.int .i64 0,.int .i64 0,.bool false] 46 (0,0)) (by (with_reducible repeat (first|refine blk_drewN ?_ _|refine blk_drew ?_|refine blk_alloc ?_ _));exact BK111.out)) : gb111 ≠ gb112));have n6_:=Aside0.mk ((by rw [hg];exact Nat.ne_of_gt (blk_lt (g:=gb111) (o:=.cells #[.int .i64 0,.string (⟨#[]⟩ : ByteArray),.int .i64 0,.int .i64 0,.bool false] 46 (0,0)) (by (with_reducible repeat (first|refine blk_drewN ?_ _|refine blk_drew ?_|refine blk_alloc ?_ _));exact BK111.out)) : gb112 ≠ gb111));clear BK111;clear HB;have BK111:=n0_;have HB:=n1_;have BK112:=n2_;have GW112:=n3_;have GE112:=n4_;have NB111_112:=n5_;have NB112_111:=n6_;clear n0_ n1_ n2_ n3_ n4_ n5_ n6_;clear hb hbox hg;have hnb12:=NB112_111.out;have hnc12:=NB111_112.out;have hcz13_0 : w11.cell? ⟨gb112,0,none⟩ = some (.int .i64 0):=(blk_cell BK112.out 0).trans rfl;have hcz13_1 : w11.cell? ⟨gb112,1,none⟩ = some (.string (⟨#[]⟩ : ByteArray)):=(blk_cell BK112.out 1).trans rfl;have hcz13_2 : w11.cell? ⟨gb112,2,none⟩ = some (.int .i64 0):=(blk_cell BK112.out 2).trans rfl;have hcz13_3 : w11.cell? ⟨gb112,3,none⟩ = some (.int .i64 0):=(blk_cell BK112.out 3).trans rfl;have hcz13_4 : w11.cell? ⟨gb112,4,none⟩ = some (.bool false):=(blk_cell BK112.out 4).trans rfl;have hfz13_0:=blk_frozen BK112.out 0;have hfz13_1:=blk_frozen BK112.out 1;have hfz13_2:=blk_frozen BK112.out 2;have hfz13_3:=blk_frozen BK112.out 3;have hfz13_4:=blk_frozen BK112.out 4))
 (try simp only [Act.put,List.setIfInBounds_toArray,List.set_cons_zero,List.set_cons_succ])
 go_cut [26] (fun v26 wc => ∃ (kq : Nat) (x26_8 : Bool),v26 = .bool x26_8 ∧ Aside0 (spec_l05Sign.j0 kq a0 a1 (bt a0 a1) (wrap64 (a1 + 1)) x26_8 6 (a0.extract (a1 : Int).toNat ((wrap64 (a1 + 1)) : Int).toNat) 0 a1 false = some (r1,r2,r3,r4,r5,r6)) ∧ Aside0 (kq ≤ k) ∧ Aside0 (wc.heap[gb111]? = some (.cells #[.int .i64 0,.string (⟨#[]⟩ : ByteArray),.int .i64 0,.int .i64 0,.bool false] 46 (0,0))) ∧ Aside0 (wc.heap[gb112]? = some (.cells #[.int .i64 6,.string (a0.extract (a1 : Int).toNat ((wrap64 (a1 + 1)) : Int).toNat),.int .i64 0,.int .i64 a1,.bool false] 46 (0,0))) ∧ Aside0 (Below w.heap.size w wc))
 case first =>
  have H:=HC9.out
  clear HC9
  replace H:=Option.bind_eq_some_iff.mp H
  obtain ⟨t113,A140,H⟩:=H
  replace H : (if t113 = true then (spec_l05Sign.j0 k a0 a1 (bt a0 a1) (wrap64 (a1 + 1)) true 6 (a0.extract (a1 : Int).toNat ((wrap64 (a1 + 1)) : Int).toNat) 0 a1 false) else ((spec_l05Great.f (bt a0 a1)).bind fun t114 => (spec_l05Sign.j0 k a0 a1 (bt a0 a1) (wrap64 (a1 + 1)) t114 6 (a0.extract (a1 : Int).toNat ((wrap64 (a1 + 1)) : Int).toNat) 0 a1 false))) = some (r1,r2,r3,r4,r5,r6):=H
  have A14:=Aside0.mk A140
  clear A140
  by_cases c15 : t113 = true
  ·subst c15
   have H1 : (spec_l05Sign.j0 k a0 a1 (bt a0 a1) (wrap64 (a1 + 1)) true 6 (a0.extract (a1 : Int).toNat ((wrap64 (a1 + 1)) : Int).toNat) 0 a1 false) = some (r1,r2,r3,r4,r5,r6):=by rw [if_pos rfl] at H;exact H
   clear H
   have H:=H1
   clear H1
   have H':=Aside0.mk H
   clear H
   go_wp2_with (first|((with_reducible refine gate_callee (f:=64) rfl ?_);refine goesL_ (some 28) rfl rfl Try.func64 (by kernel_rfl) rfl #[.int .u8 (bt a0 a1)] rfl (by (try simp only [List.map_toArray,List.map_cons,List.map_nil]);first|done|rfl|(simp only [List.length_drop,List.length_take];rfl)) ?_;(with_reducible refine (spec_l05Small.calls (bt a0 a1) true _ A14.out).mono ?_);rintro e w' ⟨rfl,⟨nd,rfl⟩⟩;refine ⟨_,rfl,?_⟩))
   go_meet
   case rel => exact ⟨_,(true),(by first|rfl|(simp;done)|(simp [*];done)),H',⟨by first|omega|exact Nat.le_refl _⟩,⟨by (with_reducible repeat (first|refine blk_drewN ?_ _|refine blk_drew ?_|refine blk_alloc ?_ _));refine blk_far ?_ NB111_112.out _;(with_reducible repeat (first|refine blk_drewN ?_ _|refine blk_drew ?_|refine blk_alloc ?_ _));refine blk_far ?_ NB111_112.out _;(with_reducible repeat (first|refine blk_drewN ?_ _|refine blk_drew ?_|refine blk_alloc ?_ _));refine blk_far ?_ NB111_112.out _;(with_reducible repeat (first|refine blk_drewN ?_ _|refine blk_drew ?_|refine blk_alloc ?_ _));refine blk_far ?_ NB111_112.out _;(with_reducible repeat (first|refine blk_drewN ?_ _|refine blk_drew ?_|refine blk_alloc ?_ _));refine blk_far ?_ NB111_112.out _;(with_reducible repeat (first|refine blk_drewN ?_ _|refine blk_drew ?_|refine blk_alloc ?_ _));exact BK111.out⟩,⟨by (with_reducible repeat (first|refine blk_drewN ?_ _|refine blk_drew ?_|refine blk_alloc ?_ _));refine blk_put (cs:=#[.int .i64 6,.string (a0.extract (a1 : Int).toNat ((wrap64 (a1 + 1)) : Int).toNat),.int .i64 0,.int .i64 a1,.bool false]) ?_ 4 _ rfl;(with_reducible repeat (first|refine blk_drewN ?_ _|refine blk_drew ?_|refine blk_alloc ?_ _));refine blk_put (cs:=#[.int .i64 6,.string (a0.extract (a1 : Int).toNat ((wrap64 (a1 + 1)) : Int).toNat),.int .i64 0,.int .i64 0,.bool false]) ?_ 3 _ rfl;(with_reducible repeat (first|refine blk_drewN ?_ _|refine blk_drew ?_|refine blk_alloc ?_ _));refine blk_put (cs:=#[.int .i64 6,.string (a0.extract (a1 : Int).toNat ((wrap64 (a1 + 1)) : Int).toNat),.int .i64 0,.int .i64 0,.bool false]) ?_ 2 _ rfl;(with_reducible repeat (first|refine blk_drewN ?_ _|refine blk_drew ?_|refine blk_alloc ?_ _));refine blk_put (cs:=#[.int .i64 6,.string (⟨#[]⟩ : ByteArray),.int .i64 0,.int .i64 0,.bool false]) ?_ 1 _ rfl;(with_reducible repeat (first|refine blk_drewN ?_ _|refine blk_drew ?_|refine blk_alloc ?_ _));refine blk_put (cs:=#[.int .i64 0,.string (⟨#[]⟩ : ByteArray),.int .i64 0,.int .i64 0,.bool false]) ?_ 0 _ rfl;(with_reducible repeat (first|refine blk_drewN ?_ _|refine blk_drew ?_|refine blk_alloc ?_ _));exact BK112.out⟩,⟨by repeat (first|(with_reducible first|exact HB.out|apply below_alloc|apply pw_below_drewN|apply below_drew1|refine below_set ?_ GE111.out|refine below_set ?_ GE112.out)|exact HB.out)⟩⟩
  ·replace c15:=Bool.eq_false_iff.mpr c15
   subst c15
   have H1 : ((spec_l05Great.f (bt a0 a1)).bind fun t114 => (spec_l05Sign.j0 k a0 a1 (bt a0 a1) (wrap64 (a1 + 1)) t114 6 (a0.extract (a1 : Int).toNat ((wrap64 (a1 + 1)) : Int).toNat) 0 a1 false)) = some (r1,r2,r3,r4,r5,r6):=by rw [if_neg (show ¬ (false = true) by decide)] at H;exact H
   clear H
   have H:=H1
   clear H1
   replace H:=Option.bind_eq_some_iff.mp H
   obtain ⟨t114,A160,H⟩:=H
   replace H : (spec_l05Sign.j0 k a0 a1 (bt a0 a1) (wrap64 (a1 + 1)) t114 6 (a0.extract (a1 : Int).toNat ((wrap64 (a1 + 1)) : Int).toNat) 0 a1 false) = some (r1,r2,r3,r4,r5,r6):=H
   have A16:=Aside0.mk A160
   clear A160
   have H':=Aside0.mk H
   clear H
   go_wp2_with (first|((with_reducible refine gate_callee (f:=64) rfl ?_);refine goesL_ (some 28) rfl rfl Try.func64 (by kernel_rfl) rfl #[.int .u8 (bt a0 a1)] rfl (by (try simp only [List.map_toArray,List.map_cons,List.map_nil]);first|done|rfl|(simp only [List.length_drop,List.length_take];rfl)) ?_;(with_reducible refine (spec_l05Small.calls (bt a0 a1) false _ A14.out).mono ?_);rintro e w' ⟨rfl,⟨nd,rfl⟩⟩;refine ⟨_,rfl,?_⟩)|(go_at_call 65;(with_reducible refine (spec_l05Great.calls (bt a0 a1) t114 _ A16.out).mono ?_);rintro e w' ⟨rfl,⟨nd,rfl⟩⟩))
   go_meet
   case rel => exact ⟨_,(t114),(by first|rfl|(simp;done)|(simp [*];done)),H',⟨by first|omega|exact Nat.le_refl _⟩,⟨by (with_reducible repeat (first|refine blk_drewN ?_ _|refine blk_drew ?_|refine blk_alloc ?_ _));refine blk_far ?_ NB111_112.out _;(with_reducible repeat (first|refine blk_drewN ?_ _|refine blk_drew ?_|refine blk_alloc ?_ _));refine blk_far ?_ NB111_112.out _;(with_reducible repeat (first|refine blk_drewN ?_ _|refine blk_drew ?_|refine blk_alloc ?_ _));refine blk_far ?_ NB111_112.out _;(with_reducible repeat (first|refine blk_drewN ?_ _|refine blk_drew ?_|refine blk_alloc ?_ _));refine blk_far ?_ NB111_112.out _;(with_reducible repeat (first|refine blk_drewN ?_ _|refine blk_drew ?_|refine blk_alloc ?_ _));refine blk_far ?_ NB111_112.out _;(with_reducible repeat (first|refine blk_drewN ?_ _|refine blk_drew ?_|refine blk_alloc ?_ _));exact BK111.out⟩,⟨by (with_reducible repeat (first|refine blk_drewN ?_ _|refine blk_drew ?_|refine blk_alloc ?_ _));refine blk_put (cs:=#[.int .i64 6,.string (a0.extract (a1 : Int).toNat ((wrap64 (a1 + 1)) : Int).toNat),.int .i64 0,.int .i64 a1,.bool false]) ?_ 4 _ rfl;(with_reducible repeat (first|refine blk_drewN ?_ _|refine blk_drew ?_|refine blk_alloc ?_ _));refine blk_put (cs:=#[.int .i64 6,.string (a0.extract (a1 : Int).toNat ((wrap64 (a1 + 1)) : Int).toNat),.int .i64 0,.int .i64 0,.bool false]) ?_ 3 _ rfl;(with_reducible repeat (first|refine blk_drewN ?_ _|refine blk_drew ?_|refine blk_alloc ?_ _));refine blk_put (cs:=#[.int .i64 6,.string (a0.extract (a1 : Int).toNat ((wrap64 (a1 + 1)) : Int).toNat),.int .i64 0,.int .i64 0,.bool false]) ?_ 2 _ rfl;(with_reducible repeat (first|refine blk_drewN ?_ _|refine blk_drew ?_|refine blk_alloc ?_ _));refine blk_put (cs:=#[.int .i64 6,.string (⟨#[]⟩ : ByteArray),.int .i64 0,.int .i64 0,.bool false]) ?_ 1 _ rfl;(with_reducible repeat (first|refine blk_drewN ?_ _|refine blk_drew ?_|refine blk_alloc ?_ _));refine blk_put (cs:=#[.int .i64 0,.string (⟨#[]⟩ : ByteArray),.int .i64 0,.int .i64 0,.bool false]) ?_ 0 _ rfl;(with_reducible repeat (first|refine blk_drewN ?_ _|refine blk_drew ?_|refine blk_alloc ?_ _));exact BK112.out⟩,⟨by repeat (first|(with_reducible first|exact HB.out|apply below_alloc|apply pw_below_drewN|apply below_drew1|refine below_set ?_ GE111.out|refine below_set ?_ GE112.out)|exact HB.out)⟩⟩
 case rest =>
  clear HC9
  try clear c3
  try clear c3b0
  try clear c4
  try clear c4b0
  try clear p5
  try clear q5
  try clear hx5
  try clear c6b0
  try clear c7
  try clear c7b0
  try clear c7b1
  try clear c8
  try clear c8b0
  try clear c8b1
  try clear c15
  try clear hcz13_0
  try clear hcz13_1
  try clear hcz13_2
  try clear hcz13_3
  try clear hcz13_4
  try clear hfz13_0
  try clear hfz13_1
  try clear hfz13_2
  try clear hfz13_3
  try clear hfz13_4
  try clear p5
  try clear q5
  try clear BK111
  try clear BK112
  obtain ⟨kq,x26_8,rfl,HA,HJ8,BK111,BK112,HB⟩:=hcut
  cases kq with
  | zero => exact absurd HA.out (by simp [spec_l05Sign.j0])
  | succ kj8 =>
   have H:=HA.out
   clear HA
   simp only [spec_l05Sign.j0] at H
   by_cases c17 : x26_8 = true
   ·subst c17
    have H1 : ((spec_l05Run.f kj8 a0 a1).bind fun t115 => (if (wrap64 (t115 - a1)) ≤ 20 then ((spec_l05Great.f (bt a0 a1)).bind fun t116 => (if t116 = true then (if 0 ≤ a1 then (if a1 ≤ t115 then (if t115 ≤ (a0.size : Int) then (some (2,a0.extract (a1 : Int).toNat (t115 : Int).toNat,0,a1,false,t115)) else (none)) else (none)) else (none)) else (if 0 ≤ a1 then (if a1 ≤ t115 then (if t115 ≤ (a0.size : Int) then (some (1,a0.extract (a1 : Int).toNat (t115 : Int).toNat,0,a1,false,t115)) else (none)) else (none)) else (none)))) else (some (6,(a0.extract (a1 : Int).toNat ((wrap64 (a1 + 1)) : Int).toNat),0,a1,false,(wrap64 (a1 + 1)))))) = some (r1,r2,r3,r4,r5,r6):=by rw [if_pos rfl] at H;exact H
    clear H
    have H:=H1
    clear H1
    replace H:=Option.bind_eq_some_iff.mp H
    obtain ⟨t115,A180,H⟩:=H
    replace H : (if (wrap64 (t115 - a1)) ≤ 20 then ((spec_l05Great.f (bt a0 a1)).bind fun t116 => (if t116 = true then (if 0 ≤ a1 then (if a1 ≤ t115 then (if t115 ≤ (a0.size : Int) then (some (2,a0.extract (a1 : Int).toNat (t115 : Int).toNat,0,a1,false,t115)) else (none)) else (none)) else (none)) else (if 0 ≤ a1 then (if a1 ≤ t115 then (if t115 ≤ (a0.size : Int) then (some (1,a0.extract (a1 : Int).toNat (t115 : Int).toNat,0,a1,false,t115)) else (none)) else (none)) else (none)))) else (some (6,(a0.extract (a1 : Int).toNat ((wrap64 (a1 + 1)) : Int).toNat),0,a1,false,(wrap64 (a1 + 1))))) = some (r1,r2,r3,r4,r5,r6):=H
    have A18:=Aside0.mk A180
    clear A180
    by_cases c19 : (wrap64 (t115 - a1)) ≤ 20
    ·rw [if_pos c19] at H
     have c19b0 : decide ((wrap64 (t115 - a1)) ≤ 20) = true:=decide_eq_true c19
     clear c19
     replace H:=Option.bind_eq_some_iff.mp H
     obtain ⟨t116,A200,H⟩:=H
     replace H : (if t116 = true then (if 0 ≤ a1 then (if a1 ≤ t115 then (if t115 ≤ (a0.size : Int) then (some (2,a0.extract (a1 : Int).toNat (t115 : Int).toNat,0,a1,false,t115)) else (none)) else (none)) else (none)) else (if 0 ≤ a1 then (if a1 ≤ t115 then (if t115 ≤ (a0.size : Int) then (some (1,a0.extract (a1 : Int).toNat (t115 : Int).toNat,0,a1,false,t115)) else (none)) else (none)) else (none))) = some (r1,r2,r3,r4,r5,r6):=H
     have A20:=Aside0.mk A200
     clear A200
     by_cases c21 : t116 = true
     ·subst c21
      have H1 : (if 0 ≤ a1 then (if a1 ≤ t115 then (if t115 ≤ (a0.size : Int) then (some (2,a0.extract (a1 : Int).toNat (t115 : Int).toNat,0,a1,false,t115)) else (none)) else (none)) else (none)) = some (r1,r2,r3,r4,r5,r6):=by rw [if_pos rfl] at H;exact H
      clear H
      have H:=H1
      clear H1
      by_cases c22 : 0 ≤ a1
      rotate_left
      ·rw [if_neg c22] at H
       exact absurd H (by simp)
      rw [if_pos c22] at H
      have c22b0:=eq_true c22
      have c22b1 : decide (0 ≤ a1) = true:=decide_eq_true c22
      clear c22
      by_cases c23 : a1 ≤ t115
      rotate_left
      ·rw [if_neg c23] at H
       exact absurd H (by simp)
      rw [if_pos c23] at H
      have c23b0:=eq_true c23
      have c23b1 : decide (a1 ≤ t115) = true:=decide_eq_true c23
      clear c23
      by_cases c24 : t115 ≤ (a0.size : Int)
      rotate_left
      ·rw [if_neg c24] at H
       exact absurd H (by simp)
      rw [if_pos c24] at H
      have c24b0:=eq_true c24
      have c24b1 : decide (t115 ≤ (a0.size : Int)) = true:=decide_eq_true c24
      clear c24
      simp only [Option.some.injEq,Prod.mk.injEq] at H
      obtain ⟨rfl,rfl,rfl,rfl,rfl,rfl⟩:=H
      go_wp2_with (first|((with_reducible refine gate_callee (f:=66) rfl ?_);refine goesL_ (some 35) rfl rfl Try.func66 (by kernel_rfl) rfl #[.string a0,.int .i64 a1] rfl (by (try simp only [List.map_toArray,List.map_cons,List.map_nil]);first|done|rfl|(simp only [List.length_drop,List.length_take];rfl)) ?_;(with_reducible refine (spec_l05Run.calls kj8 a0 a1 t115 _ A18.out).mono ?_);rintro e w' ⟨rfl,⟨nd,rfl⟩⟩;refine ⟨_,rfl,?_⟩;(try (rw [drewN_self wc];generalize hq_ : World.drewN wc _ = wc;have n0_ : Aside0 (wc.heap[gb111]? = some (.cells #[.int .i64 0,.string (⟨#[]⟩ : ByteArray),.int .i64 0,.int .i64 0,.bool false] 46 (0,0))):=⟨by rw [← hq_];exact (by (with_reducible repeat (first|refine blk_drewN ?_ _|refine blk_drew ?_|refine blk_alloc ?_ _));exact BK111.out)⟩;have n1_ : Aside0 (wc.heap[gb112]? = some (.cells #[.int .i64 6,.string (a0.extract (a1 : Int).toNat ((wrap64 (a1 + 1)) : Int).toNat),.int .i64 0,.int .i64 a1,.bool false] 46 (0,0))):=⟨by rw [← hq_];exact (by (with_reducible repeat (first|refine blk_drewN ?_ _|refine blk_drew ?_|refine blk_alloc ?_ _));exact BK112.out)⟩;have n2_ : Aside0 (Below w.heap.size w wc):=⟨by rw [← hq_];exact (by repeat (first|(with_reducible first|exact HB.out|apply below_alloc|apply pw_below_drewN|apply below_drew1|refine below_set ?_ GE111.out|refine below_set ?_ GE112.out)|exact HB.out))⟩;clear BK111 BK112 HB hq_;have BK111:=n0_;have BK112:=n1_;have HB:=n2_;clear n0_ n1_ n2_;(try have hyq111_0:=(blk_cell BK111.out 0).trans (rfl : _ = some _));(try have hyf111_0:=blk_frozen BK111.out 0);(try have hyq111_1:=(blk_cell BK111.out 1).trans (rfl : _ = some _));(try have hyf111_1:=blk_frozen BK111.out 1);(try have hyq111_2:=(blk_cell BK111.out 2).trans (rfl : _ = some _));(try have hyf111_2:=blk_frozen BK111.out 2);(try have hyq111_3:=(blk_cell BK111.out 3).trans (rfl : _ = some _));(try have hyf111_3:=blk_frozen BK111.out 3);(try have hyq112_0:=(blk_cell BK112.out 0).trans (rfl : _ = some _));(try have hyf112_0:=blk_frozen BK112.out 0);(try have hyq112_1:=(blk_cell BK112.out 1).trans (rfl : _ = some _));(try have hyf112_1:=blk_frozen BK112.out 1);(try have hyq112_2:=(blk_cell BK112.out 2).trans (rfl : _ = some _));(try have hyf112_2:=blk_frozen BK112.out 2);(try have hyq112_3:=(blk_cell BK112.out 3).trans (rfl : _ = some _));(try have hyf112_3:=blk_frozen BK112.out 3)));have hnb25:=NB112_111.out;have hnc25:=NB111_112.out;have hcz26_0 : wc.cell? ⟨gb112,0,none⟩ = some (.int .i64 6):=(blk_cell BK112.out 0).trans rfl;have hcz26_1 : wc.cell? ⟨gb112,1,none⟩ = some (.string (a0.extract (a1 : Int).toNat ((wrap64 (a1 + 1)) : Int).toNat)):=(blk_cell BK112.out 1).trans rfl;have hcz26_2 : wc.cell? ⟨gb112,2,none⟩ = some (.int .i64 0):=(blk_cell BK112.out 2).trans rfl;have hcz26_3 : wc.cell? ⟨gb112,3,none⟩ = some (.int .i64 a1):=(blk_cell BK112.out 3).trans rfl;have hcz26_4 : wc.cell? ⟨gb112,4,none⟩ = some (.bool false):=(blk_cell BK112.out 4).trans rfl;have hfz26_0:=blk_frozen BK112.out 0;have hfz26_1:=blk_frozen BK112.out 1;have hfz26_2:=blk_frozen BK112.out 2;have hfz26_3:=blk_frozen BK112.out 3;have hfz26_4:=blk_frozen BK112.out 4)|((with_reducible refine gate_callee (f:=65) rfl ?_);refine goesL_ (some 42) rfl rfl Try.func65 (by kernel_rfl) rfl #[.int .u8 (bt a0 a1)] rfl (by (try simp only [List.map_toArray,List.map_cons,List.map_nil]);first|done|rfl|(simp only [List.length_drop,List.length_take];rfl)) ?_;(with_reducible refine (spec_l05Great.calls (bt a0 a1) true _ A20.out).mono ?_);rintro e w' ⟨rfl,⟨nd,rfl⟩⟩;refine ⟨_,rfl,?_⟩;have hcz27_0 : wc.cell? ⟨gb111,0,none⟩ = some (.int .i64 0):=(blk_cell BK111.out 0).trans rfl;have hcz27_1 : wc.cell? ⟨gb111,1,none⟩ = some (.string (⟨#[]⟩ : ByteArray)):=(blk_cell BK111.out 1).trans rfl;have hcz27_2 : wc.cell? ⟨gb111,2,none⟩ = some (.int .i64 0):=(blk_cell BK111.out 2).trans rfl;have hcz27_3 : wc.cell? ⟨gb111,3,none⟩ = some (.int .i64 0):=(blk_cell BK111.out 3).trans rfl;have hcz27_4 : wc.cell? ⟨gb111,4,none⟩ = some (.bool false):=(blk_cell BK111.out 4).trans rfl;have hfz27_0:=blk_frozen BK111.out 0;have hfz27_1:=blk_frozen BK111.out 1;have hfz27_2:=blk_frozen BK111.out 2;have hfz27_3:=blk_frozen BK111.out 3;have hfz27_4:=blk_frozen BK111.out 4))
      refine bodyPost_ret (results_ct rfl _ _ gb111 46 #[.int .i64 2,.string (a0.extract (a1 : Int).toNat (t115 : Int).toNat),.int .i64 0,.int .i64 a1,.bool false] (0,0) _ rfl (by (with_reducible repeat (first|refine blk_drewN ?_ _|refine blk_drew ?_|refine blk_alloc ?_ _));refine blk_put (cs:=#[.int .i64 2,.string (a0.extract (a1 : Int).toNat (t115 : Int).toNat),.int .i64 0,.int .i64 a1,.bool false]) ?_ 4 _ rfl;(with_reducible repeat (first|refine blk_drewN ?_ _|refine blk_drew ?_|refine blk_alloc ?_ _));refine blk_put (cs:=#[.int .i64 2,.string (a0.extract (a1 : Int).toNat (t115 : Int).toNat),.int .i64 0,.int .i64 0,.bool false]) ?_ 3 _ rfl;(with_reducible repeat (first|refine blk_drewN ?_ _|refine blk_drew ?_|refine blk_alloc ?_ _));refine blk_put (cs:=#[.int .i64 2,.string (a0.extract (a1 : Int).toNat (t115 : Int).toNat),.int .i64 0,.int .i64 0,.bool false]) ?_ 2 _ rfl;(with_reducible repeat (first|refine blk_drewN ?_ _|refine blk_drew ?_|refine blk_alloc ?_ _));refine blk_put (cs:=#[.int .i64 2,.string (⟨#[]⟩ : ByteArray),.int .i64 0,.int .i64 0,.bool false]) ?_ 1 _ rfl;(with_reducible repeat (first|refine blk_drewN ?_ _|refine blk_drew ?_|refine blk_alloc ?_ _));refine blk_put (cs:=#[.int .i64 0,.string (⟨#[]⟩ : ByteArray),.int .i64 0,.int .i64 0,.bool false]) ?_ 0 _ rfl;(with_reducible repeat (first|refine blk_drewN ?_ _|refine blk_drew ?_|refine blk_alloc ?_ _));refine blk_far ?_ NB111_112.out _;(with_reducible repeat (first|refine blk_drewN ?_ _|refine blk_drew ?_|refine blk_alloc ?_ _));refine blk_far ?_ NB111_112.out _;(with_reducible repeat (first|refine blk_drewN ?_ _|refine blk_drew ?_|refine blk_alloc ?_ _));refine blk_far ?_ NB111_112.out _;(with_reducible repeat (first|refine blk_drewN ?_ _|refine blk_drew ?_|refine blk_alloc ?_ _));exact BK111.out) Try.underlying46 rfl (by kernel_rfl)) rfl ?_
      exact ⟨by first|rfl|(simp [errW_none,errW_some] <;> rfl)|(simp [*,errW_none,errW_some] <;> rfl),by repeat (first|(with_reducible first|exact HB.out|apply below_alloc|apply pw_below_drewN|apply below_drew1|refine below_set ?_ GE111.out|refine below_set ?_ GE112.out)|exact HB.out)⟩
     ·replace c21:=Bool.eq_false_iff.mpr c21
      subst c21
      have H1 : (if 0 ≤ a1 then (if a1 ≤ t115 then (if t115 ≤ (a0.size : Int) then (some (1,a0.extract (a1 : Int).toNat (t115 : Int).toNat,0,a1,false,t115)) else (none)) else (none)) else (none)) = some (r1,r2,r3,r4,r5,r6):=by rw [if_neg (show ¬ (false = true) by decide)] at H;exact H
      clear H
      have H:=H1
      clear H1
      by_cases c28 : 0 ≤ a1
      rotate_left
      ·rw [if_neg c28] at H
       exact absurd H (by simp)
      rw [if_pos c28] at H
      have c28b0:=eq_true c28
      have c28b1 : decide (0 ≤ a1) = true:=decide_eq_true c28
      clear c28
      by_cases c29 : a1 ≤ t115
      rotate_left
      ·rw [if_neg c29] at H
       exact absurd H (by simp)
      rw [if_pos c29] at H
      have c29b0:=eq_true c29
      have c29b1 : decide (a1 ≤ t115) = true:=decide_eq_true c29
      clear c29
      by_cases c30 : t115 ≤ (a0.size : Int)
      rotate_left
      ·rw [if_neg c30] at H
       exact absurd H (by simp)
      rw [if_pos c30] at H
      have c30b0:=eq_true c30
      have c30b1 : decide (t115 ≤ (a0.size : Int)) = true:=decide_eq_true c30
      clear c30
      simp only [Option.some.injEq,Prod.mk.injEq] at H
      obtain ⟨rfl,rfl,rfl,rfl,rfl,rfl⟩:=H
      go_wp2_with (first|((with_reducible refine gate_callee (f:=66) rfl ?_);refine goesL_ (some 35) rfl rfl Try.func66 (by kernel_rfl) rfl #[.string a0,.int .i64 a1] rfl (by (try simp only [List.map_toArray,List.map_cons,List.map_nil]);first|done|rfl|(simp only [List.length_drop,List.length_take];rfl)) ?_;(with_reducible refine (spec_l05Run.calls kj8 a0 a1 t115 _ A18.out).mono ?_);rintro e w' ⟨rfl,⟨nd,rfl⟩⟩;refine ⟨_,rfl,?_⟩;(try (rw [drewN_self wc];generalize hq_ : World.drewN wc _ = wc;have n0_ : Aside0 (wc.heap[gb111]? = some (.cells #[.int .i64 0,.string (⟨#[]⟩ : ByteArray),.int .i64 0,.int .i64 0,.bool false] 46 (0,0))):=⟨by rw [← hq_];exact (by (with_reducible repeat (first|refine blk_drewN ?_ _|refine blk_drew ?_|refine blk_alloc ?_ _));exact BK111.out)⟩;have n1_ : Aside0 (wc.heap[gb112]? = some (.cells #[.int .i64 6,.string (a0.extract (a1 : Int).toNat ((wrap64 (a1 + 1)) : Int).toNat),.int .i64 0,.int .i64 a1,.bool false] 46 (0,0))):=⟨by rw [← hq_];exact (by (with_reducible repeat (first|refine blk_drewN ?_ _|refine blk_drew ?_|refine blk_alloc ?_ _));exact BK112.out)⟩;have n2_ : Aside0 (Below w.heap.size w wc):=⟨by rw [← hq_];exact (by repeat (first|(with_reducible first|exact HB.out|apply below_alloc|apply pw_below_drewN|apply below_drew1|refine below_set ?_ GE111.out|refine below_set ?_ GE112.out)|exact HB.out))⟩;clear BK111 BK112 HB hq_;have BK111:=n0_;have BK112:=n1_;have HB:=n2_;clear n0_ n1_ n2_;(try have hyq111_0:=(blk_cell BK111.out 0).trans (rfl : _ = some _));(try have hyf111_0:=blk_frozen BK111.out 0);(try have hyq111_1:=(blk_cell BK111.out 1).trans (rfl : _ = some _));(try have hyf111_1:=blk_frozen BK111.out 1);(try have hyq111_2:=(blk_cell BK111.out 2).trans (rfl : _ = some _));(try have hyf111_2:=blk_frozen BK111.out 2);(try have hyq111_3:=(blk_cell BK111.out 3).trans (rfl : _ = some _));(try have hyf111_3:=blk_frozen BK111.out 3);(try have hyq112_0:=(blk_cell BK112.out 0).trans (rfl : _ = some _));(try have hyf112_0:=blk_frozen BK112.out 0);(try have hyq112_1:=(blk_cell BK112.out 1).trans (rfl : _ = some _));(try have hyf112_1:=blk_frozen BK112.out 1);(try have hyq112_2:=(blk_cell BK112.out 2).trans (rfl : _ = some _));(try have hyf112_2:=blk_frozen BK112.out 2);(try have hyq112_3:=(blk_cell BK112.out 3).trans (rfl : _ = some _));(try have hyf112_3:=blk_frozen BK112.out 3)));have hnb31:=NB112_111.out;have hnc31:=NB111_112.out;have hcz32_0 : wc.cell? ⟨gb112,0,none⟩ = some (.int .i64 6):=(blk_cell BK112.out 0).trans rfl;have hcz32_1 : wc.cell? ⟨gb112,1,none⟩ = some (.string (a0.extract (a1 : Int).toNat ((wrap64 (a1 + 1)) : Int).toNat)):=(blk_cell BK112.out 1).trans rfl;have hcz32_2 : wc.cell? ⟨gb112,2,none⟩ = some (.int .i64 0):=(blk_cell BK112.out 2).trans rfl;have hcz32_3 : wc.cell? ⟨gb112,3,none⟩ = some (.int .i64 a1):=(blk_cell BK112.out 3).trans rfl;have hcz32_4 : wc.cell? ⟨gb112,4,none⟩ = some (.bool false):=(blk_cell BK112.out 4).trans rfl;have hfz32_0:=blk_frozen BK112.out 0;have hfz32_1:=blk_frozen BK112.out 1;have hfz32_2:=blk_frozen BK112.out 2;have hfz32_3:=blk_frozen BK112.out 3;have hfz32_4:=blk_frozen BK112.out 4)|((with_reducible refine gate_callee (f:=65) rfl ?_);refine goesL_ (some 42) rfl rfl Try.func65 (by kernel_rfl) rfl #[.int .u8 (bt a0 a1)] rfl (by (try simp only [List.map_toArray,List.map_cons,List.map_nil]);first|done|rfl|(simp only [List.length_drop,List.length_take];rfl)) ?_;(with_reducible refine (spec_l05Great.calls (bt a0 a1) false _ A20.out).mono ?_);rintro e w' ⟨rfl,⟨nd,rfl⟩⟩;refine ⟨_,rfl,?_⟩;have hcz33_0 : wc.cell? ⟨gb111,0,none⟩ = some (.int .i64 0):=(blk_cell BK111.out 0).trans rfl;have hcz33_1 : wc.cell? ⟨gb111,1,none⟩ = some (.string (⟨#[]⟩ : ByteArray)):=(blk_cell BK111.out 1).trans rfl;have hcz33_2 : wc.cell? ⟨gb111,2,none⟩ = some (.int .i64 0):=(blk_cell BK111.out 2).trans rfl;have hcz33_3 : wc.cell? ⟨gb111,3,none⟩ = some (.int .i64 0):=(blk_cell BK111.out 3).trans rfl;have hcz33_4 : wc.cell? ⟨gb111,4,none⟩ = some (.bool false):=(blk_cell BK111.out 4).trans rfl;have hfz33_0:=blk_frozen BK111.out 0;have hfz33_1:=blk_frozen BK111.out 1;have hfz33_2:=blk_frozen BK111.out 2;have hfz33_3:=blk_frozen BK111.out 3;have hfz33_4:=blk_frozen BK111.out 4))
      refine bodyPost_ret (results_ct rfl _ _ gb111 46 #[.int .i64 1,.string (a0.extract (a1 : Int).toNat (t115 : Int).toNat),.int .i64 0,.int .i64 a1,.bool false] (0,0) _ rfl (by (with_reducible repeat (first|refine blk_drewN ?_ _|refine blk_drew ?_|refine blk_alloc ?_ _));refine blk_put (cs:=#[.int .i64 1,.string (a0.extract (a1 : Int).toNat (t115 : Int).toNat),.int .i64 0,.int .i64 a1,.bool false]) ?_ 4 _ rfl;(with_reducible repeat (first|refine blk_drewN ?_ _|refine blk_drew ?_|refine blk_alloc ?_ _));refine blk_put (cs:=#[.int .i64 1,.string (a0.extract (a1 : Int).toNat (t115 : Int).toNat),.int .i64 0,.int .i64 0,.bool false]) ?_ 3 _ rfl;(with_reducible repeat (first|refine blk_drewN ?_ _|refine blk_drew ?_|refine blk_alloc ?_ _));refine blk_put (cs:=#[.int .i64 1,.string (a0.extract (a1 : Int).toNat (t115 : Int).toNat),.int .i64 0,.int .i64 0,.bool false]) ?_ 2 _ rfl;(with_reducible repeat (first|refine blk_drewN ?_ _|refine blk_drew ?_|refine blk_alloc ?_ _));refine blk_put (cs:=#[.int .i64 1,.string (⟨#[]⟩ : ByteArray),.int .i64 0,.int .i64 0,.bool false]) ?_ 1 _ rfl;(with_reducible repeat (first|refine blk_drewN ?_ _|refine blk_drew ?_|refine blk_alloc ?_ _));refine blk_put (cs:=#[.int .i64 0,.string (⟨#[]⟩ : ByteArray),.int .i64 0,.int .i64 0,.bool false]) ?_ 0 _ rfl;(with_reducible repeat (first|refine blk_drewN ?_ _|refine blk_drew ?_|refine blk_alloc ?_ _));refine blk_far ?_ NB111_112.out _;(with_reducible repeat (first|refine blk_drewN ?_ _|refine blk_drew ?_|refine blk_alloc ?_ _));refine blk_far ?_ NB111_112.out _;(with_reducible repeat (first|refine blk_drewN ?_ _|refine blk_drew ?_|refine blk_alloc ?_ _));exact BK111.out) Try.underlying46 rfl (by kernel_rfl)) rfl ?_
      exact ⟨by first|rfl|(simp [errW_none,errW_some] <;> rfl)|(simp [*,errW_none,errW_some] <;> rfl),by repeat (first|(with_reducible first|exact HB.out|apply below_alloc|apply pw_below_drewN|apply below_drew1|refine below_set ?_ GE111.out|refine below_set ?_ GE112.out)|exact HB.out)⟩
    ·rw [if_neg c19] at H
     have c19b0 : decide ((wrap64 (t115 - a1)) ≤ 20) = false:=decide_eq_false c19
     clear c19
     simp only [Option.some.injEq,Prod.mk.injEq] at H
     obtain ⟨rfl,rfl,rfl,rfl,rfl,rfl⟩:=H
     go_wp2_with (first|((with_reducible refine gate_callee (f:=66) rfl ?_);refine goesL_ (some 35) rfl rfl Try.func66 (by kernel_rfl) rfl #[.string a0,.int .i64 a1] rfl (by (try simp only [List.map_toArray,List.map_cons,List.map_nil]);first|done|rfl|(simp only [List.length_drop,List.length_take];rfl)) ?_;(with_reducible refine (spec_l05Run.calls kj8 a0 a1 t115 _ A18.out).mono ?_);rintro e w' ⟨rfl,⟨nd,rfl⟩⟩;refine ⟨_,rfl,?_⟩;(try (rw [drewN_self wc];generalize hq_ : World.drewN wc _ = wc;have n0_ : Aside0 (wc.heap[gb111]? = some (.cells #[.int .i64 0,.string (⟨#[]⟩ : ByteArray),.int .i64 0,.int .i64 0,.bool false] 46 (0,0))):=⟨by rw [← hq_];exact (by (with_reducible repeat (first|refine blk_drewN ?_ _|refine blk_drew ?_|refine blk_alloc ?_ _));exact BK111.out)⟩;have n1_ : Aside0 (wc.heap[gb112]? = some (.cells #[.int .i64 6,.string (a0.extract (a1 : Int).toNat ((wrap64 (a1 + 1)) : Int).toNat),.int .i64 0,.int .i64 a1,.bool false] 46 (0,0))):=⟨by rw [← hq_];exact (by (with_reducible repeat (first|refine blk_drewN ?_ _|refine blk_drew ?_|refine blk_alloc ?_ _));exact BK112.out)⟩;have n2_ : Aside0 (Below w.heap.size w wc):=⟨by rw [← hq_];exact (by repeat (first|(with_reducible first|exact HB.out|apply below_alloc|apply pw_below_drewN|apply below_drew1|refine below_set ?_ GE111.out|refine below_set ?_ GE112.out)|exact HB.out))⟩;clear BK111 BK112 HB hq_;have BK111:=n0_;have BK112:=n1_;have HB:=n2_;clear n0_ n1_ n2_;(try have hyq111_0:=(blk_cell BK111.out 0).trans (rfl : _ = some _));(try have hyf111_0:=blk_frozen BK111.out 0);(try have hyq111_1:=(blk_cell BK111.out 1).trans (rfl : _ = some _));(try have hyf111_1:=blk_frozen BK111.out 1);(try have hyq111_2:=(blk_cell BK111.out 2).trans (rfl : _ = some _));(try have hyf111_2:=blk_frozen BK111.out 2);(try have hyq111_3:=(blk_cell BK111.out 3).trans (rfl : _ = some _));(try have hyf111_3:=blk_frozen BK111.out 3);(try have hyq112_0:=(blk_cell BK112.out 0).trans (rfl : _ = some _));(try have hyf112_0:=blk_frozen BK112.out 0);(try have hyq112_1:=(blk_cell BK112.out 1).trans (rfl : _ = some _));(try have hyf112_1:=blk_frozen BK112.out 1);(try have hyq112_2:=(blk_cell BK112.out 2).trans (rfl : _ = some _));(try have hyf112_2:=blk_frozen BK112.out 2);(try have hyq112_3:=(blk_cell BK112.out 3).trans (rfl : _ = some _));(try have hyf112_3:=blk_frozen BK112.out 3)));have hnb34:=NB112_111.out;have hnc34:=NB111_112.out;have hcz35_0 : wc.cell? ⟨gb112,0,none⟩ = some (.int .i64 6):=(blk_cell BK112.out 0).trans rfl;have hcz35_1 : wc.cell? ⟨gb112,1,none⟩ = some (.string (a0.extract (a1 : Int).toNat ((wrap64 (a1 + 1)) : Int).toNat)):=(blk_cell BK112.out 1).trans rfl;have hcz35_2 : wc.cell? ⟨gb112,2,none⟩ = some (.int .i64 0):=(blk_cell BK112.out 2).trans rfl;have hcz35_3 : wc.cell? ⟨gb112,3,none⟩ = some (.int .i64 a1):=(blk_cell BK112.out 3).trans rfl;have hcz35_4 : wc.cell? ⟨gb112,4,none⟩ = some (.bool false):=(blk_cell BK112.out 4).trans rfl;have hfz35_0:=blk_frozen BK112.out 0;have hfz35_1:=blk_frozen BK112.out 1;have hfz35_2:=blk_frozen BK112.out 2;have hfz35_3:=blk_frozen BK112.out 3;have hfz35_4:=blk_frozen BK112.out 4;have hcz36_0 : wc.cell? ⟨gb111,0,none⟩ = some (.int .i64 0):=(blk_cell BK111.out 0).trans rfl;have hcz36_1 : wc.cell? ⟨gb111,1,none⟩ = some (.string (⟨#[]⟩ : ByteArray)):=(blk_cell BK111.out 1).trans rfl;have hcz36_2 : wc.cell? ⟨gb111,2,none⟩ = some (.int .i64 0):=(blk_cell BK111.out 2).trans rfl;have hcz36_3 : wc.cell? ⟨gb111,3,none⟩ = some (.int .i64 0):=(blk_cell BK111.out 3).trans rfl;have hcz36_4 : wc.cell? ⟨gb111,4,none⟩ = some (.bool false):=(blk_cell BK111.out 4).trans rfl;have hfz36_0:=blk_frozen BK111.out 0;have hfz36_1:=blk_frozen BK111.out 1;have hfz36_2:=blk_frozen BK111.out 2;have hfz36_3:=blk_frozen BK111.out 3;have hfz36_4:=blk_frozen BK111.out 4))
     refine bodyPost_ret (results_ct rfl _ _ gb111 46 #[.int .i64 6,.string (a0.extract (a1 : Int).toNat ((wrap64 (a1 + 1)) : Int).toNat),.int .i64 0,.int .i64 a1,.bool false] (0,0) _ rfl (by (with_reducible repeat (first|refine blk_drewN ?_ _|refine blk_drew ?_|refine blk_alloc ?_ _));refine blk_put (cs:=#[.int .i64 6,.string (a0.extract (a1 : Int).toNat ((wrap64 (a1 + 1)) : Int).toNat),.int .i64 0,.int .i64 a1,.bool false]) ?_ 4 _ rfl;(with_reducible repeat (first|refine blk_drewN ?_ _|refine blk_drew ?_|refine blk_alloc ?_ _));refine blk_put (cs:=#[.int .i64 6,.string (a0.extract (a1 : Int).toNat ((wrap64 (a1 + 1)) : Int).toNat),.int .i64 0,.int .i64 0,.bool false]) ?_ 3 _ rfl;(with_reducible repeat (first|refine blk_drewN ?_ _|refine blk_drew ?_|refine blk_alloc ?_ _));refine blk_put (cs:=#[.int .i64 6,.string (a0.extract (a1 : Int).toNat ((wrap64 (a1 + 1)) : Int).toNat),.int .i64 0,.int .i64 0,.bool false]) ?_ 2 _ rfl;(with_reducible repeat (first|refine blk_drewN ?_ _|refine blk_drew ?_|refine blk_alloc ?_ _));refine blk_put (cs:=#[.int .i64 6,.string (⟨#[]⟩ : ByteArray),.int .i64 0,.int .i64 0,.bool false]) ?_ 1 _ rfl;(with_reducible repeat (first|refine blk_drewN ?_ _|refine blk_drew ?_|refine blk_alloc ?_ _));refine blk_put (cs:=#[.int .i64 0,.string (⟨#[]⟩ : ByteArray),.int .i64 0,.int .i64 0,.bool false]) ?_ 0 _ rfl;(with_reducible repeat (first|refine blk_drewN ?_ _|refine blk_drew ?_|refine blk_alloc ?_ _));exact BK111.out) Try.underlying46 rfl (by kernel_rfl)) rfl ?_
     exact ⟨by first|rfl|(simp [errW_none,errW_some] <;> rfl)|(simp [*,errW_none,errW_some] <;> rfl),by repeat (first|(with_reducible first|exact HB.out|apply below_alloc|apply pw_below_drewN|apply below_drew1|refine below_set ?_ GE111.out|refine below_set ?_ GE112.out)|exact HB.out)⟩
   ·replace c17:=Bool.eq_false_iff.mpr c17
    subst c17
    have H1 : ((spec_l05Figure.f (bt a0 a1)).bind fun t117 => (if t117 = true then (spec_l05Sign.l0 kj8 a0 a1 (wrap64 (a1 + 1)) a1 0 6 (a0.extract (a1 : Int).toNat ((wrap64 (a1 + 1)) : Int).toNat) 0 a1 false) else (if (bt a0 a1) = 39 then ((spec_l05Quoted.f kj8 a0 a1).bind fun t119 => (if t119 > 0 then (if 0 ≤ (wrap64 (a1 + 1)) then (if (wrap64 (a1 + 1)) ≤ (wrap64 (t119 - 1)) then (if (wrap64 (t119 - 1)) ≤ (a0.size : Int) then (some (1,a0.extract ((wrap64 (a1 + 1)) : Int).toNat ((wrap64 (t119 - 1)) : Int).toNat,0,a1,false,t119)) else (none)) else (none)) else (none)) else (some (6,(a0.extract (a1 : Int).toNat ((wrap64 (a1 + 1)) : Int).toNat),0,a1,false,(wrap64 (a1 + 1)))))) else (if (bt a0 a1) = 33 then (spec_l05Sign.j2 kj8 a0 a1 (bt a0 a1) (wrap64 (a1 + 1)) true 6 (a0.extract (a1 : Int).toNat ((wrap64 (a1 + 1)) : Int).toNat) 0 a1 false) else (spec_l05Sign.j2 kj8 a0 a1 (bt a0 a1) (wrap64 (a1 + 1)) ((bt a0 a1) == 59) 6 (a0.extract (a1 : Int).toNat ((wrap64 (a1 + 1)) : Int).toNat) 0 a1 false))))) = some (r1,r2,r3,r4,r5,r6):=by rw [if_neg (show ¬ (false = true) by decide)] at H;exact H
    clear H
    have H:=H1
    clear H1
    replace H:=Option.bind_eq_some_iff.mp H
    obtain ⟨t117,A370,H⟩:=H
    replace H : (if t117 = true then (spec_l05Sign.l0 kj8 a0 a1 (wrap64 (a1 + 1)) a1 0 6 (a0.extract (a1 : Int).toNat ((wrap64 (a1 + 1)) : Int).toNat) 0 a1 false) else (if (bt a0 a1) = 39 then ((spec_l05Quoted.f kj8 a0 a1).bind fun t119 => (if t119 > 0 then (if 0 ≤ (wrap64 (a1 + 1)) then (if (wrap64 (a1 + 1)) ≤ (wrap64 (t119 - 1)) then (if (wrap64 (t119 - 1)) ≤ (a0.size : Int) then (some (1,a0.extract ((wrap64 (a1 + 1)) : Int).toNat ((wrap64 (t119 - 1)) : Int).toNat,0,a1,false,t119)) else (none)) else (none)) else (none)) else (some (6,(a0.extract (a1 : Int).toNat ((wrap64 (a1 + 1)) : Int).toNat),0,a1,false,(wrap64 (a1 + 1)))))) else (if (bt a0 a1) = 33 then (spec_l05Sign.j2 kj8 a0 a1 (bt a0 a1) (wrap64 (a1 + 1)) true 6 (a0.extract (a1 : Int).toNat ((wrap64 (a1 + 1)) : Int).toNat) 0 a1 false) else (spec_l05Sign.j2 kj8 a0 a1 (bt a0 a1) (wrap64 (a1 + 1)) ((bt a0 a1) == 59) 6 (a0.extract (a1 : Int).toNat ((wrap64 (a1 + 1)) : Int).toNat) 0 a1 false)))) = some (r1,r2,r3,r4,r5,r6):=H
    have A37:=Aside0.mk A370
    clear A370
    by_cases c38 : t117 = true
    ·subst c38
     have H1 : (spec_l05Sign.l0 kj8 a0 a1 (wrap64 (a1 + 1)) a1 0 6 (a0.extract (a1 : Int).toNat ((wrap64 (a1 + 1)) : Int).toNat) 0 a1 false) = some (r1,r2,r3,r4,r5,r6):=by rw [if_pos rfl] at H;exact H
     clear H
     have H:=H1
     clear H1
     have H':=Aside0.mk H
     clear H
     go_wp2_with (first|((with_reducible refine gate_callee (f:=67) rfl ?_);refine goesL_ (some 52) rfl rfl Try.func67 (by kernel_rfl) rfl #[.int .u8 (bt a0 a1)] rfl (by (try simp only [List.map_toArray,List.map_cons,List.map_nil]);first|done|rfl|(simp only [List.length_drop,List.length_take];rfl)) ?_;(with_reducible refine (spec_l05Figure.calls (bt a0 a1) true _ A37.out).mono ?_);rintro e w' ⟨rfl,⟨nd,rfl⟩⟩;refine ⟨_,rfl,?_⟩))
     go_loopg [10,11] kj8 (fun kq v10 v11 w' => ∃ (x10_2 : Int) (x11_2 : Int),v10 = .int .i64 x10_2 ∧ v11 = .int .i64 x11_2 ∧ Aside0 (spec_l05Sign.l0 kq a0 a1 (wrap64 (a1 + 1)) x10_2 x11_2 6 (a0.extract (a1 : Int).toNat ((wrap64 (a1 + 1)) : Int).toNat) 0 a1 false = some (r1,r2,r3,r4,r5,r6)) ∧ Aside0 (kq ≤ kj8) ∧ Aside0 (w'.heap[gb111]? = some (.cells #[.int .i64 0,.string (⟨#[]⟩ : ByteArray),.int .i64 0,.int .i64 0,.bool false] 46 (0,0))) ∧ Aside0 (w'.heap[gb112]? = some (.cells #[.int .i64 6,.string (a0.extract (a1 : Int).toNat ((wrap64 (a1 + 1)) : Int).toNat),.int .i64 0,.int .i64 a1,.bool false] 46 (0,0))) ∧ Aside0 (Below w.heap.size w w'))
     case atStart => exact ⟨(a1),(0),(by first|rfl|(simp;done)|(simp [*];done)),(by first|rfl|(simp;done)|(simp [*];done)),H',⟨Nat.le_refl _⟩,⟨by (with_reducible repeat (first|refine blk_drewN ?_ _|refine blk_drew ?_|refine blk_alloc ?_ _));exact BK111.out⟩,⟨by (with_reducible repeat (first|refine blk_drewN ?_ _|refine blk_drew ?_|refine blk_alloc ?_ _));exact BK112.out⟩,⟨by repeat (first|(with_reducible first|exact HB.out|apply below_alloc|apply pw_below_drewN|apply below_drew1|refine below_set ?_ GE111.out|refine below_set ?_ GE112.out)|exact HB.out)⟩⟩
     case round =>
      clear H'
      try clear c3
      try clear c3b0
      try clear c4
      try clear c4b0
      try clear p5
      try clear q5
      try clear hx5
      try clear c6b0
      try clear c7
      try clear c7b0
      try clear c7b1
      try clear c8
      try clear c8b0
      try clear c8b1
      try clear c15
      try clear c17
      try clear c19
      try clear c19b0
      try clear c21
      try clear c22
      try clear c22b0
      try clear c22b1
      try clear c23
      try clear c23b0
      try clear c23b1
      try clear c24
      try clear c24b0
      try clear c24b1
      try clear c28
      try clear c28b0
      try clear c28b1
      try clear c29
      try clear c29b0
      try clear c29b1
      try clear c30
      try clear c30b0
      try clear c30b1
      try clear c38
      try clear hcz13_0
      try clear hcz13_1
      try clear hcz13_2
      try clear hcz13_3
      try clear hcz13_4
      try clear hcz26_0
      try clear hcz26_1
      try clear hcz26_2
      try clear hcz26_3
      try clear hcz26_4
      try clear hcz27_0
      try clear hcz27_1
      try clear hcz27_2
      try clear hcz27_3
      try clear hcz27_4
      try clear hcz32_0
      try clear hcz32_1
      try clear hcz32_2
      try clear hcz32_3
      try clear hcz32_4
      try clear hcz33_0
      try clear hcz33_1
      try clear hcz33_2
      try clear hcz33_3
      try clear hcz33_4
      try clear hcz35_0
      try clear hcz35_1
      try clear hcz35_2
      try clear hcz35_3
      try clear hcz35_4
      try clear hcz36_0
      try clear hcz36_1
      try clear hcz36_2
      try clear hcz36_3
      try clear hcz36_4
      try clear hfz13_0
      try clear hfz13_1
      try clear hfz13_2
      try clear hfz13_3
      try clear hfz13_4
      try clear hfz26_0
      try clear hfz26_1
      try clear hfz26_2
      try clear hfz26_3
      try clear hfz26_4
      try clear hfz27_0
      try clear hfz27_1
      try clear hfz27_2
      try clear hfz27_3
      try clear hfz27_4
      try clear hfz32_0
      try clear hfz32_1
      try clear hfz32_2
      try clear hfz32_3
      try clear hfz32_4
      try clear hfz33_0
      try clear hfz33_1
      try clear hfz33_2
      try clear hfz33_3
      try clear hfz33_4
      try clear hfz35_0
      try clear hfz35_1
      try clear hfz35_2
      try clear hfz35_3
      try clear hfz35_4
      try clear hfz36_0
      try clear hfz36_1
      try clear hfz36_2
      try clear hfz36_3
      try clear hfz36_4
      try clear p5
      try clear q5
      try clear BK111
      try clear BK112
      obtain ⟨x10_2,x11_2,rfl,rfl,HA,HK2,BK111,BK112,HB⟩:=hrel
      cases gk with
      | zero => exact absurd HA.out (by simp [spec_l05Sign.l0])
      | succ k2 =>
       have H:=HA.out
       clear HA
       simp only [spec_l05Sign.l0] at H
       by_cases c39 : x10_2 < (a0.size : Int)
       ·rw [if_pos c39] at H
        have c39b0 : decide (x10_2 < (a0.size : Int)) = true:=decide_eq_true c39
        clear c39
        by_cases c40 : 0 ≤ x10_2
        rotate_left
        ·rw [if_neg c40] at H
         exact absurd H (by simp)
        rw [if_pos c40] at H
        have c40b0 : decide (0 ≤ x10_2) = true:=decide_eq_true c40
        clear c40
        replace H:=Option.bind_eq_some_iff.mp H
        obtain ⟨t118,A420,H⟩:=H
        replace H : (if t118 = true then (if x11_2 ≤ 999999999 then (spec_l05Sign.l0 k2 a0 a1 (wrap64 (a1 + 1)) (wrap64 (x10_2 + 1)) (wrap64 ((wrap64 ((wrap64 (10 * x11_2)) + (wrap64 (bt a0 x10_2)))) - 48)) 6 (a0.extract (a1 : Int).toNat ((wrap64 (a1 + 1)) : Int).toNat) 0 a1 false) else (some (6,(a0.extract (a1 : Int).toNat ((wrap64 (a1 + 1)) : Int).toNat),0,a1,false,(wrap64 (a1 + 1))))) else (if x11_2 ≤ 999999999 then (some (3,(⟨#[]⟩ : ByteArray),x11_2,a1,false,x10_2)) else (some (6,(a0.extract (a1 : Int).toNat ((wrap64 (a1 + 1)) : Int).toNat),0,a1,false,(wrap64 (a1 + 1)))))) = some (r1,r2,r3,r4,r5,r6):=H
        have A42:=Aside0.mk A420
        clear A420
        by_cases c43 : t118 = true
        ·subst c43
         have H1 : (if x11_2 ≤ 999999999 then (spec_l05Sign.l0 k2 a0 a1 (wrap64 (a1 + 1)) (wrap64 (x10_2 + 1)) (wrap64 ((wrap64 ((wrap64 (10 * x11_2)) + (wrap64 (bt a0 x10_2)))) - 48)) 6 (a0.extract (a1 : Int).toNat ((wrap64 (a1 + 1)) : Int).toNat) 0 a1 false) else (some (6,(a0.extract (a1 : Int).toNat ((wrap64 (a1 + 1)) : Int).toNat),0,a1,false,(wrap64 (a1 + 1))))) = some (r1,r2,r3,r4,r5,r6):=by rw [if_pos rfl] at H;exact H
         clear H
         have H:=H1
         clear H1
         by_cases c44 : x11_2 ≤ 999999999
         ·rw [if_pos c44] at H
          have c44b0 : decide (x11_2 ≤ 999999999) = true:=decide_eq_true c44
          clear c44
          have H':=Aside0.mk H
          clear H
          have p41 : 0 ≤ (x10_2 : Int):=of_decide_eq_true (by first|(with_reducible assumption)|assumption)
          have q41 : x10_2 < (a0.size : Int):=of_decide_eq_true (by first|(with_reducible assumption)|assumption)
          have hx41:=bt_at a0 x10_2
          replace p41:=eq_true p41
          replace q41:=eq_true q41
          go_wp2_with (first|(go_at_call 67;(with_reducible refine (spec_l05Figure.calls (bt a0 x10_2) true _ A42.out).mono ?_);rintro e w' ⟨rfl,⟨nd,rfl⟩⟩;have p45 : 0 ≤ (x10_2 : Int):=of_decide_eq_true (by first|(with_reducible assumption)|assumption);have q45 : x10_2 < (a0.size : Int):=of_decide_eq_true (by first|(with_reducible assumption)|assumption);have hx45:=bt_at a0 x10_2;replace p45:=eq_true p45;replace q45:=eq_true q45))
          go_roundg k2
          case measure => have:=HJ8.out;have:=HK2.out;omega
          case rel => exact ⟨(wrap64 (x10_2 + 1)),(wrap64 ((wrap64 ((wrap64 (10 * x11_2)) + (wrap64 (bt a0 x10_2)))) - 48)),(by first|rfl|(simp;done)|(simp [*];done)),(by first|rfl|(simp;done)|(simp [*];done)),H',⟨by have:=HJ8.out;have:=HK2.out;omega⟩,⟨by (with_reducible repeat (first|refine blk_drewN ?_ _|refine blk_drew ?_|refine blk_alloc ?_ _));exact BK111.out⟩,⟨by (with_reducible repeat (first|refine blk_drewN ?_ _|refine blk_drew ?_|refine blk_alloc ?_ _));exact BK112.out⟩,⟨by repeat (first|(with_reducible first|exact HB.out|apply below_alloc|apply pw_below_drewN|apply below_drew1|refine below_set ?_ GE111.out|refine below_set ?_ GE112.out)|exact HB.out)⟩⟩
         ·rw [if_neg c44] at H
          have c44b0 : decide (x11_2 ≤ 999999999) = false:=decide_eq_false c44
          clear c44
          simp only [Option.some.injEq,Prod.mk.injEq] at H
          obtain ⟨rfl,rfl,rfl,rfl,rfl,rfl⟩:=H
          have p41 : 0 ≤ (x10_2 : Int):=of_decide_eq_true (by first|(with_reducible assumption)|assumption)
          have q41 : x10_2 < (a0.size : Int):=of_decide_eq_true (by first|(with_reducible assumption)|assumption)
          have hx41:=bt_at a0 x10_2
          replace p41:=eq_true p41
          replace q41:=eq_true q41
          go_wp2_with (first|(go_at_call 67;(with_reducible refine (spec_l05Figure.calls (bt a0 x10_2) true _ A42.out).mono ?_);rintro e w' ⟨rfl,⟨nd,rfl⟩⟩;(try (rw [drewN_self wr];generalize hq_ : World.drewN wr _ = wr;have n0_ : Aside0 (wr.heap[gb111]? = some (.cells #[.int .i64 0,.string (⟨#[]⟩ : ByteArray),.int .i64 0,.int .i64 0,.bool false] 46 (0,0))):=⟨by rw [← hq_];exact (by (with_reducible repeat (first|refine blk_drewN ?_ _|refine blk_drew ?_|refine blk_alloc ?_ _));exact BK111.out)⟩;have n1_ : Aside0 (wr.heap[gb112]? = some (.cells #[.int .i64 6,.string (a0.extract (a1 : Int).toNat ((wrap64 (a1 + 1)) : Int).toNat),.int .i64 0,.int .i64 a1,.bool false] 46 (0,0))):=⟨by rw [← hq_];exact (by (with_reducible repeat (first|refine blk_drewN ?_ _|refine blk_drew ?_|refine blk_alloc ?_ _));exact BK112.out)⟩;have n2_ : Aside0 (Below w.heap.size w wr):=⟨by rw [← hq_];exact (by repeat (first|(with_reducible first|exact HB.out|apply below_alloc|apply pw_below_drewN|apply below_drew1|refine below_set ?_ GE111.out|refine below_set ?_ GE112.out)|exact HB.out))⟩;clear BK111 BK112 HB hq_;have BK111:=n0_;have BK112:=n1_;have HB:=n2_;clear n0_ n1_ n2_;(try have hyq111_0:=(blk_cell BK111.out 0).trans (rfl : _ = some _));(try have hyf111_0:=blk_frozen BK111.out 0);(try have hyq111_1:=(blk_cell BK111.out 1).trans (rfl : _ = some _));(try have hyf111_1:=blk_frozen BK111.out 1);(try have hyq111_2:=(blk_cell BK111.out 2).trans (rfl : _ = some _));(try have hyf111_2:=blk_frozen BK111.out 2);(try have hyq111_3:=(blk_cell BK111.out 3).trans (rfl : _ = some _));(try have hyf111_3:=blk_frozen BK111.out 3);(try have hyq112_0:=(blk_cell BK112.out 0).trans (rfl : _ = some _));(try have hyf112_0:=blk_frozen BK112.out 0);(try have hyq112_1:=(blk_cell BK112.out 1).trans (rfl : _ = some _));(try have hyf112_1:=blk_frozen BK112.out 1);(try have hyq112_2:=(blk_cell BK112.out 2).trans (rfl : _ = some _));(try have hyf112_2:=blk_frozen BK112.out 2);(try have hyq112_3:=(blk_cell BK112.out 3).trans (rfl : _ = some _));(try have hyf112_3:=blk_frozen BK112.out 3)));have hnb46:=NB112_111.out;have hnc46:=NB111_112.out;have hcz47_0 : wr.cell? ⟨gb112,0,none⟩ = some (.int .i64 6):=(blk_cell BK112.out 0).trans rfl;have hcz47_1 : wr.cell? ⟨gb112,1,none⟩ = some (.string (a0.extract (a1 : Int).toNat ((wrap64 (a1 + 1)) : Int).toNat)):=(blk_cell BK112.out 1).trans rfl;have hcz47_2 : wr.cell? ⟨gb112,2,none⟩ = some (.int .i64 0):=(blk_cell BK112.out 2).trans rfl;have hcz47_3 : wr.cell? ⟨gb112,3,none⟩ = some (.int .i64 a1):=(blk_cell BK112.out 3).trans rfl;have hcz47_4 : wr.cell? ⟨gb112,4,none⟩ = some (.bool false):=(blk_cell BK112.out 4).trans rfl;have hfz47_0:=blk_frozen BK112.out 0;have hfz47_1:=blk_frozen BK112.out 1;have hfz47_2:=blk_frozen BK112.out 2;have hfz47_3:=blk_frozen BK112.out 3;have hfz47_4:=blk_frozen BK112.out 4;have hcz48_0 : wr.cell? ⟨gb111,0,none⟩ = some (.int .i64 0):=(blk_cell BK111.out 0).trans rfl;have hcz48_1 : wr.cell? ⟨gb111,1,none⟩ = some (.string (⟨#[]⟩ : ByteArray)):=(blk_cell BK111.out 1).trans rfl;have hcz48_2 : wr.cell? ⟨gb111,2,none⟩ = some (.int .i64 0):=(blk_cell BK111.out 2).trans rfl;have hcz48_3 : wr.cell? ⟨gb111,3,none⟩ = some (.int .i64 0):=(blk_cell BK111.out 3).trans rfl;have hcz48_4 : wr.cell? ⟨gb111,4,none⟩ = some (.bool false):=(blk_cell BK111.out 4).trans rfl;have hfz48_0:=blk_frozen BK111.out 0;have hfz48_1:=blk_frozen BK111.out 1;have hfz48_2:=blk_frozen BK111.out 2;have hfz48_3:=blk_frozen BK111.out 3;have hfz48_4:=blk_frozen BK111.out 4))
          refine bodyPost_ret (results_ct rfl _ _ gb111 46 #[.int .i64 6,.string (a0.extract (a1 : Int).toNat ((wrap64 (a1 + 1)) : Int).toNat),.int .i64 0,.int .i64 a1,.bool false] (0,0) _ rfl (by (with_reducible repeat (first|refine blk_drewN ?_ _|refine blk_drew ?_|refine blk_alloc ?_ _));refine blk_put (cs:=#[.int .i64 6,.string (a0.extract (a1 : Int).toNat ((wrap64 (a1 + 1)) : Int).toNat),.int .i64 0,.int .i64 a1,.bool false]) ?_ 4 _ rfl;(with_reducible repeat (first|refine blk_drewN ?_ _|refine blk_drew ?_|refine blk_alloc ?_ _));refine blk_put (cs:=#[.int .i64 6,.string (a0.extract (a1 : Int).toNat ((wrap64 (a1 + 1)) : Int).toNat),.int .i64 0,.int .i64 0,.bool false]) ?_ 3 _ rfl;(with_reducible repeat (first|refine blk_drewN ?_ _|refine blk_drew ?_|refine blk_alloc ?_ _));refine blk_put (cs:=#[.int .i64 6,.string (a0.extract (a1 : Int).toNat ((wrap64 (a1 + 1)) : Int).toNat),.int .i64 0,.int .i64 0,.bool false]) ?_ 2 _ rfl;(with_reducible repeat (first|refine blk_drewN ?_ _|refine blk_drew ?_|refine blk_alloc ?_ _));refine blk_put (cs:=#[.int .i64 6,.string (⟨#[]⟩ : ByteArray),.int .i64 0,.int .i64 0,.bool false]) ?_ 1 _ rfl;(with_reducible repeat (first|refine blk_drewN ?_ _|refine blk_drew ?_|refine blk_alloc ?_ _));refine blk_put (cs:=#[.int .i64 0,.string (⟨#[]⟩ : ByteArray),.int .i64 0,.int .i64 0,.bool false]) ?_ 0 _ rfl;(with_reducible repeat (first|refine blk_drewN ?_ _|refine blk_drew ?_|refine blk_alloc ?_ _));exact BK111.out) Try.underlying46 rfl (by kernel_rfl)) rfl ?_
          exact ⟨by first|rfl|(simp [errW_none,errW_some] <;> rfl)|(simp [*,errW_none,errW_some] <;> rfl),by repeat (first|(with_reducible first|exact HB.out|apply below_alloc|apply pw_below_drewN|apply below_drew1|refine below_set ?_ GE111.out|refine below_set ?_ GE112.out)|exact HB.out)⟩
        ·replace c43:=Bool.eq_false_iff.mpr c43
         subst c43
         have H1 : (if x11_2 ≤ 999999999 then (some (3,(⟨#[]⟩ : ByteArray),x11_2,a1,false,x10_2)) else (some (6,(a0.extract (a1 : Int).toNat ((wrap64 (a1 + 1)) : Int).toNat),0,a1,false,(wrap64 (a1 + 1))))) = some (r1,r2,r3,r4,r5,r6):=by rw [if_neg (show ¬ (false = true) by decide)] at H;exact H
         clear H
         have H:=H1
         clear H1
         by_cases c49 : x11_2 ≤ 999999999
         ·rw [if_pos c49] at H
          have c49b0 : decide (x11_2 ≤ 999999999) = true:=decide_eq_true c49
          clear c49
          simp only [Option.some.injEq,Prod.mk.injEq] at H
          obtain ⟨rfl,rfl,rfl,rfl,rfl,rfl⟩:=H
          have p41 : 0 ≤ (x10_2 : Int):=of_decide_eq_true (by first|(with_reducible assumption)|assumption)
          have q41 : x10_2 < (a0.size : Int):=of_decide_eq_true (by first|(with_reducible assumption)|assumption)
          have hx41:=bt_at a0 x10_2
          replace p41:=eq_true p41
          replace q41:=eq_true q41
          go_wp2_with (first|(go_at_call 67;(with_reducible refine (spec_l05Figure.calls (bt a0 x10_2) false _ A42.out).mono ?_);rintro e w' ⟨rfl,⟨nd,rfl⟩⟩;(try (rw [drewN_self wr];generalize hq_ : World.drewN wr _ = wr;have n0_ : Aside0 (wr.heap[gb111]? = some (.cells #[.int .i64 0,.string (⟨#[]⟩ : ByteArray),.int .i64 0,.int .i64 0,.bool false] 46 (0,0))):=⟨by rw [← hq_];exact (by (with_reducible repeat (first|refine blk_drewN ?_ _|refine blk_drew ?_|refine blk_alloc ?_ _));exact BK111.out)⟩;have n1_ : Aside0 (wr.heap[gb112]? = some (.cells #[.int .i64 6,.string (a0.extract (a1 : Int).toNat ((wrap64 (a1 + 1)) : Int).toNat),.int .i64 0,.int .i64 a1,.bool false] 46 (0,0))):=⟨by rw [← hq_];exact (by (with_reducible repeat (first|refine blk_drewN ?_ _|refine blk_drew ?_|refine blk_alloc ?_ _));exact BK112.out)⟩;have n2_ : Aside0 (Below w.heap.size w wr):=⟨by rw [← hq_];exact (by repeat (first|(with_reducible first|exact HB.out|apply below_alloc|apply pw_below_drewN|apply below_drew1|refine below_set ?_ GE111.out|refine below_set ?_ GE112.out)|exact HB.out))⟩;clear BK111 BK112 HB hq_;have BK111:=n0_;have BK112:=n1_;have HB:=n2_;clear n0_ n1_ n2_;(try have hyq111_0:=(blk_cell BK111.out 0).trans (rfl : _ = some _));(try have hyf111_0:=blk_frozen BK111.out 0);(try have hyq111_1:=(blk_cell BK111.out 1).trans (rfl : _ = some _));(try have hyf111_1:=blk_frozen BK111.out 1);(try have hyq111_2:=(blk_cell BK111.out 2).trans (rfl : _ = some _));(try have hyf111_2:=blk_frozen BK111.out 2);(try have hyq111_3:=(blk_cell BK111.out 3).trans (rfl : _ = some _));(try have hyf111_3:=blk_frozen BK111.out 3);(try have hyq112_0:=(blk_cell BK112.out 0).trans (rfl : _ = some _));(try have hyf112_0:=blk_frozen BK112.out 0);(try have hyq112_1:=(blk_cell BK112.out 1).trans (rfl : _ = some _));(try have hyf112_1:=blk_frozen BK112.out 1);(try have hyq112_2:=(blk_cell BK112.out 2).trans (rfl : _ = some _));(try have hyf112_2:=blk_frozen BK112.out 2);(try have hyq112_3:=(blk_cell BK112.out 3).trans (rfl : _ = some _));(try have hyf112_3:=blk_frozen BK112.out 3)));have hnb50:=NB111_112.out;have hnc50:=NB112_111.out;have hcz51_0 : wr.cell? ⟨gb111,0,none⟩ = some (.int .i64 0):=(blk_cell BK111.out 0).trans rfl;have hcz51_1 : wr.cell? ⟨gb111,1,none⟩ = some (.string (⟨#[]⟩ : ByteArray)):=(blk_cell BK111.out 1).trans rfl;have hcz51_2 : wr.cell? ⟨gb111,2,none⟩ = some (.int .i64 0):=(blk_cell BK111.out 2).trans rfl;have hcz51_3 : wr.cell? ⟨gb111,3,none⟩ = some (.int .i64 0):=(blk_cell BK111.out 3).trans rfl;have hcz51_4 : wr.cell? ⟨gb111,4,none⟩ = some (.bool false):=(blk_cell BK111.out 4).trans rfl;have hfz51_0:=blk_frozen BK111.out 0;have hfz51_1:=blk_frozen BK111.out 1;have hfz51_2:=blk_frozen BK111.out 2;have hfz51_3:=blk_frozen BK111.out 3;have hfz51_4:=blk_frozen BK111.out 4))
          refine bodyPost_ret (results_ct rfl _ _ gb111 46 #[.int .i64 3,.string (⟨#[]⟩ : ByteArray),.int .i64 x11_2,.int .i64 a1,.bool false] (0,0) _ rfl (by (with_reducible repeat (first|refine blk_drewN ?_ _|refine blk_drew ?_|refine blk_alloc ?_ _));refine blk_put (cs:=#[.int .i64 3,.string (⟨#[]⟩ : ByteArray),.int .i64 x11_2,.int .i64 a1,.bool false]) ?_ 4 _ rfl;(with_reducible repeat (first|refine blk_drewN ?_ _|refine blk_drew ?_|refine blk_alloc ?_ _));refine blk_put (cs:=#[.int .i64 3,.string (⟨#[]⟩ : ByteArray),.int .i64 x11_2,.int .i64 0,.bool false]) ?_ 3 _ rfl;(with_reducible repeat (first|refine blk_drewN ?_ _|refine blk_drew ?_|refine blk_alloc ?_ _));refine blk_put (cs:=#[.int .i64 3,.string (⟨#[]⟩ : ByteArray),.int .i64 0,.int .i64 0,.bool false]) ?_ 2 _ rfl;(with_reducible repeat (first|refine blk_drewN ?_ _|refine blk_drew ?_|refine blk_alloc ?_ _));refine blk_put (cs:=#[.int .i64 3,.string (⟨#[]⟩ : ByteArray),.int .i64 0,.int .i64 0,.bool false]) ?_ 1 _ rfl;(with_reducible repeat (first|refine blk_drewN ?_ _|refine blk_drew ?_|refine blk_alloc ?_ _));refine blk_put (cs:=#[.int .i64 0,.string (⟨#[]⟩ : ByteArray),.int .i64 0,.int .i64 0,.bool false]) ?_ 0 _ rfl;(with_reducible repeat (first|refine blk_drewN ?_ _|refine blk_drew ?_|refine blk_alloc ?_ _));exact BK111.out) Try.underlying46 rfl (by kernel_rfl)) rfl ?_
          exact ⟨by first|rfl|(simp [errW_none,errW_some] <;> rfl)|(simp [*,errW_none,errW_some] <;> rfl),by repeat (first|(with_reducible first|exact HB.out|apply below_alloc|apply pw_below_drewN|apply below_drew1|refine below_set ?_ GE111.out|refine below_set ?_ GE112.out)|exact HB.out)⟩
         ·rw [if_neg c49] at H
          have c49b0 : decide (x11_2 ≤ 999999999) = false:=decide_eq_false c49
          clear c49
          simp only [Option.some.injEq,Prod.mk.injEq] at H
          obtain ⟨rfl,rfl,rfl,rfl,rfl,rfl⟩:=H
          have p41 : 0 ≤ (x10_2 : Int):=of_decide_eq_true (by first|(with_reducible assumption)|assumption)
          have q41 : x10_2 < (a0.size : Int):=of_decide_eq_true (by first|(with_reducible assumption)|assumption)
          have hx41:=bt_at a0 x10_2
          replace p41:=eq_true p41
          replace q41:=eq_true q41
          go_wp2_with (first|(go_at_call 67;(with_reducible refine (spec_l05Figure.calls (bt a0 x10_2) false _ A42.out).mono ?_);rintro e w' ⟨rfl,⟨nd,rfl⟩⟩;(try (rw [drewN_self wr];generalize hq_ : World.drewN wr _ = wr;have n0_ : Aside0 (wr.heap[gb111]? = some (.cells #[.int .i64 0,.string (⟨#[]⟩ : ByteArray),.int .i64 0,.int .i64 0,.bool false] 46 (0,0))):=⟨by rw [← hq_];exact (by (with_reducible repeat (first|refine blk_drewN ?_ _|refine blk_drew ?_|refine blk_alloc ?_ _));exact BK111.out)⟩;have n1_ : Aside0 (wr.heap[gb112]? = some (.cells #[.int .i64 6,.string (a0.extract (a1 : Int).toNat ((wrap64 (a1 + 1)) : Int).toNat),.int .i64 0,.int .i64 a1,.bool false] 46 (0,0))):=⟨by rw [← hq_];exact (by (with_reducible repeat (first|refine blk_drewN ?_ _|refine blk_drew ?_|refine blk_alloc ?_ _));exact BK112.out)⟩;have n2_ : Aside0 (Below w.heap.size w wr):=⟨by rw [← hq_];exact (by repeat (first|(with_reducible first|exact HB.out|apply below_alloc|apply pw_below_drewN|apply below_drew1|refine below_set ?_ GE111.out|refine below_set ?_ GE112.out)|exact HB.out))⟩;clear BK111 BK112 HB hq_;have BK111:=n0_;have BK112:=n1_;have HB:=n2_;clear n0_ n1_ n2_;(try have hyq111_0:=(blk_cell BK111.out 0).trans (rfl : _ = some _));(try have hyf111_0:=blk_frozen BK111.out 0);(try have hyq111_1:=(blk_cell BK111.out 1).trans (rfl : _ = some _));(try have hyf111_1:=blk_frozen BK111.out 1);(try have hyq111_2:=(blk_cell BK111.out 2).trans (rfl : _ = some _));(try have hyf111_2:=blk_frozen BK111.out 2);(try have hyq111_3:=(blk_cell BK111.out 3).trans (rfl : _ = some _));(try have hyf111_3:=blk_frozen BK111.out 3);(try have hyq112_0:=(blk_cell BK112.out 0).trans (rfl : _ = some _));(try have hyf112_0:=blk_frozen BK112.out 0);(try have hyq112_1:=(blk_cell BK112.out 1).trans (rfl : _ = some _));(try have hyf112_1:=blk_frozen BK112.out 1);(try have hyq112_2:=(blk_cell BK112.out 2).trans (rfl : _ = some _));(try have hyf112_2:=blk_frozen BK112.out 2);(try have hyq112_3:=(blk_cell BK112.out 3).trans (rfl : _ = some _));(try have hyf112_3:=blk_frozen BK112.out 3)));have hnb52:=NB112_111.out;have hnc52:=NB111_112.out;have hcz53_0 : wr.cell? ⟨gb112,0,none⟩ = some (.int .i64 6):=(blk_cell BK112.out 0).trans rfl;have hcz53_1 : wr.cell? ⟨gb112,1,none⟩ = some (.string (a0.extract (a1 : Int).toNat ((wrap64 (a1 + 1)) : Int).toNat)):=(blk_cell BK112.out 1).trans rfl;have hcz53_2 : wr.cell? ⟨gb112,2,none⟩ = some (.int .i64 0):=(blk_cell BK112.out 2).trans rfl;have hcz53_3 : wr.cell? ⟨gb112,3,none⟩ = some (.int .i64 a1):=(blk_cell BK112.out 3).trans rfl;have hcz53_4 : wr.cell? ⟨gb112,4,none⟩ = some (.bool false):=(blk_cell BK112.out 4).trans rfl;have hfz53_0:=blk_frozen BK112.out 0;have hfz53_1:=blk_frozen BK112.out 1;have hfz53_2:=blk_frozen BK112.out 2;have hfz53_3:=blk_frozen BK112.out 3;have hfz53_4:=blk_frozen BK112.out 4;have hcz54_0 : wr.cell? ⟨gb111,0,none⟩ = some (.int .i64 0):=(blk_cell BK111.out 0).trans rfl;have hcz54_1 : wr.cell? ⟨gb111,1,none⟩ = some (.string (⟨#[]⟩ : ByteArray)):=(blk_cell BK111.out 1).trans rfl;have hcz54_2 : wr.cell? ⟨gb111,2,none⟩ = some (.int .i64 0):=(blk_cell BK111.out 2).trans rfl;have hcz54_3 : wr.cell? ⟨gb111,3,none⟩ = some (.int .i64 0):=(blk_cell BK111.out 3).trans rfl;have hcz54_4 : wr.cell? ⟨gb111,4,none⟩ = some (.bool false):=(blk_cell BK111.out 4).trans rfl;have hfz54_0:=blk_frozen BK111.out 0;have hfz54_1:=blk_frozen BK111.out 1;have hfz54_2:=blk_frozen BK111.out 2;have hfz54_3:=blk_frozen BK111.out 3;have hfz54_4:=blk_frozen BK111.out 4))
          refine bodyPost_ret (results_ct rfl _ _ gb111 46 #[.int .i64 6,.string (a0.extract (a1 : Int).toNat ((wrap64 (a1 + 1)) : Int).toNat),.int .i64 0,.int .i64 a1,.bool false] (0,0) _ rfl (by (with_reducible repeat (first|refine blk_drewN ?_ _|refine blk_drew ?_|refine blk_alloc ?_ _));refine blk_put (cs:=#[.int .i64 6,.string (a0.extract (a1 : Int).toNat ((wrap64 (a1 + 1)) : Int).toNat),.int .i64 0,.int .i64 a1,.bool false]) ?_ 4 _ rfl;(with_reducible repeat (first|refine blk_drewN ?_ _|refine blk_drew ?_|refine blk_alloc ?_ _));refine blk_put (cs:=#[.int .i64 6,.string (a0.extract (a1 : Int).toNat ((wrap64 (a1 + 1)) : Int).toNat),.int .i64 0,.int .i64 0,.bool false]) ?_ 3 _ rfl;(with_reducible repeat (first|refine blk_drewN ?_ _|refine blk_drew ?_|refine blk_alloc ?_ _));refine blk_put (cs:=#[.int .i64 6,.string (a0.extract (a1 : Int).toNat ((wrap64 (a1 + 1)) : Int).toNat),.int .i64 0,.int .i64 0,.bool false]) ?_ 2 _ rfl;(with_reducible repeat (first|refine blk_drewN ?_ _|refine blk_drew ?_|refine blk_alloc ?_ _));refine blk_put (cs:=#[.int .i64 6,.string (⟨#[]⟩ : ByteArray),.int .i64 0,.int .i64 0,.bool false]) ?_ 1 _ rfl;(with_reducible repeat (first|refine blk_drewN ?_ _|refine blk_drew ?_|refine blk_alloc ?_ _));refine blk_put (cs:=#[.int .i64 0,.string (⟨#[]⟩ : ByteArray),.int .i64 0,.int .i64 0,.bool false]) ?_ 0 _ rfl;(with_reducible repeat (first|refine blk_drewN ?_ _|refine blk_drew ?_|refine blk_alloc ?_ _));exact BK111.out) Try.underlying46 rfl (by kernel_rfl)) rfl ?_
          exact ⟨by first|rfl|(simp [errW_none,errW_some] <;> rfl)|(simp [*,errW_none,errW_some] <;> rfl),by repeat (first|(with_reducible first|exact HB.out|apply below_alloc|apply pw_below_drewN|apply below_drew1|refine below_set ?_ GE111.out|refine below_set ?_ GE112.out)|exact HB.out)⟩
       ·rw [if_neg c39] at H
        have c39b0 : decide (x10_2 < (a0.size : Int)) = false:=decide_eq_false c39
        clear c39
        by_cases c55 : x11_2 ≤ 999999999
        ·rw [if_pos c55] at H
         have c55b0 : decide (x11_2 ≤ 999999999) = true:=decide_eq_true c55
         clear c55
         simp only [Option.some.injEq,Prod.mk.injEq] at H
         obtain ⟨rfl,rfl,rfl,rfl,rfl,rfl⟩:=H
         have hnb56:=NB111_112.out
         have hnc56:=NB112_111.out
         have hcz57_0 : wr.cell? ⟨gb111,0,none⟩ = some (.int .i64 0):=(blk_cell BK111.out 0).trans rfl
         have hcz57_1 : wr.cell? ⟨gb111,1,none⟩ = some (.string (⟨#[]⟩ : ByteArray)):=(blk_cell BK111.out 1).trans rfl
         have hcz57_2 : wr.cell? ⟨gb111,2,none⟩ = some (.int .i64 0):=(blk_cell BK111.out 2).trans rfl
         have hcz57_3 : wr.cell? ⟨gb111,3,none⟩ = some (.int .i64 0):=(blk_cell BK111.out 3).trans rfl
         have hcz57_4 : wr.cell? ⟨gb111,4,none⟩ = some (.bool false):=(blk_cell BK111.out 4).trans rfl
         have hfz57_0:=blk_frozen BK111.out 0
         have hfz57_1:=blk_frozen BK111.out 1
         have hfz57_2:=blk_frozen BK111.out 2
         have hfz57_3:=blk_frozen BK111.out 3
         have hfz57_4:=blk_frozen BK111.out 4
         go_wp2
         refine bodyPost_ret (results_ct rfl _ _ gb111 46 #[.int .i64 3,.string (⟨#[]⟩ : ByteArray),.int .i64 x11_2,.int .i64 a1,.bool false] (0,0) _ rfl (by (with_reducible repeat (first|refine blk_drewN ?_ _|refine blk_drew ?_|refine blk_alloc ?_ _));refine blk_put (cs:=#[.int .i64 3,.string (⟨#[]⟩ : ByteArray),.int .i64 x11_2,.int .i64 a1,.bool false]) ?_ 4 _ rfl;(with_reducible repeat (first|refine blk_drewN ?_ _|refine blk_drew ?_|refine blk_alloc ?_ _));refine blk_put (cs:=#[.int .i64 3,.string (⟨#[]⟩ : ByteArray),.int .i64 x11_2,.int .i64 0,.bool false]) ?_ 3 _ rfl;(with_reducible repeat (first|refine blk_drewN ?_ _|refine blk_drew ?_|refine blk_alloc ?_ _));refine blk_put (cs:=#[.int .i64 3,.string (⟨#[]⟩ : ByteArray),.int .i64 0,.int .i64 0,.bool false]) ?_ 2 _ rfl;(with_reducible repeat (first|refine blk_drewN ?_ _|refine blk_drew ?_|refine blk_alloc ?_ _));refine blk_put (cs:=#[.int .i64 3,.string (⟨#[]⟩ : ByteArray),.int .i64 0,.int .i64 0,.bool false]) ?_ 1 _ rfl;(with_reducible repeat (first|refine blk_drewN ?_ _|refine blk_drew ?_|refine blk_alloc ?_ _));refine blk_put (cs:=#[.int .i64 0,.string (⟨#[]⟩ : ByteArray),.int .i64 0,.int .i64 0,.bool false]) ?_ 0 _ rfl;(with_reducible repeat (first|refine blk_drewN ?_ _|refine blk_drew ?_|refine blk_alloc ?_ _));exact BK111.out) Try.underlying46 rfl (by kernel_rfl)) rfl ?_
         exact ⟨by first|rfl|(simp [errW_none,errW_some] <;> rfl)|(simp [*,errW_none,errW_some] <;> rfl),by repeat (first|(with_reducible first|exact HB.out|apply below_alloc|apply pw_below_drewN|apply below_drew1|refine below_set ?_ GE111.out|refine below_set ?_ GE112.out)|exact HB.out)⟩
        ·rw [if_neg c55] at H
         have c55b0 : decide (x11_2 ≤ 999999999) = false:=decide_eq_false c55
         clear c55
         simp only [Option.some.injEq,Prod.mk.injEq] at H
         obtain ⟨rfl,rfl,rfl,rfl,rfl,rfl⟩:=H
         have hnb58:=NB112_111.out
         have hnc58:=NB111_112.out
         have hcz59_0 : wr.cell? ⟨gb112,0,none⟩ = some (.int .i64 6):=(blk_cell BK112.out 0).trans rfl
         have hcz59_1 : wr.cell? ⟨gb112,1,none⟩ = some (.string (a0.extract (a1 : Int).toNat ((wrap64 (a1 + 1)) : Int).toNat)):=(blk_cell BK112.out 1).trans rfl
         have hcz59_2 : wr.cell? ⟨gb112,2,none⟩ = some (.int .i64 0):=(blk_cell BK112.out 2).trans rfl
         have hcz59_3 : wr.cell? ⟨gb112,3,none⟩ = some (.int .i64 a1):=(blk_cell BK112.out 3).trans rfl
         have hcz59_4 : wr.cell? ⟨gb112,4,none⟩ = some (.bool false):=(blk_cell BK112.out 4).trans rfl
         have hfz59_0:=blk_frozen BK112.out 0
         have hfz59_1:=blk_frozen BK112.out 1
         have hfz59_2:=blk_frozen BK112.out 2
         have hfz59_3:=blk_frozen BK112.out 3
         have hfz59_4:=blk_frozen BK112.out 4
         have hcz60_0 : wr.cell? ⟨gb111,0,none⟩ = some (.int .i64 0):=(blk_cell BK111.out 0).trans rfl
         have hcz60_1 : wr.cell? ⟨gb111,1,none⟩ = some (.string (⟨#[]⟩ : ByteArray)):=(blk_cell BK111.out 1).trans rfl
         have hcz60_2 : wr.cell? ⟨gb111,2,none⟩ = some (.int .i64 0):=(blk_cell BK111.out 2).trans rfl
         have hcz60_3 : wr.cell? ⟨gb111,3,none⟩ = some (.int .i64 0):=(blk_cell BK111.out 3).trans rfl
         have hcz60_4 : wr.cell? ⟨gb111,4,none⟩ = some (.bool false):=(blk_cell BK111.out 4).trans rfl
         have hfz60_0:=blk_frozen BK111.out 0
         have hfz60_1:=blk_frozen BK111.out 1
         have hfz60_2:=blk_frozen BK111.out 2
         have hfz60_3:=blk_frozen BK111.out 3
         have hfz60_4:=blk_frozen BK111.out 4
         go_wp2
         refine bodyPost_ret (results_ct rfl _ _ gb111 46 #[.int .i64 6,.string (a0.extract (a1 : Int).toNat ((wrap64 (a1 + 1)) : Int).toNat),.int .i64 0,.int .i64 a1,.bool false] (0,0) _ rfl (by (with_reducible repeat (first|refine blk_drewN ?_ _|refine blk_drew ?_|refine blk_alloc ?_ _));refine blk_put (cs:=#[.int .i64 6,.string (a0.extract (a1 : Int).toNat ((wrap64 (a1 + 1)) : Int).toNat),.int .i64 0,.int .i64 a1,.bool false]) ?_ 4 _ rfl;(with_reducible repeat (first|refine blk_drewN ?_ _|refine blk_drew ?_|refine blk_alloc ?_ _));refine blk_put (cs:=#[.int .i64 6,.string (a0.extract (a1 : Int).toNat ((wrap64 (a1 + 1)) : Int).toNat),.int .i64 0,.int .i64 0,.bool false]) ?_ 3 _ rfl;(with_reducible repeat (first|refine blk_drewN ?_ _|refine blk_drew ?_|refine blk_alloc ?_ _));refine blk_put (cs:=#[.int .i64 6,.string (a0.extract (a1 : Int).toNat ((wrap64 (a1 + 1)) : Int).toNat),.int .i64 0,.int .i64 0,.bool false]) ?_ 2 _ rfl;(with_reducible repeat (first|refine blk_drewN ?_ _|refine blk_drew ?_|refine blk_alloc ?_ _));refine blk_put (cs:=#[.int .i64 6,.string (⟨#[]⟩ : ByteArray),.int .i64 0,.int .i64 0,.bool false]) ?_ 1 _ rfl;(with_reducible repeat (first|refine blk_drewN ?_ _|refine blk_drew ?_|refine blk_alloc ?_ _));refine blk_put (cs:=#[.int .i64 0,.string (⟨#[]⟩ : ByteArray),.int .i64 0,.int .i64 0,.bool false]) ?_ 0 _ rfl;(with_reducible repeat (first|refine blk_drewN ?_ _|refine blk_drew ?_|refine blk_alloc ?_ _));exact BK111.out) Try.underlying46 rfl (by kernel_rfl)) rfl ?_
         exact ⟨by first|rfl|(simp [errW_none,errW_some] <;> rfl)|(simp [*,errW_none,errW_some] <;> rfl),by repeat (first|(with_reducible first|exact HB.out|apply below_alloc|apply pw_below_drewN|apply below_drew1|refine below_set ?_ GE111.out|refine below_set ?_ GE112.out)|exact HB.out)⟩
    ·replace c38:=Bool.eq_false_iff.mpr c38
     subst c38
     have H1 : (if (bt a0 a1) = 39 then ((spec_l05Quoted.f kj8 a0 a1).bind fun t119 => (if t119 > 0 then (if 0 ≤ (wrap64 (a1 + 1)) then (if (wrap64 (a1 + 1)) ≤ (wrap64 (t119 - 1)) then (if (wrap64 (t119 - 1)) ≤ (a0.size : Int) then (some (1,a0.extract ((wrap64 (a1 + 1)) : Int).toNat ((wrap64 (t119 - 1)) : Int).toNat,0,a1,false,t119)) else (none)) else (none)) else (none)) else (some (6,(a0.extract (a1 : Int).toNat ((wrap64 (a1 + 1)) : Int).toNat),0,a1,false,(wrap64 (a1 + 1)))))) else (if (bt a0 a1) = 33 then (spec_l05Sign.j2 kj8 a0 a1 (bt a0 a1) (wrap64 (a1 + 1)) true 6 (a0.extract (a1 : Int).toNat ((wrap64 (a1 + 1)) : Int).toNat) 0 a1 false) else (spec_l05Sign.j2 kj8 a0 a1 (bt a0 a1) (wrap64 (a1 + 1)) ((bt a0 a1) == 59) 6 (a0.extract (a1 : Int).toNat ((wrap64 (a1 + 1)) : Int).toNat) 0 a1 false))) = some (r1,r2,r3,r4,r5,r6):=by rw [if_neg (show ¬ (false = true) by decide)] at H;exact H
     clear H
     have H:=H1
     clear H1
     by_cases c61 : (bt a0 a1) = 39
     ·rw [if_pos c61] at H
      have c61b0 : ((bt a0 a1) == 39) = true:=beq_iff_eq.mpr c61
      have c61b1 : ((bt a0 a1) != 39) = false:=bne_eq_false_iff_eq.mpr c61
      clear c61
      replace H:=Option.bind_eq_some_iff.mp H
      obtain ⟨t119,A620,H⟩:=H
      replace H : (if t119 > 0 then (if 0 ≤ (wrap64 (a1 + 1)) then (if (wrap64 (a1 + 1)) ≤ (wrap64 (t119 - 1)) then (if (wrap64 (t119 - 1)) ≤ (a0.size : Int) then (some (1,a0.extract ((wrap64 (a1 + 1)) : Int).toNat ((wrap64 (t119 - 1)) : Int).toNat,0,a1,false,t119)) else (none)) else (none)) else (none)) else (some (6,(a0.extract (a1 : Int).toNat ((wrap64 (a1 + 1)) : Int).toNat),0,a1,false,(wrap64 (a1 + 1))))) = some (r1,r2,r3,r4,r5,r6):=H
      have A62:=Aside0.mk A620
      clear A620
      by_cases c63 : t119 > 0
      ·rw [if_pos c63] at H
       have c63b0 : decide (0 < t119) = true:=decide_eq_true c63
       clear c63
       obtain ⟨ji64,hji64⟩ : ∃ j_ : Int,(wrap64 (a1 + 1)) = j_:=⟨_,rfl⟩
       replace H : (if 0 ≤ (ji64) then (if (ji64) ≤ (wrap64 (t119 - 1)) then (if (wrap64 (t119 - 1)) ≤ (a0.size : Int) then (some (1,a0.extract ((ji64) : Int).toNat ((wrap64 (t119 - 1)) : Int).toNat,0,a1,false,t119)) else (none)) else (none)) else (none)) = some (r1,r2,r3,r4,r5,r6):=by first|(rw [hji64] at H;exact H)|(simp only [hji64] at H ⊢;exact H)
       (try rw [hji64] at c7b0)
       (try rw [hji64] at c7b1)
       (try rw [hji64] at c7)
       (try rw [hji64] at c8b0)
       (try rw [hji64] at c8b1)
       (try rw [hji64] at c8)
       (try rw [hji64] at A37)
       (try rw [hji64] at A62)
       have hji64w : (IntKind.i64.wrap (a1 + 1)) = ji64:=(i64_w _).trans hji64
       (try rw [hji64] at BK111)
       (try rw [hji64] at BK112)
       by_cases c65 : 0 ≤ (ji64)
       rotate_left
       ·rw [if_neg c65] at H
        exact absurd H (by simp)
       rw [if_pos c65] at H
       have c65b0:=eq_true c65
       have c65b1 : decide (0 ≤ (ji64)) = true:=decide_eq_true c65
       clear c65
       by_cases c66 : (ji64) ≤ (wrap64 (t119 - 1))
       rotate_left
       ·rw [if_neg c66] at H
        exact absurd H (by simp)
       rw [if_pos c66] at H
       have c66b0:=eq_true c66
       have c66b1 : decide ((ji64) ≤ (wrap64 (t119 - 1))) = true:=decide_eq_true c66
       clear c66
       by_cases c67 : (wrap64 (t119 - 1)) ≤ (a0.size : Int)
       rotate_left
       ·rw [if_neg c67] at H
        exact absurd H (by simp)
       rw [if_pos c67] at H
       have c67b0:=eq_true c67
       have c67b1 : decide ((wrap64 (t119 - 1)) ≤ (a0.size : Int)) = true:=decide_eq_true c67
       clear c67
       simp only [Option.some.injEq,Prod.mk.injEq] at H
       obtain ⟨rfl,rfl,rfl,rfl,rfl,rfl⟩:=H
       go_wp2_with (first|((with_reducible refine gate_callee (f:=67) rfl ?_);refine goesL_ (some 52) rfl rfl Try.func67 (by kernel_rfl) rfl #[.int .u8 (bt a0 a1)] rfl (by (try simp only [List.map_toArray,List.map_cons,List.map_nil]);first|done|rfl|(simp only [List.length_drop,List.length_take];rfl)) ?_;(with_reducible refine (spec_l05Figure.calls (bt a0 a1) false _ A37.out).mono ?_);rintro e w' ⟨rfl,⟨nd,rfl⟩⟩;refine ⟨_,rfl,?_⟩;(try (rw [drewN_self wc];generalize hq_ : World.drewN wc _ = wc;have n0_ : Aside0 (wc.heap[gb111]? = some (.cells #[.int .i64 0,.string (⟨#[]⟩ : ByteArray),.int .i64 0,.int .i64 0,.bool false] 46 (0,0))):=⟨by rw [← hq_];exact (by (with_reducible repeat (first|refine blk_drewN ?_ _|refine blk_drew ?_|refine blk_alloc ?_ _));exact BK111.out)⟩;have n1_ : Aside0 (wc.heap[gb112]? = some (.cells #[.int .i64 6,.string (a0.extract (a1 : Int).toNat ((ji64) : Int).toNat),.int .i64 0,.int .i64 a1,.bool false] 46 (0,0))):=⟨by rw [← hq_];exact (by (with_reducible repeat (first|refine blk_drewN ?_ _|refine blk_drew ?_|refine blk_alloc ?_ _));exact BK112.out)⟩;have n2_ : Aside0 (Below w.heap.size w wc):=⟨by rw [← hq_];exact (by repeat (first|(with_reducible first|exact HB.out|apply below_alloc|apply pw_below_drewN|apply below_drew1|refine below_set ?_ GE111.out|refine below_set ?_ GE112.out)|exact HB.out))⟩;clear BK111 BK112 HB hq_;have BK111:=n0_;have BK112:=n1_;have HB:=n2_;clear n0_ n1_ n2_;(try have hyq111_0:=(blk_cell BK111.out 0).trans (rfl : _ = some _));(try have hyf111_0:=blk_frozen BK111.out 0);(try have hyq111_1:=(blk_cell BK111.out 1).trans (rfl : _ = some _));(try have hyf111_1:=blk_frozen BK111.out 1);(try have hyq111_2:=(blk_cell BK111.out 2).trans (rfl : _ = some _));(try have hyf111_2:=blk_frozen BK111.out 2);(try have hyq111_3:=(blk_cell BK111.out 3).trans (rfl : _ = some _));(try have hyf111_3:=blk_frozen BK111.out 3);(try have hyq112_0:=(blk_cell BK112.out 0).trans (rfl : _ = some _));(try have hyf112_0:=blk_frozen BK112.out 0);(try have hyq112_1:=(blk_cell BK112.out 1).trans (rfl : _ = some _));(try have hyf112_1:=blk_frozen BK112.out 1);(try have hyq112_2:=(blk_cell BK112.out 2).trans (rfl : _ = some _));(try have hyf112_2:=blk_frozen BK112.out 2);(try have hyq112_3:=(blk_cell BK112.out 3).trans (rfl : _ = some _));(try have hyf112_3:=blk_frozen BK112.out 3))))|((with_reducible refine gate_callee (f:=68) rfl ?_);refine goesL_ (some 89) rfl rfl Try.func68 (by kernel_rfl) rfl #[.string a0,.int .i64 a1] rfl (by (try simp only [List.map_toArray,List.map_cons,List.map_nil]);first|done|rfl|(simp only [List.length_drop,List.length_take];rfl)) ?_;(with_reducible refine (spec_l05Quoted.calls kj8 a0 a1 t119 _ A62.out).mono ?_);rintro e w' ⟨rfl,⟨nd,rfl⟩⟩;refine ⟨_,rfl,?_⟩;(try (rw [drewN_self wc];generalize hq_ : World.drewN wc _ = wc;have n0_ : Aside0 (wc.heap[gb111]? = some (.cells #[.int .i64 0,.string (⟨#[]⟩ : ByteArray),.int .i64 0,.int .i64 0,.bool false] 46 (0,0))):=⟨by rw [← hq_];exact (by (with_reducible repeat (first|refine blk_drewN ?_ _|refine blk_drew ?_|refine blk_alloc ?_ _));exact BK111.out)⟩;have n1_ : Aside0 (wc.heap[gb112]? = some (.cells #[.int .i64 6,.string (a0.extract (a1 : Int).toNat ((ji64) : Int).toNat),.int .i64 0,.int .i64 a1,.bool false] 46 (0,0))):=⟨by rw [← hq_];exact (by (with_reducible repeat (first|refine blk_drewN ?_ _|refine blk_drew ?_|refine blk_alloc ?_ _));exact BK112.out)⟩;have n2_ : Aside0 (Below w.heap.size w wc):=⟨by rw [← hq_];exact (by repeat (first|(with_reducible first|exact HB.out|apply below_alloc|apply pw_below_drewN|apply below_drew1|refine below_set ?_ GE111.out|refine below_set ?_ GE112.out)|exact HB.out))⟩;clear BK111 BK112 HB hq_;have BK111:=n0_;have BK112:=n1_;have HB:=n2_;clear n0_ n1_ n2_;(try have hyq111_0:=(blk_cell BK111.out 0).trans (rfl : _ = some _));(try have hyf111_0:=blk_frozen BK111.out 0);(try have hyq111_1:=(blk_cell BK111.out 1).trans (rfl : _ = some _));(try have hyf111_1:=blk_frozen BK111.out 1);(try have hyq111_2:=(blk_cell BK111.out 2).trans (rfl : _ = some _));(try have hyf111_2:=blk_frozen BK111.out 2);(try have hyq111_3:=(blk_cell BK111.out 3).trans (rfl : _ = some _));(try have hyf111_3:=blk_frozen BK111.out 3);(try have hyq112_0:=(blk_cell BK112.out 0).trans (rfl : _ = some _));(try have hyf112_0:=blk_frozen BK112.out 0);(try have hyq112_1:=(blk_cell BK112.out 1).trans (rfl : _ = some _));(try have hyf112_1:=blk_frozen BK112.out 1);(try have hyq112_2:=(blk_cell BK112.out 2).trans (rfl : _ = some _));(try have hyf112_2:=blk_frozen BK112.out 2);(try have hyq112_3:=(blk_cell BK112.out 3).trans (rfl : _ = some _));(try have hyf112_3:=blk_frozen BK112.out 3)));have hnb68:=NB112_111.out;have hnc68:=NB111_112.out;have hcz69_0 : wc.cell? ⟨gb112,0,none⟩ = some (.int .i64 6):=(blk_cell BK112.out 0).trans rfl;have hcz69_1 : wc.cell? ⟨gb112,1,none⟩ = some (.string (a0.extract (a1 : Int).toNat ((ji64) : Int).toNat)):=(blk_cell BK112.out 1).trans rfl;have hcz69_2 : wc.cell? ⟨gb112,2,none⟩ = some (.int .i64 0):=(blk_cell BK112.out 2).trans rfl;have hcz69_3 : wc.cell? ⟨gb112,3,none⟩ = some (.int .i64 a1):=(blk_cell BK112.out 3).trans rfl;have hcz69_4 : wc.cell? ⟨gb112,4,none⟩ = some (.bool false):=(blk_cell BK112.out 4).trans rfl;have hfz69_0:=blk_frozen BK112.out 0;have hfz69_1:=blk_frozen BK112.out 1;have hfz69_2:=blk_frozen BK112.out 2;have hfz69_3:=blk_frozen BK112.out 3;have hfz69_4:=blk_frozen BK112.out 4;have hcz70_0 : wc.cell? ⟨gb111,0,none⟩ = some (.int .i64 0):=(blk_cell BK111.out 0).trans rfl;have hcz70_1 : wc.cell? ⟨gb111,1,none⟩ = some (.string (⟨#[]⟩ : ByteArray)):=(blk_cell BK111.out 1).trans rfl;have hcz70_2 : wc.cell? ⟨gb111,2,none⟩ = some (.int .i64 0):=(blk_cell BK111.out 2).trans rfl;have hcz70_3 : wc.cell? ⟨gb111,3,none⟩ = some (.int .i64 0):=(blk_cell BK111.out 3).trans rfl;have hcz70_4 : wc.cell? ⟨gb111,4,none⟩ = some (.bool false):=(blk_cell BK111.out 4).trans rfl;have hfz70_0:=blk_frozen BK111.out 0;have hfz70_1:=blk_frozen BK111.out 1;have hfz70_2:=blk_frozen BK111.out 2;have hfz70_3:=blk_frozen BK111.out 3;have hfz70_4:=blk_frozen BK111.out 4))
       refine bodyPost_ret (results_ct rfl _ _ gb111 46 #[.int .i64 1,.string (a0.extract ((ji64) : Int).toNat ((wrap64 (t119 - 1)) : Int).toNat),.int .i64 0,.int .i64 a1,.bool false] (0,0) _ rfl (by (with_reducible repeat (first|refine blk_drewN ?_ _|refine blk_drew ?_|refine blk_alloc ?_ _));refine blk_put (cs:=#[.int .i64 1,.string (a0.extract ((ji64) : Int).toNat ((wrap64 (t119 - 1)) : Int).toNat),.int .i64 0,.int .i64 a1,.bool false]) ?_ 4 _ rfl;(with_reducible repeat (first|refine blk_drewN ?_ _|refine blk_drew ?_|refine blk_alloc ?_ _));refine blk_put (cs:=#[.int .i64 1,.string (a0.extract ((ji64) : Int).toNat ((wrap64 (t119 - 1)) : Int).toNat),.int .i64 0,.int .i64 0,.bool false]) ?_ 3 _ rfl;(with_reducible repeat (first|refine blk_drewN ?_ _|refine blk_drew ?_|refine blk_alloc ?_ _));refine blk_put (cs:=#[.int .i64 1,.string (a0.extract ((ji64) : Int).toNat ((wrap64 (t119 - 1)) : Int).toNat),.int .i64 0,.int .i64 0,.bool false]) ?_ 2 _ rfl;(with_reducible repeat (first|refine blk_drewN ?_ _|refine blk_drew ?_|refine blk_alloc ?_ _));refine blk_put (cs:=#[.int .i64 1,.string (⟨#[]⟩ : ByteArray),.int .i64 0,.int .i64 0,.bool false]) ?_ 1 _ rfl;(with_reducible repeat (first|refine blk_drewN ?_ _|refine blk_drew ?_|refine blk_alloc ?_ _));refine blk_put (cs:=#[.int .i64 0,.string (⟨#[]⟩ : ByteArray),.int .i64 0,.int .i64 0,.bool false]) ?_ 0 _ rfl;(with_reducible repeat (first|refine blk_drewN ?_ _|refine blk_drew ?_|refine blk_alloc ?_ _));refine blk_far ?_ NB111_112.out _;(with_reducible repeat (first|refine blk_drewN ?_ _|refine blk_drew ?_|refine blk_alloc ?_ _));refine blk_far ?_ NB111_112.out _;(with_reducible repeat (first|refine blk_drewN ?_ _|refine blk_drew ?_|refine blk_alloc ?_ _));refine blk_far ?_ NB111_112.out _;(with_reducible repeat (first|refine blk_drewN ?_ _|refine blk_drew ?_|refine blk_alloc ?_ _));refine blk_far ?_ NB111_112.out _;(with_reducible repeat (first|refine blk_drewN ?_ _|refine blk_drew ?_|refine blk_alloc ?_ _));refine blk_far ?_ NB111_112.out _;(with_reducible repeat (first|refine blk_drewN ?_ _|refine blk_drew ?_|refine blk_alloc ?_ _));exact BK111.out) Try.underlying46 rfl (by kernel_rfl)) rfl ?_
       exact ⟨by first|rfl|(simp [errW_none,errW_some] <;> rfl)|(simp only [← hji64];first|rfl|(simp [errW_none,errW_some] <;> rfl))|(simp [*,errW_none,errW_some] <;> rfl),by repeat (first|(with_reducible first|exact HB.out|apply below_alloc|apply pw_below_drewN|apply below_drew1|refine below_set ?_ GE111.out|refine below_set ?_ GE112.out)|exact HB.out)⟩
      ·rw [if_neg c63] at H
       have c63b0 : decide (0 < t119) = false:=decide_eq_false c63
       clear c63
       simp only [Option.some.injEq,Prod.mk.injEq] at H
       obtain ⟨rfl,rfl,rfl,rfl,rfl,rfl⟩:=H
       go_wp2_with (first|((with_reducible refine gate_callee (f:=67) rfl ?_);refine goesL_ (some 52) rfl rfl Try.func67 (by kernel_rfl) rfl #[.int .u8 (bt a0 a1)] rfl (by (try simp only [List.map_toArray,List.map_cons,List.map_nil]);first|done|rfl|(simp only [List.length_drop,List.length_take];rfl)) ?_;(with_reducible refine (spec_l05Figure.calls (bt a0 a1) false _ A37.out).mono ?_);rintro e w' ⟨rfl,⟨nd,rfl⟩⟩;refine ⟨_,rfl,?_⟩;(try (rw [drewN_self wc];generalize hq_ : World.drewN wc _ = wc;have n0_ : Aside0 (wc.heap[gb111]? = some (.cells #[.int .i64 0,.string (⟨#[]⟩ : ByteArray),.int .i64 0,.int .i64 0,.bool false] 46 (0,0))):=⟨by rw [← hq_];exact (by (with_reducible repeat (first|refine blk_drewN ?_ _|refine blk_drew ?_|refine blk_alloc ?_ _));exact BK111.out)⟩;have n1_ : Aside0 (wc.heap[gb112]? = some (.cells #[.int .i64 6,.string (a0.extract (a1 : Int).toNat ((wrap64 (a1 + 1)) : Int).toNat),.int .i64 0,.int .i64 a1,.bool false] 46 (0,0))):=⟨by rw [← hq_];exact (by (with_reducible repeat (first|refine blk_drewN ?_ _|refine blk_drew ?_|refine blk_alloc ?_ _));exact BK112.out)⟩;have n2_ : Aside0 (Below w.heap.size w wc):=⟨by rw [← hq_];exact (by repeat (first|(with_reducible first|exact HB.out|apply below_alloc|apply pw_below_drewN|apply below_drew1|refine below_set ?_ GE111.out|refine below_set ?_ GE112.out)|exact HB.out))⟩;clear BK111 BK112 HB hq_;have BK111:=n0_;have BK112:=n1_;have HB:=n2_;clear n0_ n1_ n2_;(try have hyq111_0:=(blk_cell BK111.out 0).trans (rfl : _ = some _));(try have hyf111_0:=blk_frozen BK111.out 0);(try have hyq111_1:=(blk_cell BK111.out 1).trans (rfl : _ = some _));(try have hyf111_1:=blk_frozen BK111.out 1);(try have hyq111_2:=(blk_cell BK111.out 2).trans (rfl : _ = some _));(try have hyf111_2:=blk_frozen BK111.out 2);(try have hyq111_3:=(blk_cell BK111.out 3).trans (rfl : _ = some _));(try have hyf111_3:=blk_frozen BK111.out 3);(try have hyq112_0:=(blk_cell BK112.out 0).trans (rfl : _ = some _));(try have hyf112_0:=blk_frozen BK112.out 0);(try have hyq112_1:=(blk_cell BK112.out 1).trans (rfl : _ = some _));(try have hyf112_1:=blk_frozen BK112.out 1);(try have hyq112_2:=(blk_cell BK112.out 2).trans (rfl : _ = some _));(try have hyf112_2:=blk_frozen BK112.out 2);(try have hyq112_3:=(blk_cell BK112.out 3).trans (rfl : _ = some _));(try have hyf112_3:=blk_frozen BK112.out 3))))|((with_reducible refine gate_callee (f:=68) rfl ?_);refine goesL_ (some 89) rfl rfl Try.func68 (by kernel_rfl) rfl #[.string a0,.int .i64 a1] rfl (by (try simp only [List.map_toArray,List.map_cons,List.map_nil]);first|done|rfl|(simp only [List.length_drop,List.length_take];rfl)) ?_;(with_reducible refine (spec_l05Quoted.calls kj8 a0 a1 t119 _ A62.out).mono ?_);rintro e w' ⟨rfl,⟨nd,rfl⟩⟩;refine ⟨_,rfl,?_⟩;(try (rw [drewN_self wc];generalize hq_ : World.drewN wc _ = wc;have n0_ : Aside0 (wc.heap[gb111]? = some (.cells #[.int .i64 0,.string (⟨#[]⟩ : ByteArray),.int .i64 0,.int .i64 0,.bool false] 46 (0,0))):=⟨by rw [← hq_];exact (by (with_reducible repeat (first|refine blk_drewN ?_ _|refine blk_drew ?_|refine blk_alloc ?_ _));exact BK111.out)⟩;have n1_ : Aside0 (wc.heap[gb112]? = some (.cells #[.int .i64 6,.string (a0.extract (a1 : Int).toNat ((wrap64 (a1 + 1)) : Int).toNat),.int .i64 0,.int .i64 a1,.bool false] 46 (0,0))):=⟨by rw [← hq_];exact (by (with_reducible repeat (first|refine blk_drewN ?_ _|refine blk_drew ?_|refine blk_alloc ?_ _));exact BK112.out)⟩;have n2_ : Aside0 (Below w.heap.size w wc):=⟨by rw [← hq_];exact (by repeat (first|(with_reducible first|exact HB.out|apply below_alloc|apply pw_below_drewN|apply below_drew1|refine below_set ?_ GE111.out|refine below_set ?_ GE112.out)|exact HB.out))⟩;clear BK111 BK112 HB hq_;have BK111:=n0_;have BK112:=n1_;have HB:=n2_;clear n0_ n1_ n2_;(try have hyq111_0:=(blk_cell BK111.out 0).trans (rfl : _ = some _));(try have hyf111_0:=blk_frozen BK111.out 0);(try have hyq111_1:=(blk_cell BK111.out 1).trans (rfl : _ = some _));(try have hyf111_1:=blk_frozen BK111.out 1);(try have hyq111_2:=(blk_cell BK111.out 2).trans (rfl : _ = some _));(try have hyf111_2:=blk_frozen BK111.out 2);(try have hyq111_3:=(blk_cell BK111.out 3).trans (rfl : _ = some _));(try have hyf111_3:=blk_frozen BK111.out 3);(try have hyq112_0:=(blk_cell BK112.out 0).trans (rfl : _ = some _));(try have hyf112_0:=blk_frozen BK112.out 0);(try have hyq112_1:=(blk_cell BK112.out 1).trans (rfl : _ = some _));(try have hyf112_1:=blk_frozen BK112.out 1);(try have hyq112_2:=(blk_cell BK112.out 2).trans (rfl : _ = some _));(try have hyf112_2:=blk_frozen BK112.out 2);(try have hyq112_3:=(blk_cell BK112.out 3).trans (rfl : _ = some _));(try have hyf112_3:=blk_frozen BK112.out 3)));have hnb71:=NB112_111.out;have hnc71:=NB111_112.out;have hcz72_0 : wc.cell? ⟨gb112,0,none⟩ = some (.int .i64 6):=(blk_cell BK112.out 0).trans rfl;have hcz72_1 : wc.cell? ⟨gb112,1,none⟩ = some (.string (a0.extract (a1 : Int).toNat ((wrap64 (a1 + 1)) : Int).toNat)):=(blk_cell BK112.out 1).trans rfl;have hcz72_2 : wc.cell? ⟨gb112,2,none⟩ = some (.int .i64 0):=(blk_cell BK112.out 2).trans rfl;have hcz72_3 : wc.cell? ⟨gb112,3,none⟩ = some (.int .i64 a1):=(blk_cell BK112.out 3).trans rfl;have hcz72_4 : wc.cell? ⟨gb112,4,none⟩ = some (.bool false):=(blk_cell BK112.out 4).trans rfl;have hfz72_0:=blk_frozen BK112.out 0;have hfz72_1:=blk_frozen BK112.out 1;have hfz72_2:=blk_frozen BK112.out 2;have hfz72_3:=blk_frozen BK112.out 3;have hfz72_4:=blk_frozen BK112.out 4;have hcz73_0 : wc.cell? ⟨gb111,0,none⟩ = some (.int .i64 0):=(blk_cell BK111.out 0).trans rfl;have hcz73_1 : wc.cell? ⟨gb111,1,none⟩ = some (.string (⟨#[]⟩ : ByteArray)):=(blk_cell BK111.out 1).trans rfl;have hcz73_2 : wc.cell? ⟨gb111,2,none⟩ = some (.int .i64 0):=(blk_cell BK111.out 2).trans rfl;have hcz73_3 : wc.cell? ⟨gb111,3,none⟩ = some (.int .i64 0):=(blk_cell BK111.out 3).trans rfl;have hcz73_4 : wc.cell? ⟨gb111,4,none⟩ = some (.bool false):=(blk_cell BK111.out 4).trans rfl;have hfz73_0:=blk_frozen BK111.out 0;have hfz73_1:=blk_frozen BK111.out 1;have hfz73_2:=blk_frozen BK111.out 2;have hfz73_3:=blk_frozen BK111.out 3;have hfz73_4:=blk_frozen BK111.out 4))
       refine bodyPost_ret (results_ct rfl _ _ gb111 46 #[.int .i64 6,.string (a0.extract (a1 : Int).toNat ((wrap64 (a1 + 1)) : Int).toNat),.int .i64 0,.int .i64 a1,.bool false] (0,0) _ rfl (by (with_reducible repeat (first|refine blk_drewN ?_ _|refine blk_drew ?_|refine blk_alloc ?_ _));refine blk_put (cs:=#[.int .i64 6,.string (a0.extract (a1 : Int).toNat ((wrap64 (a1 + 1)) : Int).toNat),.int .i64 0,.int .i64 a1,.bool false]) ?_ 4 _ rfl;(with_reducible repeat (first|refine blk_drewN ?_ _|refine blk_drew ?_|refine blk_alloc ?_ _));refine blk_put (cs:=#[.int .i64 6,.string (a0.extract (a1 : Int).toNat ((wrap64 (a1 + 1)) : Int).toNat),.int .i64 0,.int .i64 0,.bool false]) ?_ 3 _ rfl;(with_reducible repeat (first|refine blk_drewN ?_ _|refine blk_drew ?_|refine blk_alloc ?_ _));refine blk_put (cs:=#[.int .i64 6,.string (a0.extract (a1 : Int).toNat ((wrap64 (a1 + 1)) : Int).toNat),.int .i64 0,.int .i64 0,.bool false]) ?_ 2 _ rfl;(with_reducible repeat (first|refine blk_drewN ?_ _|refine blk_drew ?_|refine blk_alloc ?_ _));refine blk_put (cs:=#[.int .i64 6,.string (⟨#[]⟩ : ByteArray),.int .i64 0,.int .i64 0,.bool false]) ?_ 1 _ rfl;(with_reducible repeat (first|refine blk_drewN ?_ _|refine blk_drew ?_|refine blk_alloc ?_ _));refine blk_put (cs:=#[.int .i64 0,.string (⟨#[]⟩ : ByteArray),.int .i64 0,.int .i64 0,.bool false]) ?_ 0 _ rfl;(with_reducible repeat (first|refine blk_drewN ?_ _|refine blk_drew ?_|refine blk_alloc ?_ _));exact BK111.out) Try.underlying46 rfl (by kernel_rfl)) rfl ?_
       exact ⟨by first|rfl|(simp [errW_none,errW_some] <;> rfl)|(simp [*,errW_none,errW_some] <;> rfl),by repeat (first|(with_reducible first|exact HB.out|apply below_alloc|apply pw_below_drewN|apply below_drew1|refine below_set ?_ GE111.out|refine below_set ?_ GE112.out)|exact HB.out)⟩
     ·rw [if_neg c61] at H
      have c61b0 : ((bt a0 a1) == 39) = false:=beq_eq_false_iff_ne.mpr c61
      have c61b1 : ((bt a0 a1) != 39) = true:=bne_iff_ne.mpr c61
      have HC74:=Aside0.mk H
      clear H
      go_upto_region 25 with (first|((with_reducible refine gate_callee (f:=67) rfl ?_);refine goesL_ (some 52) rfl rfl Try.func67 (by kernel_rfl) rfl #[.int .u8 (bt a0 a1)] rfl (by (try simp only [List.map_toArray,List.map_cons,List.map_nil]);first|done|rfl|(simp only [List.length_drop,List.length_take];rfl)) ?_;(with_reducible refine (spec_l05Figure.calls (bt a0 a1) false _ A37.out).mono ?_);rintro e w' ⟨rfl,⟨nd,rfl⟩⟩;refine ⟨_,rfl,?_⟩))
      (try simp only [Act.put,List.setIfInBounds_toArray,List.set_cons_zero,List.set_cons_succ])
      go_cut [101] (fun v101 wc => ∃ (kq : Nat) (x101_73 : Bool),v101 = .bool x101_73 ∧ Aside0 (spec_l05Sign.j2 kq a0 a1 (bt a0 a1) (wrap64 (a1 + 1)) x101_73 6 (a0.extract (a1 : Int).toNat ((wrap64 (a1 + 1)) : Int).toNat) 0 a1 false = some (r1,r2,r3,r4,r5,r6)) ∧ Aside0 (kq ≤ kj8) ∧ Aside0 (wc.heap[gb111]? = some (.cells #[.int .i64 0,.string (⟨#[]⟩ : ByteArray),.int .i64 0,.int .i64 0,.bool false] 46 (0,0))) ∧ Aside0 (wc.heap[gb112]? = some (.cells #[.int .i64 6,.string (a0.extract (a1 : Int).toNat ((wrap64 (a1 + 1)) : Int).toNat),.int .i64 0,.int .i64 a1,.bool false] 46 (0,0))) ∧ Aside0 (Below w.heap.size w wc))
      case first =>
       have H:=HC74.out
       clear HC74
       by_cases c75 : (bt a0 a1) = 33
       ·rw [if_pos c75] at H
        have c75b0 : ((bt a0 a1) == 33) = true:=beq_iff_eq.mpr c75
        have c75b1 : ((bt a0 a1) != 33) = false:=bne_eq_false_iff_eq.mpr c75
        clear c75
        (first|rw [c75b0]|(simp only [i64_w,i32_w];rw [c75b0])|skip)
        have H':=Aside0.mk H
        clear H
        go_wp2
        go_meet
        case rel => exact ⟨_,(true),(by first|rfl|(simp;done)|(simp [*];done)),H',⟨by have:=HJ8.out;first|omega|exact Nat.le_refl _⟩,⟨by (with_reducible repeat (first|refine blk_drewN ?_ _|refine blk_drew ?_|refine blk_alloc ?_ _));exact BK111.out⟩,⟨by (with_reducible repeat (first|refine blk_drewN ?_ _|refine blk_drew ?_|refine blk_alloc ?_ _));exact BK112.out⟩,⟨by repeat (first|(with_reducible first|exact HB.out|apply below_alloc|apply pw_below_drewN|apply below_drew1|refine below_set ?_ GE111.out|refine below_set ?_ GE112.out)|exact HB.out)⟩⟩
       ·rw [if_neg c75] at H
        have c75b0 : ((bt a0 a1) == 33) = false:=beq_eq_false_iff_ne.mpr c75
        have c75b1 : ((bt a0 a1) != 33) = true:=bne_iff_ne.mpr c75
        (first|rw [c75b0]|(simp only [i64_w,i32_w];rw [c75b0])|skip)
        have H':=Aside0.mk H
        clear H
        go_wp2
        go_meet
        case rel => exact ⟨_,(((bt a0 a1) == 59)),(by first|rfl|(simp;done)|(simp [*];done)),H',⟨by have:=HJ8.out;first|omega|exact Nat.le_refl _⟩,⟨by (with_reducible repeat (first|refine blk_drewN ?_ _|refine blk_drew ?_|refine blk_alloc ?_ _));exact BK111.out⟩,⟨by (with_reducible repeat (first|refine blk_drewN ?_ _|refine blk_drew ?_|refine blk_alloc ?_ _));exact BK112.out⟩,⟨by repeat (first|(with_reducible first|exact HB.out|apply below_alloc|apply pw_below_drewN|apply below_drew1|refine below_set ?_ GE111.out|refine below_set ?_ GE112.out)|exact HB.out)⟩⟩
      case rest =>
       clear HC74
       try clear c3
       try clear c3b0
       try clear c4
       try clear c4b0
       try clear p5
       try clear q5
       try clear hx5
       try clear c6b0
       try clear c7
       try clear c7b0
       try clear c7b1
       try clear c8
       try clear c8b0
       try clear c8b1
       try clear c15
       try clear c17
       try clear c19
       try clear c19b0
       try clear c21
       try clear c22
       try clear c22b0
       try clear c22b1
       try clear c23
       try clear c23b0
       try clear c23b1
       try clear c24
       try clear c24b0
       try clear c24b1
       try clear c28
       try clear c28b0
       try clear c28b1
       try clear c29
       try clear c29b0
       try clear c29b1
       try clear c30
       try clear c30b0
       try clear c30b1
       try clear c38
       try clear c39
       try clear c39b0
       try clear c40
       try clear c40b0
       try clear p41
       try clear q41
       try clear hx41
       try clear c43
       try clear c44
       try clear c44b0
       try clear p45
       try clear q45
       try clear hx45
       try clear c49
       try clear c49b0
       try clear c55
       try clear c55b0
       try clear c61
       try clear c61b0
       try clear c61b1
       try clear c63
       try clear c63b0
       try clear c65
       try clear c65b0
       try clear c65b1
       try clear c66
       try clear c66b0
       try clear c66b1
       try clear c67
       try clear c67b0
       try clear c67b1
       try clear c75
       try clear c75b0
       try clear c75b1
       try clear hcz13_0
       try clear hcz13_1
       try clear hcz13_2
       try clear hcz13_3
       try clear hcz13_4
       try clear hcz26_0
       try clear hcz26_1
       try clear hcz26_2
       try clear hcz26_3
       try clear hcz26_4
       try clear hcz27_0
       try clear hcz27_1
       try clear hcz27_2
       try clear hcz27_3
       try clear hcz27_4
       try clear hcz32_0
       try clear hcz32_1
       try clear hcz32_2
       try clear hcz32_3
       try clear hcz32_4
       try clear hcz33_0
       try clear hcz33_1
       try clear hcz33_2
       try clear hcz33_3
       try clear hcz33_4
       try clear hcz35_0
       try clear hcz35_1
       try clear hcz35_2
       try clear hcz35_3
       try clear hcz35_4
       try clear hcz36_0
       try clear hcz36_1
       try clear hcz36_2
       try clear hcz36_3
       try clear hcz36_4
       try clear hcz47_0
       try clear hcz47_1
       try clear hcz47_2
       try clear hcz47_3
       try clear hcz47_4
       try clear hcz48_0
       try clear hcz48_1
       try clear hcz48_2
       try clear hcz48_3
       try clear hcz48_4
       try clear hcz51_0
       try clear hcz51_1
       try clear hcz51_2
       try clear hcz51_3
       try clear hcz51_4
       try clear hcz53_0
       try clear hcz53_1
       try clear hcz53_2
       try clear hcz53_3
       try clear hcz53_4
       try clear hcz54_0
       try clear hcz54_1
       try clear hcz54_2
       try clear hcz54_3
       try clear hcz54_4
       try clear hcz57_0
       try clear hcz57_1
       try clear hcz57_2
       try clear hcz57_3
       try clear hcz57_4
       try clear hcz59_0
       try clear hcz59_1
       try clear hcz59_2
       try clear hcz59_3
       try clear hcz59_4
       try clear hcz60_0
       try clear hcz60_1
       try clear hcz60_2
       try clear hcz60_3
       try clear hcz60_4
       try clear hcz69_0
       try clear hcz69_1
       try clear hcz69_2
       try clear hcz69_3
       try clear hcz69_4
       try clear hcz70_0
       try clear hcz70_1
       try clear hcz70_2
       try clear hcz70_3
       try clear hcz70_4
       try clear hcz72_0
       try clear hcz72_1
       try clear hcz72_2
       try clear hcz72_3
       try clear hcz72_4
       try clear hcz73_0
       try clear hcz73_1
       try clear hcz73_2
       try clear hcz73_3
       try clear hcz73_4
       try clear hfz13_0
       try clear hfz13_1
       try clear hfz13_2
       try clear hfz13_3
       try clear hfz13_4
       try clear hfz26_0
       try clear hfz26_1
       try clear hfz26_2
       try clear hfz26_3
       try clear hfz26_4
       try clear hfz27_0
       try clear hfz27_1
       try clear hfz27_2
       try clear hfz27_3
       try clear hfz27_4
       try clear hfz32_0
       try clear hfz32_1
       try clear hfz32_2
       try clear hfz32_3
       try clear hfz32_4
       try clear hfz33_0
       try clear hfz33_1
       try clear hfz33_2
       try clear hfz33_3
       try clear hfz33_4
       try clear hfz35_0
       try clear hfz35_1
       try clear hfz35_2
       try clear hfz35_3
       try clear hfz35_4
       try clear hfz36_0
       try clear hfz36_1
       try clear hfz36_2
       try clear hfz36_3
       try clear hfz36_4
       try clear hfz47_0
       try clear hfz47_1
       try clear hfz47_2
       try clear hfz47_3
       try clear hfz47_4
       try clear hfz48_0
       try clear hfz48_1
       try clear hfz48_2
       try clear hfz48_3
       try clear hfz48_4
       try clear hfz51_0
       try clear hfz51_1
       try clear hfz51_2
       try clear hfz51_3
       try clear hfz51_4
       try clear hfz53_0
       try clear hfz53_1
       try clear hfz53_2
       try clear hfz53_3
       try clear hfz53_4
       try clear hfz54_0
       try clear hfz54_1
       try clear hfz54_2
       try clear hfz54_3
       try clear hfz54_4
       try clear hfz57_0
       try clear hfz57_1
       try clear hfz57_2
       try clear hfz57_3
       try clear hfz57_4
       try clear hfz59_0
       try clear hfz59_1
       try clear hfz59_2
       try clear hfz59_3
       try clear hfz59_4
       try clear hfz60_0
       try clear hfz60_1
       try clear hfz60_2
       try clear hfz60_3
       try clear hfz60_4
       try clear hfz69_0
       try clear hfz69_1
       try clear hfz69_2
       try clear hfz69_3
       try clear hfz69_4
       try clear hfz70_0
       try clear hfz70_1
       try clear hfz70_2
       try clear hfz70_3
       try clear hfz70_4
       try clear hfz72_0
       try clear hfz72_1
       try clear hfz72_2
       try clear hfz72_3
       try clear hfz72_4
       try clear hfz73_0
       try clear hfz73_1
       try clear hfz73_2
       try clear hfz73_3
       try clear hfz73_4
       try clear p41
       try clear p45
       try clear p5
       try clear q41
       try clear q45
       try clear q5
       try clear BK111
       try clear BK112
       obtain ⟨kq,x101_73,rfl,HA,HJ73,BK111,BK112,HB⟩:=hcut
       cases kq with
       | zero => exact absurd HA.out (by simp [spec_l05Sign.j2])
       | succ kj73 =>
        have H:=HA.out
        clear HA
        simp only [spec_l05Sign.j2] at H
        by_cases c76 : x101_73 = true
        ·subst c76
         have H1 : (some (1,(a0.extract (a1 : Int).toNat ((wrap64 (a1 + 1)) : Int).toNat),0,a1,false,(wrap64 (a1 + 1)))) = some (r1,r2,r3,r4,r5,r6):=by rw [if_pos rfl] at H;exact H
         clear H
         have H:=H1
         clear H1
         simp only [Option.some.injEq,Prod.mk.injEq] at H
         obtain ⟨rfl,rfl,rfl,rfl,rfl,rfl⟩:=H
         have hnb77:=NB112_111.out
         have hnc77:=NB111_112.out
         have hcz78_0 : wc.cell? ⟨gb112,0,none⟩ = some (.int .i64 6):=(blk_cell BK112.out 0).trans rfl
         have hcz78_1 : wc.cell? ⟨gb112,1,none⟩ = some (.string (a0.extract (a1 : Int).toNat ((wrap64 (a1 + 1)) : Int).toNat)):=(blk_cell BK112.out 1).trans rfl
         have hcz78_2 : wc.cell? ⟨gb112,2,none⟩ = some (.int .i64 0):=(blk_cell BK112.out 2).trans rfl
         have hcz78_3 : wc.cell? ⟨gb112,3,none⟩ = some (.int .i64 a1):=(blk_cell BK112.out 3).trans rfl
         have hcz78_4 : wc.cell? ⟨gb112,4,none⟩ = some (.bool false):=(blk_cell BK112.out 4).trans rfl
         have hfz78_0:=blk_frozen BK112.out 0
         have hfz78_1:=blk_frozen BK112.out 1
         have hfz78_2:=blk_frozen BK112.out 2
         have hfz78_3:=blk_frozen BK112.out 3
         have hfz78_4:=blk_frozen BK112.out 4
         have hcz79_0 : wc.cell? ⟨gb111,0,none⟩ = some (.int .i64 0):=(blk_cell BK111.out 0).trans rfl
         have hcz79_1 : wc.cell? ⟨gb111,1,none⟩ = some (.string (⟨#[]⟩ : ByteArray)):=(blk_cell BK111.out 1).trans rfl
         have hcz79_2 : wc.cell? ⟨gb111,2,none⟩ = some (.int .i64 0):=(blk_cell BK111.out 2).trans rfl
         have hcz79_3 : wc.cell? ⟨gb111,3,none⟩ = some (.int .i64 0):=(blk_cell BK111.out 3).trans rfl
         have hcz79_4 : wc.cell? ⟨gb111,4,none⟩ = some (.bool false):=(blk_cell BK111.out 4).trans rfl
         have hfz79_0:=blk_frozen BK111.out 0
         have hfz79_1:=blk_frozen BK111.out 1
         have hfz79_2:=blk_frozen BK111.out 2
         have hfz79_3:=blk_frozen BK111.out 3
         have hfz79_4:=blk_frozen BK111.out 4
         go_wp2
         refine bodyPost_ret (results_ct rfl _ _ gb111 46 #[.int .i64 1,.string (a0.extract (a1 : Int).toNat ((wrap64 (a1 + 1)) : Int).toNat),.int .i64 0,.int .i64 a1,.bool false] (0,0) _ rfl (by (with_reducible repeat (first|refine blk_drewN ?_ _|refine blk_drew ?_|refine blk_alloc ?_ _));refine blk_put (cs:=#[.int .i64 1,.string (a0.extract (a1 : Int).toNat ((wrap64 (a1 + 1)) : Int).toNat),.int .i64 0,.int .i64 a1,.bool false]) ?_ 4 _ rfl;(with_reducible repeat (first|refine blk_drewN ?_ _|refine blk_drew ?_|refine blk_alloc ?_ _));refine blk_put (cs:=#[.int .i64 1,.string (a0.extract (a1 : Int).toNat ((wrap64 (a1 + 1)) : Int).toNat),.int .i64 0,.int .i64 0,.bool false]) ?_ 3 _ rfl;(with_reducible repeat (first|refine blk_drewN ?_ _|refine blk_drew ?_|refine blk_alloc ?_ _));refine blk_put (cs:=#[.int .i64 1,.string (a0.extract (a1 : Int).toNat ((wrap64 (a1 + 1)) : Int).toNat),.int .i64 0,.int .i64 0,.bool false]) ?_ 2 _ rfl;(with_reducible repeat (first|refine blk_drewN ?_ _|refine blk_drew ?_|refine blk_alloc ?_ _));refine blk_put (cs:=#[.int .i64 1,.string (⟨#[]⟩ : ByteArray),.int .i64 0,.int .i64 0,.bool false]) ?_ 1 _ rfl;(with_reducible repeat (first|refine blk_drewN ?_ _|refine blk_drew ?_|refine blk_alloc ?_ _));refine blk_put (cs:=#[.int .i64 0,.string (⟨#[]⟩ : ByteArray),.int .i64 0,.int .i64 0,.bool false]) ?_ 0 _ rfl;(with_reducible repeat (first|refine blk_drewN ?_ _|refine blk_drew ?_|refine blk_alloc ?_ _));refine blk_far ?_ NB111_112.out _;(with_reducible repeat (first|refine blk_drewN ?_ _|refine blk_drew ?_|refine blk_alloc ?_ _));exact BK111.out) Try.underlying46 rfl (by kernel_rfl)) rfl ?_
         exact ⟨by first|rfl|(simp [errW_none,errW_some] <;> rfl)|(simp [*,errW_none,errW_some] <;> rfl),by repeat (first|(with_reducible first|exact HB.out|apply below_alloc|apply pw_below_drewN|apply below_drew1|refine below_set ?_ GE111.out|refine below_set ?_ GE112.out)|exact HB.out)⟩
        ·replace c76:=Bool.eq_false_iff.mpr c76
         subst c76
         have H1 : (if (bt a0 a1) = 40 then (spec_l05Sign.j3 kj73 a0 a1 (bt a0 a1) (wrap64 (a1 + 1)) true 6 (a0.extract (a1 : Int).toNat ((wrap64 (a1 + 1)) : Int).toNat) 0 a1 false) else (if (bt a0 a1) = 41 then (spec_l05Sign.j3 kj73 a0 a1 (bt a0 a1) (wrap64 (a1 + 1)) true 6 (a0.extract (a1 : Int).toNat ((wrap64 (a1 + 1)) : Int).toNat) 0 a1 false) else (if (bt a0 a1) = 91 then (spec_l05Sign.j3 kj73 a0 a1 (bt a0 a1) (wrap64 (a1 + 1)) true 6 (a0.extract (a1 : Int).toNat ((wrap64 (a1 + 1)) : Int).toNat) 0 a1 false) else (if (bt a0 a1) = 93 then (spec_l05Sign.j3 kj73 a0 a1 (bt a0 a1) (wrap64 (a1 + 1)) true 6 (a0.extract (a1 : Int).toNat ((wrap64 (a1 + 1)) : Int).toNat) 0 a1 false) else (if (bt a0 a1) = 44 then (spec_l05Sign.j3 kj73 a0 a1 (bt a0 a1) (wrap64 (a1 + 1)) true 6 (a0.extract (a1 : Int).toNat ((wrap64 (a1 + 1)) : Int).toNat) 0 a1 false) else (spec_l05Sign.j3 kj73 a0 a1 (bt a0 a1) (wrap64 (a1 + 1)) ((bt a0 a1) == 124) 6 (a0.extract (a1 : Int).toNat ((wrap64 (a1 + 1)) : Int).toNat) 0 a1 false)))))) = some (r1,r2,r3,r4,r5,r6):=by rw [if_neg (show ¬ (false = true) by decide)] at H;exact H
         clear H
         have H:=H1
         clear H1
         have HC80:=Aside0.mk H
         clear H
         go_upto_region 27 with (fail)
         go_cut [109] (fun v109 wc => ∃ (kq : Nat) (x109_79 : Bool),v109 = .bool x109_79 ∧ Aside0 (spec_l05Sign.j3 kq a0 a1 (bt a0 a1) (wrap64 (a1 + 1)) x109_79 6 (a0.extract (a1 : Int).toNat ((wrap64 (a1 + 1)) : Int).toNat) 0 a1 false = some (r1,r2,r3,r4,r5,r6)) ∧ Aside0 (kq ≤ kj73) ∧ Aside0 (wc.heap[gb111]? = some (.cells #[.int .i64 0,.string (⟨#[]⟩ : ByteArray),.int .i64 0,.int .i64 0,.bool false] 46 (0,0))) ∧ Aside0 (wc.heap[gb112]? = some (.cells #[.int .i64 6,.string (a0.extract (a1 : Int).toNat ((wrap64 (a1 + 1)) : Int).toNat),.int .i64 0,.int .i64 a1,.bool false] 46 (0,0))) ∧ Aside0 (Below w.heap.size w wc))
         case first =>
          have H:=HC80.out
          clear HC80
          by_cases c81 : (bt a0 a1) = 40
          ·rw [if_pos c81] at H
           have c81b0 : ((bt a0 a1) == 40) = true:=beq_iff_eq.mpr c81
           have c81b1 : ((bt a0 a1) != 40) = false:=bne_eq_false_iff_eq.mpr c81
           clear c81
           (first|rw [c81b0]|(simp only [i64_w,i32_w];rw [c81b0])|skip)
           have H':=Aside0.mk H
           clear H
           go_wp2
           go_meet
           case rel => exact ⟨_,(true),(by first|rfl|(simp;done)|(simp [*];done)),H',⟨by have:=HJ8.out;have:=HJ73.out;first|omega|exact Nat.le_refl _⟩,⟨by (with_reducible repeat (first|refine blk_drewN ?_ _|refine blk_drew ?_|refine blk_alloc ?_ _));exact BK111.out⟩,⟨by (with_reducible repeat (first|refine blk_drewN ?_ _|refine blk_drew ?_|refine blk_alloc ?_ _));exact BK112.out⟩,⟨by repeat (first|(with_reducible first|exact HB.out|apply below_alloc|apply pw_below_drewN|apply below_drew1|refine below_set ?_ GE111.out|refine below_set ?_ GE112.out)|exact HB.out)⟩⟩
          ·rw [if_neg c81] at H
           have c81b0 : ((bt a0 a1) == 40) = false:=beq_eq_false_iff_ne.mpr c81
           have c81b1 : ((bt a0 a1) != 40) = true:=bne_iff_ne.mpr c81
           (first|rw [c81b0]|(simp only [i64_w,i32_w];rw [c81b0])|skip)
           by_cases c82 : (bt a0 a1) = 41
           ·rw [if_pos c82] at H
            have c82b0 : ((bt a0 a1) == 41) = true:=beq_iff_eq.mpr c82
            have c82b1 : ((bt a0 a1) != 41) = false:=bne_eq_false_iff_eq.mpr c82
            clear c82
            have H':=Aside0.mk H
            clear H
            go_wp2
            go_meet
            case rel => exact ⟨_,(true),(by first|rfl|(simp;done)|(simp [*];done)),H',⟨by have:=HJ8.out;have:=HJ73.out;first|omega|exact Nat.le_refl _⟩,⟨by (with_reducible repeat (first|refine blk_drewN ?_ _|refine blk_drew ?_|refine blk_alloc ?_ _));exact BK111.out⟩,⟨by (with_reducible repeat (first|refine blk_drewN ?_ _|refine blk_drew ?_|refine blk_alloc ?_ _));exact BK112.out⟩,⟨by repeat (first|(with_reducible first|exact HB.out|apply below_alloc|apply pw_below_drewN|apply below_drew1|refine below_set ?_ GE111.out|refine below_set ?_ GE112.out)|exact HB.out)⟩⟩
           ·rw [if_neg c82] at H
            have c82b0 : ((bt a0 a1) == 41) = false:=beq_eq_false_iff_ne.mpr c82
            have c82b1 : ((bt a0 a1) != 41) = true:=bne_iff_ne.mpr c82
            by_cases c83 : (bt a0 a1) = 91
            ·rw [if_pos c83] at H
             have c83b0 : ((bt a0 a1) == 91) = true:=beq_iff_eq.mpr c83
             have c83b1 : ((bt a0 a1) != 91) = false:=bne_eq_false_iff_eq.mpr c83
             clear c83
             have H':=Aside0.mk H
             clear H
             go_wp2
             go_meet
             case rel => exact ⟨_,(true),(by first|rfl|(simp;done)|(simp [*];done)),H',⟨by have:=HJ8.out;have:=HJ73.out;first|omega|exact Nat.le_refl _⟩,⟨by (with_reducible repeat (first|refine blk_drewN ?_ _|refine blk_drew ?_|refine blk_alloc ?_ _));exact BK111.out⟩,⟨by (with_reducible repeat (first|refine blk_drewN ?_ _|refine blk_drew ?_|refine blk_alloc ?_ _));exact BK112.out⟩,⟨by repeat (first|(with_reducible first|exact HB.out|apply below_alloc|apply pw_below_drewN|apply below_drew1|refine below_set ?_ GE111.out|refine below_set ?_ GE112.out)|exact HB.out)⟩⟩
            ·rw [if_neg c83] at H
             have c83b0 : ((bt a0 a1) == 91) = false:=beq_eq_false_iff_ne.mpr c83
             have c83b1 : ((bt a0 a1) != 91) = true:=bne_iff_ne.mpr c83
             by_cases c84 : (bt a0 a1) = 93
             ·rw [if_pos c84] at H
              have c84b0 : ((bt a0 a1) == 93) = true:=beq_iff_eq.mpr c84
              have c84b1 : ((bt a0 a1) != 93) = false:=bne_eq_false_iff_eq.mpr c84
              clear c84
              have H':=Aside0.mk H
              clear H
              go_wp2
              go_meet
              case rel => exact ⟨_,(true),(by first|rfl|(simp;done)|(simp [*];done)),H',⟨by have:=HJ8.out;have:=HJ73.out;first|omega|exact Nat.le_refl _⟩,⟨by (with_reducible repeat (first|refine blk_drewN ?_ _|refine blk_drew ?_|refine blk_alloc ?_ _));exact BK111.out⟩,⟨by (with_reducible repeat (first|refine blk_drewN ?_ _|refine blk_drew ?_|refine blk_alloc ?_ _));exact BK112.out⟩,⟨by repeat (first|(with_reducible first|exact HB.out|apply below_alloc|apply pw_below_drewN|apply below_drew1|refine below_set ?_ GE111.out|refine below_set ?_ GE112.out)|exact HB.out)⟩⟩
             ·rw [if_neg c84] at H
              have c84b0 : ((bt a0 a1) == 93) = false:=beq_eq_false_iff_ne.mpr c84
              have c84b1 : ((bt a0 a1) != 93) = true:=bne_iff_ne.mpr c84
              by_cases c85 : (bt a0 a1) = 44
              ·rw [if_pos c85] at H
               have c85b0 : ((bt a0 a1) == 44) = true:=beq_iff_eq.mpr c85
               have c85b1 : ((bt a0 a1) != 44) = false:=bne_eq_false_iff_eq.mpr c85
               clear c85
               have H':=Aside0.mk H
               clear H
               go_wp2
               go_meet
               case rel => exact ⟨_,(true),(by first|rfl|(simp;done)|(simp [*];done)),H',⟨by have:=HJ8.out;have:=HJ73.out;first|omega|exact Nat.le_refl _⟩,⟨by (with_reducible repeat (first|refine blk_drewN ?_ _|refine blk_drew ?_|refine blk_alloc ?_ _));exact BK111.out⟩,⟨by (with_reducible repeat (first|refine blk_drewN ?_ _|refine blk_drew ?_|refine blk_alloc ?_ _));exact BK112.out⟩,⟨by repeat (first|(with_reducible first|exact HB.out|apply below_alloc|apply pw_below_drewN|apply below_drew1|refine below_set ?_ GE111.out|refine below_set ?_ GE112.out)|exact HB.out)⟩⟩
              ·rw [if_neg c85] at H
               have c85b0 : ((bt a0 a1) == 44) = false:=beq_eq_false_iff_ne.mpr c85
               have c85b1 : ((bt a0 a1) != 44) = true:=bne_iff_ne.mpr c85
               have H':=Aside0.mk H
               clear H
               go_wp2
               go_meet
               case rel => exact ⟨_,(((bt a0 a1) == 124)),(by first|rfl|(simp;done)|(simp [*];done)),H',⟨by have:=HJ8.out;have:=HJ73.out;first|omega|exact Nat.le_refl _⟩,⟨by (with_reducible repeat (first|refine blk_drewN ?_ _|refine blk_drew ?_|refine blk_alloc ?_ _));exact BK111.out⟩,⟨by (with_reducible repeat (first|refine blk_drewN ?_ _|refine blk_drew ?_|refine blk_alloc ?_ _));exact BK112.out⟩,⟨by repeat (first|(with_reducible first|exact HB.out|apply below_alloc|apply pw_below_drewN|apply below_drew1|refine below_set ?_ GE111.out|refine below_set ?_ GE112.out)|exact HB.out)⟩⟩
         case rest =>
          clear HC80
          try clear c3
          try clear c3b0
          try clear c4
          try clear c4b0
          try clear p5
          try clear q5
          try clear hx5
          try clear c6b0
          try clear c7
          try clear c7b0
          try clear c7b1
          try clear c8
          try clear c8b0
          try clear c8b1
          try clear c15
          try clear c17
          try clear c19
          try clear c19b0
          try clear c21
          try clear c22
          try clear c22b0
          try clear c22b1
          try clear c23
          try clear c23b0
          try clear c23b1
          try clear c24
          try clear c24b0
          try clear c24b1
          try clear c28
          try clear c28b0
          try clear c28b1
          try clear c29
          try clear c29b0
          try clear c29b1
          try clear c30
          try clear c30b0
          try clear c30b1
          try clear c38
          try clear c39
          try clear c39b0
          try clear c40
          try clear c40b0
          try clear p41
          try clear q41
          try clear hx41
          try clear c43
          try clear c44
          try clear c44b0
          try clear p45
          try clear q45
          try clear hx45
          try clear c49
          try clear c49b0
          try clear c55
          try clear c55b0
          try clear c61
          try clear c61b0
          try clear c61b1
          try clear c63
          try clear c63b0
          try clear c65
          try clear c65b0
          try clear c65b1
          try clear c66
          try clear c66b0
          try clear c66b1
          try clear c67
          try clear c67b0
          try clear c67b1
          try clear c75
          try clear c75b0
          try clear c75b1
          try clear c76
          try clear c81
          try clear c81b0
          try clear c81b1
          try clear c82
          try clear c82b0
          try clear c82b1
          try clear c83
          try clear c83b0
          try clear c83b1
          try clear c84
          try clear c84b0
          try clear c84b1
          try clear c85
          try clear c85b0
          try clear c85b1
          try clear hcz13_0
          try clear hcz13_1
          try clear hcz13_2
          try clear hcz13_3
          try clear hcz13_4
          try clear hcz26_0
          try clear hcz26_1
          try clear hcz26_2
          try clear hcz26_3
          try clear hcz26_4
          try clear hcz27_0
          try clear hcz27_1
          try clear hcz27_2
          try clear hcz27_3
          try clear hcz27_4
          try clear hcz32_0
          try clear hcz32_1
          try clear hcz32_2
          try clear hcz32_3
          try clear hcz32_4
          try clear hcz33_0
          try clear hcz33_1
          try clear hcz33_2
          try clear hcz33_3
          try clear hcz33_4
          try clear hcz35_0
          try clear hcz35_1
          try clear hcz35_2
          try clear hcz35_3
          try clear hcz35_4
          try clear hcz36_0
          try clear hcz36_1
          try clear hcz36_2
          try clear hcz36_3
          try clear hcz36_4
          try clear hcz47_0
          try clear hcz47_1
          try clear hcz47_2
          try clear hcz47_3
          try clear hcz47_4
          try clear hcz48_0
          try clear hcz48_1
          try clear hcz48_2
          try clear hcz48_3
          try clear hcz48_4
          try clear hcz51_0
          try clear hcz51_1
          try clear hcz51_2
          try clear hcz51_3
          try clear hcz51_4
          try clear hcz53_0
          try clear hcz53_1
          try clear hcz53_2
          try clear hcz53_3
          try clear hcz53_4
          try clear hcz54_0
          try clear hcz54_1
          try clear hcz54_2
          try clear hcz54_3
          try clear hcz54_4
          try clear hcz57_0
          try clear hcz57_1
          try clear hcz57_2
          try clear hcz57_3
          try clear hcz57_4
          try clear hcz59_0
          try clear hcz59_1
          try clear hcz59_2
          try clear hcz59_3
          try clear hcz59_4
          try clear hcz60_0
          try clear hcz60_1
          try clear hcz60_2
          try clear hcz60_3
          try clear hcz60_4
          try clear hcz69_0
          try clear hcz69_1
          try clear hcz69_2
          try clear hcz69_3
          try clear hcz69_4
          try clear hcz70_0
          try clear hcz70_1
          try clear hcz70_2
          try clear hcz70_3
          try clear hcz70_4
          try clear hcz72_0
          try clear hcz72_1
          try clear hcz72_2
          try clear hcz72_3
          try clear hcz72_4
          try clear hcz73_0
          try clear hcz73_1
          try clear hcz73_2
          try clear hcz73_3
          try clear hcz73_4
          try clear hcz78_0
          try clear hcz78_1
          try clear hcz78_2
          try clear hcz78_3
          try clear hcz78_4
          try clear hcz79_0
          try clear hcz79_1
          try clear hcz79_2
          try clear hcz79_3
          try clear hcz79_4
          try clear hfz13_0
          try clear hfz13_1
          try clear hfz13_2
          try clear hfz13_3
          try clear hfz13_4
          try clear hfz26_0
          try clear hfz26_1
          try clear hfz26_2
          try clear hfz26_3
          try clear hfz26_4
          try clear hfz27_0
          try clear hfz27_1
          try clear hfz27_2
          try clear hfz27_3
          try clear hfz27_4
          try clear hfz32_0
          try clear hfz32_1
          try clear hfz32_2
          try clear hfz32_3
          try clear hfz32_4
          try clear hfz33_0
          try clear hfz33_1
          try clear hfz33_2
          try clear hfz33_3
          try clear hfz33_4
          try clear hfz35_0
          try clear hfz35_1
          try clear hfz35_2
          try clear hfz35_3
          try clear hfz35_4
          try clear hfz36_0
          try clear hfz36_1
          try clear hfz36_2
          try clear hfz36_3
          try clear hfz36_4
          try clear hfz47_0
          try clear hfz47_1
          try clear hfz47_2
          try clear hfz47_3
          try clear hfz47_4
          try clear hfz48_0
          try clear hfz48_1
          try clear hfz48_2
          try clear hfz48_3
          try clear hfz48_4
          try clear hfz51_0
          try clear hfz51_1
          try clear hfz51_2
          try clear hfz51_3
          try clear hfz51_4
          try clear hfz53_0
          try clear hfz53_1
          try clear hfz53_2
          try clear hfz53_3
          try clear hfz53_4
          try clear hfz54_0
          try clear hfz54_1
          try clear hfz54_2
          try clear hfz54_3
          try clear hfz54_4
          try clear hfz57_0
          try clear hfz57_1
          try clear hfz57_2
          try clear hfz57_3
          try clear hfz57_4
          try clear hfz59_0
          try clear hfz59_1
          try clear hfz59_2
          try clear hfz59_3
          try clear hfz59_4
          try clear hfz60_0
          try clear hfz60_1
          try clear hfz60_2
          try clear hfz60_3
          try clear hfz60_4
          try clear hfz69_0
          try clear hfz69_1
          try clear hfz69_2
          try clear hfz69_3
          try clear hfz69_4
          try clear hfz70_0
          try clear hfz70_1
          try clear hfz70_2
          try clear hfz70_3
          try clear hfz70_4
          try clear hfz72_0
          try clear hfz72_1
          try clear hfz72_2
          try clear hfz72_3
          try clear hfz72_4
          try clear hfz73_0
          try clear hfz73_1
          try clear hfz73_2
          try clear hfz73_3
          try clear hfz73_4
          try clear hfz78_0
          try clear hfz78_1
          try clear hfz78_2
          try clear hfz78_3
          try clear hfz78_4
          try clear hfz79_0
          try clear hfz79_1
          try clear hfz79_2
          try clear hfz79_3
          try clear hfz79_4
          try clear p41
          try clear p45
          try clear p5
          try clear q41
          try clear q45
          try clear q5
          try clear BK111
          try clear BK112
          obtain ⟨kq,x109_79,rfl,HA,HJ79,BK111,BK112,HB⟩:=hcut
          cases kq with
          | zero => exact absurd HA.out (by simp [spec_l05Sign.j3])
          | succ kj79 =>
           have H:=HA.out
           clear HA
           simp only [spec_l05Sign.j3] at H
           by_cases c86 : x109_79 = true
           ·subst c86
            have H1 : (some (4,(a0.extract (a1 : Int).toNat ((wrap64 (a1 + 1)) : Int).toNat),0,a1,false,(wrap64 (a1 + 1)))) = some (r1,r2,r3,r4,r5,r6):=by rw [if_pos rfl] at H;exact H
            clear H
            have H:=H1
            clear H1
            simp only [Option.some.injEq,Prod.mk.injEq] at H
            obtain ⟨rfl,rfl,rfl,rfl,rfl,rfl⟩:=H
            have hnb87:=NB112_111.out
            have hnc87:=NB111_112.out
            have hcz88_0 : wc.cell? ⟨gb112,0,none⟩ = some (.int .i64 6):=(blk_cell BK112.out 0).trans rfl
            have hcz88_1 : wc.cell? ⟨gb112,1,none⟩ = some (.string (a0.extract (a1 : Int).toNat ((wrap64 (a1 + 1)) : Int).toNat)):=(blk_cell BK112.out 1).trans rfl
            have hcz88_2 : wc.cell? ⟨gb112,2,none⟩ = some (.int .i64 0):=(blk_cell BK112.out 2).trans rfl
            have hcz88_3 : wc.cell? ⟨gb112,3,none⟩ = some (.int .i64 a1):=(blk_cell BK112.out 3).trans rfl
            have hcz88_4 : wc.cell? ⟨gb112,4,none⟩ = some (.bool false):=(blk_cell BK112.out 4).trans rfl
            have hfz88_0:=blk_frozen BK112.out 0
            have hfz88_1:=blk_frozen BK112.out 1
            have hfz88_2:=blk_frozen BK112.out 2
            have hfz88_3:=blk_frozen BK112.out 3
            have hfz88_4:=blk_frozen BK112.out 4
            have hcz89_0 : wc.cell? ⟨gb111,0,none⟩ = some (.int .i64 0):=(blk_cell BK111.out 0).trans rfl
            have hcz89_1 : wc.cell? ⟨gb111,1,none⟩ = some (.string (⟨#[]⟩ : ByteArray)):=(blk_cell BK111.out 1).trans rfl
            have hcz89_2 : wc.cell? ⟨gb111,2,none⟩ = some (.int .i64 0):=(blk_cell BK111.out 2).trans rfl
            have hcz89_3 : wc.cell? ⟨gb111,3,none⟩ = some (.int .i64 0):=(blk_cell BK111.out 3).trans rfl
            have hcz89_4 : wc.cell? ⟨gb111,4,none⟩ = some (.bool false):=(blk_cell BK111.out 4).trans rfl
            have hfz89_0:=blk_frozen BK111.out 0
            have hfz89_1:=blk_frozen BK111.out 1
            have hfz89_2:=blk_frozen BK111.out 2
            have hfz89_3:=blk_frozen BK111.out 3
            have hfz89_4:=blk_frozen BK111.out 4
            go_wp2
            refine bodyPost_ret (results_ct rfl _ _ gb111 46 #[.int .i64 4,.string (a0.extract (a1 : Int).toNat ((wrap64 (a1 + 1)) : Int).toNat),.int .i64 0,.int .i64 a1,.bool false] (0,0) _ rfl (by (with_reducible repeat (first|refine blk_drewN ?_ _|refine blk_drew ?_|refine blk_alloc ?_ _));refine blk_put (cs:=#[.int .i64 4,.string (a0.extract (a1 : Int).toNat ((wrap64 (a1 + 1)) : Int).toNat),.int .i64 0,.int .i64 a1,.bool false]) ?_ 4 _ rfl;(with_reducible repeat (first|refine blk_drewN ?_ _|refine blk_drew ?_|refine blk_alloc ?_ _));refine blk_put (cs:=#[.int .i64 4,.string (a0.extract (a1 : Int).toNat ((wrap64 (a1 + 1)) : Int).toNat),.int .i64 0,.int .i64 0,.bool false]) ?_ 3 _ rfl;(with_reducible repeat (first|refine blk_drewN ?_ _|refine blk_drew ?_|refine blk_alloc ?_ _));refine blk_put (cs:=#[.int .i64 4,.string (a0.extract (a1 : Int).toNat ((wrap64 (a1 + 1)) : Int).toNat),.int .i64 0,.int .i64 0,.bool false]) ?_ 2 _ rfl;(with_reducible repeat (first|refine blk_drewN ?_ _|refine blk_drew ?_|refine blk_alloc ?_ _));refine blk_put (cs:=#[.int .i64 4,.string (⟨#[]⟩ : ByteArray),.int .i64 0,.int .i64 0,.bool false]) ?_ 1 _ rfl;(with_reducible repeat (first|refine blk_drewN ?_ _|refine blk_drew ?_|refine blk_alloc ?_ _));refine blk_put (cs:=#[.int .i64 0,.string (⟨#[]⟩ : ByteArray),.int .i64 0,.int .i64 0,.bool false]) ?_ 0 _ rfl;(with_reducible repeat (first|refine blk_drewN ?_ _|refine blk_drew ?_|refine blk_alloc ?_ _));refine blk_far ?_ NB111_112.out _;(with_reducible repeat (first|refine blk_drewN ?_ _|refine blk_drew ?_|refine blk_alloc ?_ _));exact BK111.out) Try.underlying46 rfl (by kernel_rfl)) rfl ?_
            exact ⟨by first|rfl|(simp [errW_none,errW_some] <;> rfl)|(simp [*,errW_none,errW_some] <;> rfl),by repeat (first|(with_reducible first|exact HB.out|apply below_alloc|apply pw_below_drewN|apply below_drew1|refine below_set ?_ GE111.out|refine below_set ?_ GE112.out)|exact HB.out)⟩
           ·replace c86:=Bool.eq_false_iff.mpr c86
            subst c86
            have H1 : ((spec_l05End.f kj79 a0 a1).bind fun t120 => (if t120 = true then (some (5,(a0.extract (a1 : Int).toNat ((wrap64 (a1 + 1)) : Int).toNat),0,a1,false,(wrap64 (a1 + 1)))) else ((fk_spec_SymbolByte.f kj79 (bt a0 a1)).bind fun t121 => (if t121 = true then (spec_l05Sign.l1 kj79 a0 a1 (wrap64 (a1 + 1)) a1 6 (a0.extract (a1 : Int).toNat ((wrap64 (a1 + 1)) : Int).toNat) 0 a1 false) else (some (6,(a0.extract (a1 : Int).toNat ((wrap64 (a1 + 1)) : Int).toNat),0,a1,false,(wrap64 (a1 + 1)))))))) = some (r1,r2,r3,r4,r5,r6):=by rw [if_neg (show ¬ (false = true) by decide)] at H;exact H
            clear H
            have H:=H1
            clear H1
            replace H:=Option.bind_eq_some_iff.mp H
            obtain ⟨t120,A900,H⟩:=H
            replace H : (if t120 = true then (some (5,(a0.extract (a1 : Int).toNat ((wrap64 (a1 + 1)) : Int).toNat),0,a1,false,(wrap64 (a1 + 1)))) else ((fk_spec_SymbolByte.f kj79 (bt a0 a1)).bind fun t121 => (if t121 = true then (spec_l05Sign.l1 kj79 a0 a1 (wrap64 (a1 + 1)) a1 6 (a0.extract (a1 : Int).toNat ((wrap64 (a1 + 1)) : Int).toNat) 0 a1 false) else (some (6,(a0.extract (a1 : Int).toNat ((wrap64 (a1 + 1)) : Int).toNat),0,a1,false,(wrap64 (a1 + 1))))))) = some (r1,r2,r3,r4,r5,r6):=H
            have A90:=Aside0.mk A900
            clear A900
            by_cases c91 : t120 = true
            ·subst c91
             have H1 : (some (5,(a0.extract (a1 : Int).toNat ((wrap64 (a1 + 1)) : Int).toNat),0,a1,false,(wrap64 (a1 + 1)))) = some (r1,r2,r3,r4,r5,r6):=by rw [if_pos rfl] at H;exact H
             clear H
             have H:=H1
             clear H1
             simp only [Option.some.injEq,Prod.mk.injEq] at H
             obtain ⟨rfl,rfl,rfl,rfl,rfl,rfl⟩:=H
             go_wp2_with (first|((with_reducible refine gate_callee (f:=69) rfl ?_);refine goesL_ (some 136) rfl rfl Try.func69 (by kernel_rfl) rfl #[.string a0,.int .i64 a1] rfl (by (try simp only [List.map_toArray,List.map_cons,List.map_nil]);first|done|rfl|(simp only [List.length_drop,List.length_take];rfl)) ?_;(with_reducible refine (spec_l05End.calls kj79 a0 a1 true _ A90.out).mono ?_);rintro e w92 ⟨rfl,hb⟩;refine ⟨_,rfl,?_⟩;have n0_:=Aside0.mk (blk_below (g:=gb111) (o:=.cells #[.int .i64 0,.string (⟨#[]⟩ : ByteArray),.int .i64 0,.int .i64 0,.bool false] 46 (0,0)) (by (with_reducible repeat (first|refine blk_drewN ?_ _|refine blk_drew ?_|refine blk_alloc ?_ _));exact BK111.out) hb);have n1_:=Aside0.mk (blk_below (g:=gb112) (o:=.cells #[.int .i64 6,.string (a0.extract (a1 : Int).toNat ((wrap64 (a1 + 1)) : Int).toNat),.int .i64 0,.int .i64 a1,.bool false] 46 (0,0)) (by (with_reducible repeat (first|refine blk_drewN ?_ _|refine blk_drew ?_|refine blk_alloc ?_ _));exact BK112.out) hb);have n2_:=Aside0.mk (below_step (by repeat (first|(with_reducible first|exact HB.out|apply below_alloc|apply pw_below_drewN|apply below_drew1|refine below_set ?_ GE111.out|refine below_set ?_ GE112.out)|exact HB.out)) hb);clear BK111;clear BK112;clear HB;have BK111:=n0_;have BK112:=n1_;have HB:=n2_;clear n0_ n1_ n2_;(try clear hb);(try clear hb2);(try clear hk);(try clear hi);have hnb93:=NB112_111.out;have hnc93:=NB111_112.out;have hcz94_0 : w92.cell? ⟨gb112,0,none⟩ = some (.int .i64 6):=(blk_cell BK112.out 0).trans rfl;have hcz94_1 : w92.cell? ⟨gb112,1,none⟩ = some (.string (a0.extract (a1 : Int).toNat ((wrap64 (a1 + 1)) : Int).toNat)):=(blk_cell BK112.out 1).trans rfl;have hcz94_2 : w92.cell? ⟨gb112,2,none⟩ = some (.int .i64 0):=(blk_cell BK112.out 2).trans rfl;have hcz94_3 : w92.cell? ⟨gb112,3,none⟩ = some (.int .i64 a1):=(blk_cell BK112.out 3).trans rfl;have hcz94_4 : w92.cell? ⟨gb112,4,none⟩ = some (.bool false):=(blk_cell BK112.out 4).trans rfl;have hfz94_0:=blk_frozen BK112.out 0;have hfz94_1:=blk_frozen BK112.out 1;have hfz94_2:=blk_frozen BK112.out 2;have hfz94_3:=blk_frozen BK112.out 3;have hfz94_4:=blk_frozen BK112.out 4;have hcz95_0 : w92.cell? ⟨gb111,0,none⟩ = some (.int .i64 0):=(blk_cell BK111.out 0).trans rfl;have hcz95_1 : w92.cell? ⟨gb111,1,none⟩ = some (.string (⟨#[]⟩ : ByteArray)):=(blk_cell BK111.out 1).trans rfl;have hcz95_2 : w92.cell? ⟨gb111,2,none⟩ = some (.int .i64 0):=(blk_cell BK111.out 2).trans rfl;have hcz95_3 : w92.cell? ⟨gb111,3,none⟩ = some (.int .i64 0):=(blk_cell BK111.out 3).trans rfl;have hcz95_4 : w92.cell? ⟨gb111,4,none⟩ = some (.bool false):=(blk_cell BK111.out 4).trans rfl;have hfz95_0:=blk_frozen BK111.out 0;have hfz95_1:=blk_frozen BK111.out 1;have hfz95_2:=blk_frozen BK111.out 2;have hfz95_3:=blk_frozen BK111.out 3;have hfz95_4:=blk_frozen BK111.out 4))
             refine bodyPost_ret (results_ct rfl _ _ gb111 46 #[.int .i64 5,.string (a0.extract (a1 : Int).toNat ((wrap64 (a1 + 1)) : Int).toNat),.int .i64 0,.int .i64 a1,.bool false] (0,0) _ rfl (by (with_reducible repeat (first|refine blk_drewN ?_ _|refine blk_drew ?_|refine blk_alloc ?_ _));refine blk_put (cs:=#[.int .i64 5,.string (a0.extract (a1 : Int).toNat ((wrap64 (a1 + 1)) : Int).toNat),.int .i64 0,.int .i64 a1,.bool false]) ?_ 4 _ rfl;(with_reducible repeat (first|refine blk_drewN ?_ _|refine blk_drew ?_|refine blk_alloc ?_ _));refine blk_put (cs:=#[.int .i64 5,.string (a0.extract (a1 : Int).toNat ((wrap64 (a1 + 1)) : Int).toNat),.int .i64 0,.int .i64 0,.bool false]) ?_ 3 _ rfl;(with_reducible repeat (first|refine blk_drewN ?_ _|refine blk_drew ?_|refine blk_alloc ?_ _));refine blk_put (cs:=#[.int .i64 5,.string (a0.extract (a1 : Int).toNat ((wrap64 (a1 + 1)) : Int).toNat),.int .i64 0,.int .i64 0,.bool false]) ?_ 2 _ rfl;(with_reducible repeat (first|refine blk_drewN ?_ _|refine blk_drew ?_|refine blk_alloc ?_ _));refine blk_put (cs:=#[.int .i64 5,.string (⟨#[]⟩ : ByteArray),.int .i64 0,.int .i64 0,.bool false]) ?_ 1 _ rfl;(with_reducible repeat (first|refine blk_drewN ?_ _|refine blk_drew ?_|refine blk_alloc ?_ _));refine blk_put (cs:=#[.int .i64 0,.string (⟨#[]⟩ : ByteArray),.int .i64 0,.int .i64 0,.bool false]) ?_ 0 _ rfl;(with_reducible repeat (first|refine blk_drewN ?_ _|refine blk_drew ?_|refine blk_alloc ?_ _));refine blk_far ?_ NB111_112.out _;(with_reducible repeat (first|refine blk_drewN ?_ _|refine blk_drew ?_|refine blk_alloc ?_ _));exact BK111.out) Try.underlying46 rfl (by kernel_rfl)) rfl ?_
             exact ⟨by first|rfl|(simp [errW_none,errW_some] <;> rfl)|(simp [*,errW_none,errW_some] <;> rfl),by repeat (first|(with_reducible first|exact HB.out|apply below_alloc|apply pw_below_drewN|apply below_drew1|refine below_set ?_ GE111.out|refine below_set ?_ GE112.out)|exact HB.out)⟩
            ·replace c91:=Bool.eq_false_iff.mpr c91
             subst c91
             have H1 : ((fk_spec_SymbolByte.f kj79 (bt a0 a1)).bind fun t121 => (if t121 = true then (spec_l05Sign.l1 kj79 a0 a1 (wrap64 (a1 + 1)) a1 6 (a0.extract (a1 : Int).toNat ((wrap64 (a1 + 1)) : Int).toNat) 0 a1 false) else (some (6,(a0.extract (a1 : Int).toNat ((wrap64 (a1 + 1)) : Int).toNat),0,a1,false,(wrap64 (a1 + 1)))))) = some (r1,r2,r3,r4,r5,r6):=by rw [if_neg (show ¬ (false = true) by decide)] at H;exact H
             clear H
             have H:=H1
             clear H1
             replace H:=Option.bind_eq_some_iff.mp H
             obtain ⟨t121,A960,H⟩:=H
             replace H : (if t121 = true then (spec_l05Sign.l1 kj79 a0 a1 (wrap64 (a1 + 1)) a1 6 (a0.extract (a1 : Int).toNat ((wrap64 (a1 + 1)) : Int).toNat) 0 a1 false) else (some (6,(a0.extract (a1 : Int).toNat ((wrap64 (a1 + 1)) : Int).toNat),0,a1,false,(wrap64 (a1 + 1))))) = some (r1,r2,r3,r4,r5,r6):=H
             have A96:=Aside0.mk A960
             clear A960
             by_cases c97 : t121 = true
             ·subst c97
              have H1 : (spec_l05Sign.l1 kj79 a0 a1 (wrap64 (a1 + 1)) a1 6 (a0.extract (a1 : Int).toNat ((wrap64 (a1 + 1)) : Int).toNat) 0 a1 false) = some (r1,r2,r3,r4,r5,r6):=by rw [if_pos rfl] at H;exact H
              clear H
              have H:=H1
              clear H1
              have H':=Aside0.mk H
              clear H
              go_wp2_with (first|((with_reducible refine gate_callee (f:=69) rfl ?_);refine goesL_ (some 136) rfl rfl Try.func69 (by kernel_rfl) rfl #[.string a0,.int .i64 a1] rfl (by (try simp only [List.map_toArray,List.map_cons,List.map_nil]);first|done|rfl|(simp only [List.length_drop,List.length_take];rfl)) ?_;(with_reducible refine (spec_l05End.calls kj79 a0 a1 false _ A90.out).mono ?_);rintro e w98 ⟨rfl,hb⟩;refine ⟨_,rfl,?_⟩;have n0_:=Aside0.mk (blk_below (g:=gb111) (o:=.cells #[.int .i64 0,.string (⟨#[]⟩ : ByteArray),.int .i64 0,.int .i64 0,.bool false] 46 (0,0)) (by (with_reducible repeat (first|refine blk_drewN ?_ _|refine blk_drew ?_|refine blk_alloc ?_ _));exact BK111.out) hb);have n1_:=Aside0.mk (blk_below (g:=gb112) (o:=.cells #[.int .i64 6,.string (a0.extract (a1 : Int).toNat ((wrap64 (a1 + 1)) : Int).toNat),.int .i64 0,.int .i64 a1,.bool false] 46 (0,0)) (by (with_reducible repeat (first|refine blk_drewN ?_ _|refine blk_drew ?_|refine blk_alloc ?_ _));exact BK112.out) hb);have n2_:=Aside0.mk (below_step (by repeat (first|(with_reducible first|exact HB.out|apply below_alloc|apply pw_below_drewN|apply below_drew1|refine below_set ?_ GE111.out|refine below_set ?_ GE112.out)|exact HB.out)) hb);clear BK111;clear BK112;clear HB;have BK111:=n0_;have BK112:=n1_;have HB:=n2_;clear n0_ n1_ n2_;(try clear hb))|((with_reducible refine gate_callee (f:=13) rfl ?_);refine goesL_ (some 140) rfl rfl Try.func13 (by kernel_rfl) rfl #[.int .u8 (bt a0 a1)] rfl (by (try simp only [List.map_toArray,List.map_cons,List.map_nil]);first|done|rfl|(simp only [List.length_drop,List.length_take];rfl)) ?_;(with_reducible refine (fk_spec_SymbolByte.calls kj79 (bt a0 a1) true _ A96.out).mono ?_);rintro e w99 ⟨rfl,hb⟩;refine ⟨_,rfl,?_⟩;have n0_:=Aside0.mk (blk_below (g:=gb111) (o:=.cells #[.int .i64 0,.string (⟨#[]⟩ : ByteArray),.int .i64 0,.int .i64 0,.bool false] 46 (0,0)) (by (with_reducible repeat (first|refine blk_drewN ?_ _|refine blk_drew ?_|refine blk_alloc ?_ _));exact BK111.out) hb);have n1_:=Aside0.mk (blk_below (g:=gb112) (o:=.cells #[.int .i64 6,.string (a0.extract (a1 : Int).toNat ((wrap64 (a1 + 1)) : Int).toNat),.int .i64 0,.int .i64 a1,.bool false] 46 (0,0)) (by (with_reducible repeat (first|refine blk_drewN ?_ _|refine blk_drew ?_|refine blk_alloc ?_ _));exact BK112.out) hb);have n2_:=Aside0.mk (below_step (by repeat (first|(with_reducible first|exact HB.out|apply below_alloc|apply pw_below_drewN|apply below_drew1|refine below_set ?_ GE111.out|refine below_set ?_ GE112.out)|exact HB.out)) hb);clear BK111;clear BK112;clear HB;have BK111:=n0_;have BK112:=n1_;have HB:=n2_;clear n0_ n1_ n2_;(try clear hb)))
              go_loopg [13] kj79 (fun kq v13 w' => ∃ (x13_4 : Int),v13 = .int .i64 x13_4 ∧ Aside0 (spec_l05Sign.l1 kq a0 a1 (wrap64 (a1 + 1)) x13_4 6 (a0.extract (a1 : Int).toNat ((wrap64 (a1 + 1)) : Int).toNat) 0 a1 false = some (r1,r2,r3,r4,r5,r6)) ∧ Aside0 (kq ≤ kj79) ∧ Aside0 (w'.heap[gb111]? = some (.cells #[.int .i64 0,.string (⟨#[]⟩ : ByteArray),.int .i64 0,.int .i64 0,.bool false] 46 (0,0))) ∧ Aside0 (w'.heap[gb112]? = some (.cells #[.int .i64 6,.string (a0.extract (a1 : Int).toNat ((wrap64 (a1 + 1)) : Int).toNat),.int .i64 0,.int .i64 a1,.bool false] 46 (0,0))) ∧ Aside0 (Below w.heap.size w w'))
              case atStart => exact ⟨(a1),(by first|rfl|(simp;done)|(simp [*];done)),H',⟨Nat.le_refl _⟩,⟨by (with_reducible repeat (first|refine blk_drewN ?_ _|refine blk_drew ?_|refine blk_alloc ?_ _));exact BK111.out⟩,⟨by (with_reducible repeat (first|refine blk_drewN ?_ _|refine blk_drew ?_|refine blk_alloc ?_ _));exact BK112.out⟩,⟨by repeat (first|(with_reducible first|exact HB.out|apply below_alloc|apply pw_below_drewN|apply below_drew1|refine below_set ?_ GE111.out|refine below_set ?_ GE112.out)|exact HB.out)⟩⟩
              case round =>
               clear H'
               try clear c3
               try clear c3b0
               try clear c4
               try clear c4b0
               try clear p5
               try clear q5
               try clear hx5
               try clear c6b0
               try clear c7
               try clear c7b0
               try clear c7b1
               try clear c8
               try clear c8b0
               try clear c8b1
               try clear c15
               try clear c17
               try clear c19
               try clear c19b0
               try clear c21
               try clear c22
               try clear c22b0
               try clear c22b1
               try clear c23
               try clear c23b0
               try clear c23b1
               try clear c24
               try clear c24b0
               try clear c24b1
               try clear c28
               try clear c28b0
               try clear c28b1
               try clear c29
               try clear c29b0
               try clear c29b1
               try clear c30
               try clear c30b0
               try clear c30b1
               try clear c38
               try clear c39
               try clear c39b0
               try clear c40
               try clear c40b0
               try clear p41
               try clear q41
               try clear hx41
               try clear c43
               try clear c44
               try clear c44b0
               try clear p45
               try clear q45
               try clear hx45
               try clear c49
               try clear c49b0
               try clear c55
               try clear c55b0
               try clear c61
               try clear c61b0
               try clear c61b1
               try clear c63
               try clear c63b0
               try clear c65
               try clear c65b0
               try clear c65b1
               try clear c66
               try clear c66b0
               try clear c66b1
               try clear c67
               try clear c67b0
               try clear c67b1
               try clear c75
               try clear c75b0
               try clear c75b1
               try clear c76
               try clear c81
               try clear c81b0
               try clear c81b1
               try clear c82
               try clear c82b0
               try clear c82b1
               try clear c83
               try clear c83b0
               try clear c83b1
               try clear c84
               try clear c84b0
               try clear c84b1
               try clear c85
               try clear c85b0
               try clear c85b1
               try clear c86
               try clear c91
               try clear c97
               try clear hcz13_0
               try clear hcz13_1
               try clear hcz13_2
               try clear hcz13_3
               try clear hcz13_4
               try clear hcz26_0
               try clear hcz26_1
               try clear hcz26_2
               try clear hcz26_3
               try clear hcz26_4
               try clear hcz27_0
               try clear hcz27_1
               try clear hcz27_2
               try clear hcz27_3
               try clear hcz27_4
               try clear hcz32_0
               try clear hcz32_1
               try clear hcz32_2
               try clear hcz32_3
               try clear hcz32_4
               try clear hcz33_0
               try clear hcz33_1
               try clear hcz33_2
               try clear hcz33_3
               try clear hcz33_4
               try clear hcz35_0
               try clear hcz35_1
               try clear hcz35_2
               try clear hcz35_3
               try clear hcz35_4
               try clear hcz36_0
               try clear hcz36_1
               try clear hcz36_2
               try clear hcz36_3
               try clear hcz36_4
               try clear hcz47_0
               try clear hcz47_1
               try clear hcz47_2
               try clear hcz47_3
               try clear hcz47_4
               try clear hcz48_0
               try clear hcz48_1
               try clear hcz48_2
               try clear hcz48_3
               try clear hcz48_4
               try clear hcz51_0
               try clear hcz51_1
               try clear hcz51_2
               try clear hcz51_3
               try clear hcz51_4
               try clear hcz53_0
               try clear hcz53_1
               try clear hcz53_2
               try clear hcz53_3
               try clear hcz53_4
               try clear hcz54_0
               try clear hcz54_1
               try clear hcz54_2
               try clear hcz54_3
               try clear hcz54_4
               try clear hcz57_0
               try clear hcz57_1
               try clear hcz57_2
               try clear hcz57_3
               try clear hcz57_4
               try clear hcz59_0
               try clear hcz59_1
               try clear hcz59_2
               try clear hcz59_3
               try clear hcz59_4
               try clear hcz60_0
               try clear hcz60_1
               try clear hcz60_2
               try clear hcz60_3
               try clear hcz60_4
               try clear hcz69_0
               try clear hcz69_1
               try clear hcz69_2
               try clear hcz69_3
               try clear hcz69_4
               try clear hcz70_0
               try clear hcz70_1
               try clear hcz70_2
               try clear hcz70_3
               try clear hcz70_4
               try clear hcz72_0
               try clear hcz72_1
               try clear hcz72_2
               try clear hcz72_3
               try clear hcz72_4
               try clear hcz73_0
               try clear hcz73_1
               try clear hcz73_2
               try clear hcz73_3
               try clear hcz73_4
               try clear hcz78_0
               try clear hcz78_1
               try clear hcz78_2
               try clear hcz78_3
               try clear hcz78_4
               try clear hcz79_0
               try clear hcz79_1
               try clear hcz79_2
               try clear hcz79_3
               try clear hcz79_4
               try clear hcz88_0
               try clear hcz88_1
               try clear hcz88_2
               try clear hcz88_3
               try clear hcz88_4
               try clear hcz89_0
               try clear hcz89_1
               try clear hcz89_2
               try clear hcz89_3
               try clear hcz89_4
               try clear hcz94_0
               try clear hcz94_1
               try clear hcz94_2
               try clear hcz94_3
               try clear hcz94_4
               try clear hcz95_0
               try clear hcz95_1
               try clear hcz95_2
               try clear hcz95_3
               try clear hcz95_4
               try clear hfz13_0
               try clear hfz13_1
               try clear hfz13_2
               try clear hfz13_3
               try clear hfz13_4
               try clear hfz26_0
               try clear hfz26_1
               try clear hfz26_2
               try clear hfz26_3
               try clear hfz26_4
               try clear hfz27_0
               try clear hfz27_1
               try clear hfz27_2
               try clear hfz27_3
               try clear hfz27_4
               try clear hfz32_0
               try clear hfz32_1
               try clear hfz32_2
               try clear hfz32_3
               try clear hfz32_4
               try clear hfz33_0
               try clear hfz33_1
               try clear hfz33_2
               try clear hfz33_3
               try clear hfz33_4
               try clear hfz35_0
               try clear hfz35_1
               try clear hfz35_2
               try clear hfz35_3
               try clear hfz35_4
               try clear hfz36_0
               try clear hfz36_1
               try clear hfz36_2
               try clear hfz36_3
               try clear hfz36_4
               try clear hfz47_0
               try clear hfz47_1
               try clear hfz47_2
               try clear hfz47_3
               try clear hfz47_4
               try clear hfz48_0
               try clear hfz48_1
               try clear hfz48_2
               try clear hfz48_3
               try clear hfz48_4
               try clear hfz51_0
               try clear hfz51_1
               try clear hfz51_2
               try clear hfz51_3
               try clear hfz51_4
               try clear hfz53_0
               try clear hfz53_1
               try clear hfz53_2
               try clear hfz53_3
               try clear hfz53_4
               try clear hfz54_0
               try clear hfz54_1
               try clear hfz54_2
               try clear hfz54_3
               try clear hfz54_4
               try clear hfz57_0
               try clear hfz57_1
               try clear hfz57_2
               try clear hfz57_3
               try clear hfz57_4
               try clear hfz59_0
               try clear hfz59_1
               try clear hfz59_2
               try clear hfz59_3
               try clear hfz59_4
               try clear hfz60_0
               try clear hfz60_1
               try clear hfz60_2
               try clear hfz60_3
               try clear hfz60_4
               try clear hfz69_0
               try clear hfz69_1
               try clear hfz69_2
               try clear hfz69_3
               try clear hfz69_4
               try clear hfz70_0
               try clear hfz70_1
               try clear hfz70_2
               try clear hfz70_3
               try clear hfz70_4
               try clear hfz72_0
               try clear hfz72_1
               try clear hfz72_2
               try clear hfz72_3
               try clear hfz72_4
               try clear hfz73_0
               try clear hfz73_1
               try clear hfz73_2
               try clear hfz73_3
               try clear hfz73_4
               try clear hfz78_0
               try clear hfz78_1
               try clear hfz78_2
               try clear hfz78_3
               try clear hfz78_4
               try clear hfz79_0
               try clear hfz79_1
               try clear hfz79_2
               try clear hfz79_3
               try clear hfz79_4
               try clear hfz88_0
               try clear hfz88_1
               try clear hfz88_2
               try clear hfz88_3
               try clear hfz88_4
               try clear hfz89_0
               try clear hfz89_1
               try clear hfz89_2
               try clear hfz89_3
               try clear hfz89_4
               try clear hfz94_0
               try clear hfz94_1
               try clear hfz94_2
               try clear hfz94_3
               try clear hfz94_4
               try clear hfz95_0
               try clear hfz95_1
               try clear hfz95_2
               try clear hfz95_3
               try clear hfz95_4
               try clear p41
               try clear p45
               try clear p5
               try clear q41
               try clear q45
               try clear q5
               try clear BK111
               try clear BK112
               obtain ⟨x13_4,rfl,HA,HK4,BK111,BK112,HB⟩:=hrel
               cases gk with
               | zero => exact absurd HA.out (by simp [spec_l05Sign.l1])
               | succ k4 =>
                have H:=HA.out
                clear HA
                simp only [spec_l05Sign.l1] at H
                by_cases c100 : x13_4 < (a0.size : Int)
                ·rw [if_pos c100] at H
                 have c100b0 : decide (x13_4 < (a0.size : Int)) = true:=decide_eq_true c100
                 clear c100
                 by_cases c101 : 0 ≤ x13_4
                 rotate_left
                 ·rw [if_neg c101] at H
                  exact absurd H (by simp)
                 rw [if_pos c101] at H
                 have c101b0 : decide (0 ≤ x13_4) = true:=decide_eq_true c101
                 clear c101
                 replace H:=Option.bind_eq_some_iff.mp H
                 obtain ⟨t122,A1030,H⟩:=H
                 replace H : (if t122 = true then (spec_l05Sign.l1 k4 a0 a1 (wrap64 (a1 + 1)) (wrap64 (x13_4 + 1)) 6 (a0.extract (a1 : Int).toNat ((wrap64 (a1 + 1)) : Int).toNat) 0 a1 false) else (if (wrap64 (x13_4 - a1)) ≤ 20 then (if 0 ≤ a1 then (if a1 ≤ x13_4 then (if x13_4 ≤ (a0.size : Int) then (some (1,a0.extract (a1 : Int).toNat (x13_4 : Int).toNat,0,a1,false,x13_4)) else (none)) else (none)) else (none)) else (some (6,(a0.extract (a1 : Int).toNat ((wrap64 (a1 + 1)) : Int).toNat),0,a1,false,(wrap64 (a1 + 1)))))) = some (r1,r2,r3,r4,r5,r6):=H
                 have A103:=Aside0.mk A1030
                 clear A1030
                 by_cases c104 : t122 = true
                 ·subst c104
                  have H1 : (spec_l05Sign.l1 k4 a0 a1 (wrap64 (a1 + 1)) (wrap64 (x13_4 + 1)) 6 (a0.extract (a1 : Int).toNat ((wrap64 (a1 + 1)) : Int).toNat) 0 a1 false) = some (r1,r2,r3,r4,r5,r6):=by rw [if_pos rfl] at H;exact H
                  clear H
                  have H:=H1
                  clear H1
                  have H':=Aside0.mk H
                  clear H
                  have p102 : 0 ≤ (x13_4 : Int):=of_decide_eq_true (by first|(with_reducible assumption)|assumption)
                  have q102 : x13_4 < (a0.size : Int):=of_decide_eq_true (by first|(with_reducible assumption)|assumption)
                  have hx102:=bt_at a0 x13_4
                  replace p102:=eq_true p102
                  replace q102:=eq_true q102
                  go_wp2_with (first|(go_at_call 13;(with_reducible refine (fk_spec_SymbolByte.calls k4 (bt a0 x13_4) true _ A103.out).mono ?_);rintro e w105 ⟨rfl,hb⟩;have n0_:=Aside0.mk (blk_below (g:=gb111) (o:=.cells #[.int .i64 0,.string (⟨#[]⟩ : ByteArray),.int .i64 0,.int .i64 0,.bool false] 46 (0,0)) (by (with_reducible repeat (first|refine blk_drewN ?_ _|refine blk_drew ?_|refine blk_alloc ?_ _));exact BK111.out) hb);have n1_:=Aside0.mk (blk_below (g:=gb112) (o:=.cells #[.int .i64 6,.string (a0.extract (a1 : Int).toNat ((wrap64 (a1 + 1)) : Int).toNat),.int .i64 0,.int .i64 a1,.bool false] 46 (0,0)) (by (with_reducible repeat (first|refine blk_drewN ?_ _|refine blk_drew ?_|refine blk_alloc ?_ _));exact BK112.out) hb);have n2_:=Aside0.mk (below_step (by repeat (first|(with_reducible first|exact HB.out|apply below_alloc|apply pw_below_drewN|apply below_drew1|refine below_set ?_ GE111.out|refine below_set ?_ GE112.out)|exact HB.out)) hb);clear BK111;clear BK112;clear HB;have BK111:=n0_;have BK112:=n1_;have HB:=n2_;clear n0_ n1_ n2_;(try clear hb)))
                  go_roundg k4
                  case measure => have:=HJ8.out;have:=HJ73.out;have:=HJ79.out;have:=HK4.out;omega
                  case rel => exact ⟨(wrap64 (x13_4 + 1)),(by first|rfl|(simp;done)|(simp [*];done)),H',⟨by have:=HJ8.out;have:=HJ73.out;have:=HJ79.out;have:=HK4.out;omega⟩,⟨by (with_reducible repeat (first|refine blk_drewN ?_ _|refine blk_drew ?_|refine blk_alloc ?_ _));exact BK111.out⟩,⟨by (with_reducible repeat (first|refine blk_drewN ?_ _|refine blk_drew ?_|refine blk_alloc ?_ _));exact BK112.out⟩,⟨by repeat (first|(with_reducible first|exact HB.out|apply below_alloc|apply pw_below_drewN|apply below_drew1|refine below_set ?_ GE111.out|refine below_set ?_ GE112.out)|exact HB.out)⟩⟩
                 ·replace c104:=Bool.eq_false_iff.mpr c104
                  subst c104
                  have H1 : (if (wrap64 (x13_4 - a1)) ≤ 20 then (if 0 ≤ a1 then (if a1 ≤ x13_4 then (if x13_4 ≤ (a0.size : Int) then (some (1,a0.extract (a1 : Int).toNat (x13_4 : Int).toNat,0,a1,false,x13_4)) else (none)) else (none)) else (none)) else (some (6,(a0.extract (a1 : Int).toNat ((wrap64 (a1 + 1)) : Int).toNat),0,a1,false,(wrap64 (a1 + 1))))) = some (r1,r2,r3,r4,r5,r6):=by rw [if_neg (show ¬ (false = true) by decide)] at H;exact H
                  clear H
                  have H:=H1
                  clear H1
                  by_cases c106 : (wrap64 (x13_4 - a1)) ≤ 20
                  ·rw [if_pos c106] at H
                   have c106b0 : decide ((wrap64 (x13_4 - a1)) ≤ 20) = true:=decide_eq_true c106
                   clear c106
                   by_cases c107 : 0 ≤ a1
                   rotate_left
                   ·rw [if_neg c107] at H
                    exact absurd H (by simp)
                   rw [if_pos c107] at H
                   have c107b0:=eq_true c107
                   have c107b1 : decide (0 ≤ a1) = true:=decide_eq_true c107
                   clear c107
                   by_cases c108 : a1 ≤ x13_4
                   rotate_left
                   ·rw [if_neg c108] at H
                    exact absurd H (by simp)
                   rw [if_pos c108] at H
                   have c108b0:=eq_true c108
                   have c108b1 : decide (a1 ≤ x13_4) = true:=decide_eq_true c108
                   clear c108
                   by_cases c109 : x13_4 ≤ (a0.size : Int)
                   rotate_left
                   ·rw [if_neg c109] at H
                    exact absurd H (by simp)
                   rw [if_pos c109] at H
                   have c109b0:=eq_true c109
                   have c109b1 : decide (x13_4 ≤ (a0.size : Int)) = true:=decide_eq_true c109
                   clear c109
                   simp only [Option.some.injEq,Prod.mk.injEq] at H
                   obtain ⟨rfl,rfl,rfl,rfl,rfl,rfl⟩:=H
                   have p102 : 0 ≤ (x13_4 : Int):=of_decide_eq_true (by first|(with_reducible assumption)|assumption)
                   have q102 : x13_4 < (a0.size : Int):=of_decide_eq_true (by first|(with_reducible assumption)|assumption)
                   have hx102:=bt_at a0 x13_4
                   replace p102:=eq_true p102
                   replace q102:=eq_true q102
                   go_wp2_with (first|(go_at_call 13;(with_reducible refine (fk_spec_SymbolByte.calls k4 (bt a0 x13_4) false _ A103.out).mono ?_);rintro e w110 ⟨rfl,hb⟩;have n0_:=Aside0.mk (blk_below (g:=gb111) (o:=.cells #[.int .i64 0,.string (⟨#[]⟩ : ByteArray),.int .i64 0,.int .i64 0,.bool false] 46 (0,0)) (by (with_reducible repeat (first|refine blk_drewN ?_ _|refine blk_drew ?_|refine blk_alloc ?_ _));exact BK111.out) hb);have n1_:=Aside0.mk (blk_below (g:=gb112) (o:=.cells #[.int .i64 6,.string (a0.extract (a1 : Int).toNat ((wrap64 (a1 + 1)) : Int).toNat),.int .i64 0,.int .i64 a1,.bool false] 46 (0,0)) (by (with_reducible repeat (first|refine blk_drewN ?_ _|refine blk_drew ?_|refine blk_alloc ?_ _));exact BK112.out) hb);have n2_:=Aside0.mk (below_step (by repeat (first|(with_reducible first|exact HB.out|apply below_alloc|apply pw_below_drewN|apply below_drew1|refine below_set ?_ GE111.out|refine below_set ?_ GE112.out)|exact HB.out)) hb);clear BK111;clear BK112;clear HB;have BK111:=n0_;have BK112:=n1_;have HB:=n2_;clear n0_ n1_ n2_;(try clear hb);(try clear hb2);(try clear hk);(try clear hi);have hnb111:=NB112_111.out;have hnc111:=NB111_112.out;have hcz112_0 : w110.cell? ⟨gb112,0,none⟩ = some (.int .i64 6):=(blk_cell BK112.out 0).trans rfl;have hcz112_1 : w110.cell? ⟨gb112,1,none⟩ = some (.string (a0.extract (a1 : Int).toNat ((wrap64 (a1 + 1)) : Int).toNat)):=(blk_cell BK112.out 1).trans rfl;have hcz112_2 : w110.cell? ⟨gb112,2,none⟩ = some (.int .i64 0):=(blk_cell BK112.out 2).trans rfl;have hcz112_3 : w110.cell? ⟨gb112,3,none⟩ = some (.int .i64 a1):=(blk_cell BK112.out 3).trans rfl;have hcz112_4 : w110.cell? ⟨gb112,4,none⟩ = some (.bool false):=(blk_cell BK112.out 4).trans rfl;have hfz112_0:=blk_frozen BK112.out 0;have hfz112_1:=blk_frozen BK112.out 1;have hfz112_2:=blk_frozen BK112.out 2;have hfz112_3:=blk_frozen BK112.out 3;have hfz112_4:=blk_frozen BK112.out 4;have hcz113_0 : w110.cell? ⟨gb111,0,none⟩ = some (.int .i64 0):=(blk_cell BK111.out 0).trans rfl;have hcz113_1 : w110.cell? ⟨gb111,1,none⟩ = some (.string (⟨#[]⟩ : ByteArray)):=(blk_cell BK111.out 1).trans rfl;have hcz113_2 : w110.cell? ⟨gb111,2,none⟩ = some (.int .i64 0):=(blk_cell BK111.out 2).trans rfl;have hcz113_3 : w110.cell? ⟨gb111,3,none⟩ = some (.int .i64 0):=(blk_cell BK111.out 3).trans rfl;have hcz113_4 : w110.cell? ⟨gb111,4,none⟩ = some (.bool false):=(blk_cell BK111.out 4).trans rfl;have hfz113_0:=blk_frozen BK111.out 0;have hfz113_1:=blk_frozen BK111.out 1;have hfz113_2:=blk_frozen BK111.out 2;have hfz113_3:=blk_frozen BK111.out 3;have hfz113_4:=blk_frozen BK111.out 4))
                   refine bodyPost_ret (results_ct rfl _ _ gb111 46 #[.int .i64 1,.string (a0.extract (a1 : Int).toNat (x13_4 : Int).toNat),.int .i64 0,.int .i64 a1,.bool false] (0,0) _ rfl (by (with_reducible repeat (first|refine blk_drewN ?_ _|refine blk_drew ?_|refine blk_alloc ?_ _));refine blk_put (cs:=#[.int .i64 1,.string (a0.extract (a1 : Int).toNat (x13_4 : Int).toNat),.int .i64 0,.int .i64 a1,.bool false]) ?_ 4 _ rfl;(with_reducible repeat (first|refine blk_drewN ?_ _|refine blk_drew ?_|refine blk_alloc ?_ _));refine blk_put (cs:=#[.int .i64 1,.string (a0.extract (a1 : Int).toNat (x13_4 : Int).toNat),.int .i64 0,.int .i64 0,.bool false]) ?_ 3 _ rfl;(with_reducible repeat (first|refine blk_drewN ?_ _|refine blk_drew ?_|refine blk_alloc ?_ _));refine blk_put (cs:=#[.int .i64 1,.string (a0.extract (a1 : Int).toNat (x13_4 : Int).toNat),.int .i64 0,.int .i64 0,.bool false]) ?_ 2 _ rfl;(with_reducible repeat (first|refine blk_drewN ?_ _|refine blk_drew ?_|refine blk_alloc ?_ _));refine blk_put (cs:=#[.int .i64 1,.string (⟨#[]⟩ : ByteArray),.int .i64 0,.int .i64 0,.bool false]) ?_ 1 _ rfl;(with_reducible repeat (first|refine blk_drewN ?_ _|refine blk_drew ?_|refine blk_alloc ?_ _));refine blk_put (cs:=#[.int .i64 0,.string (⟨#[]⟩ : ByteArray),.int .i64 0,.int .i64 0,.bool false]) ?_ 0 _ rfl;(with_reducible repeat (first|refine blk_drewN ?_ _|refine blk_drew ?_|refine blk_alloc ?_ _));refine blk_far ?_ NB111_112.out _;(with_reducible repeat (first|refine blk_drewN ?_ _|refine blk_drew ?_|refine blk_alloc ?_ _));refine blk_far ?_ NB111_112.out _;(with_reducible repeat (first|refine blk_drewN ?_ _|refine blk_drew ?_|refine blk_alloc ?_ _));exact BK111.out) Try.underlying46 rfl (by kernel_rfl)) rfl ?_
                   exact ⟨by first|rfl|(simp [errW_none,errW_some] <;> rfl)|(simp [*,errW_none,errW_some] <;> rfl),by repeat (first|(with_reducible first|exact HB.out|apply below_alloc|apply pw_below_drewN|apply below_drew1|refine below_set ?_ GE111.out|refine below_set ?_ GE112.out)|exact HB.out)⟩
                  ·rw [if_neg c106] at H
                   have c106b0 : decide ((wrap64 (x13_4 - a1)) ≤ 20) = false:=decide_eq_false c106
                   clear c106
                   simp only [Option.some.injEq,Prod.mk.injEq] at H
                   obtain ⟨rfl,rfl,rfl,rfl,rfl,rfl⟩:=H
                   have p102 : 0 ≤ (x13_4 : Int):=of_decide_eq_true (by first|(with_reducible assumption)|assumption)
                   have q102 : x13_4 < (a0.size : Int):=of_decide_eq_true (by first|(with_reducible assumption)|assumption)
                   have hx102:=bt_at a0 x13_4
                   replace p102:=eq_true p102
                   replace q102:=eq_true q102
                   go_wp2_with (first|(go_at_call 13;(with_reducible refine (fk_spec_SymbolByte.calls k4 (bt a0 x13_4) false _ A103.out).mono ?_);rintro e w114 ⟨rfl,hb⟩;have n0_:=Aside0.mk (blk_below (g:=gb111) (o:=.cells #[.int .i64 0,.string (⟨#[]⟩ : ByteArray),.int .i64 0,.int .i64 0,.bool false] 46 (0,0)) (by (with_reducible repeat (first|refine blk_drewN ?_ _|refine blk_drew ?_|refine blk_alloc ?_ _));exact BK111.out) hb);have n1_:=Aside0.mk (blk_below (g:=gb112) (o:=.cells #[.int .i64 6,.string (a0.extract (a1 : Int).toNat ((wrap64 (a1 + 1)) : Int).toNat),.int .i64 0,.int .i64 a1,.bool false] 46 (0,0)) (by (with_reducible repeat (first|refine blk_drewN ?_ _|refine blk_drew ?_|refine blk_alloc ?_ _));exact BK112.out) hb);have n2_:=Aside0.mk (below_step (by repeat (first|(with_reducible first|exact HB.out|apply below_alloc|apply pw_below_drewN|apply below_drew1|refine below_set ?_ GE111.out|refine below_set ?_ GE112.out)|exact HB.out)) hb);clear BK111;clear BK112;clear HB;have BK111:=n0_;have BK112:=n1_;have HB:=n2_;clear n0_ n1_ n2_;(try clear hb);(try clear hb2);(try clear hk);(try clear hi);have hnb115:=NB112_111.out;have hnc115:=NB111_112.out;have hcz116_0 : w114.cell? ⟨gb112,0,none⟩ = some (.int .i64 6):=(blk_cell BK112.out 0).trans rfl;have hcz116_1 : w114.cell? ⟨gb112,1,none⟩ = some (.string (a0.extract (a1 : Int).toNat ((wrap64 (a1 + 1)) : Int).toNat)):=(blk_cell BK112.out 1).trans rfl;have hcz116_2 : w114.cell? ⟨gb112,2,none⟩ = some (.int .i64 0):=(blk_cell BK112.out 2).trans rfl;have hcz116_3 : w114.cell? ⟨gb112,3,none⟩ = some (.int .i64 a1):=(blk_cell BK112.out 3).trans rfl;have hcz116_4 : w114.cell? ⟨gb112,4,none⟩ = some (.bool false):=(blk_cell BK112.out 4).trans rfl;have hfz116_0:=blk_frozen BK112.out 0;have hfz116_1:=blk_frozen BK112.out 1;have hfz116_2:=blk_frozen BK112.out 2;have hfz116_3:=blk_frozen BK112.out 3;have hfz116_4:=blk_frozen BK112.out 4;have hcz117_0 : w114.cell? ⟨gb111,0,none⟩ = some (.int .i64 0):=(blk_cell BK111.out 0).trans rfl;have hcz117_1 : w114.cell? ⟨gb111,1,none⟩ = some (.string (⟨#[]⟩ : ByteArray)):=(blk_cell BK111.out 1).trans rfl;have hcz117_2 : w114.cell? ⟨gb111,2,none⟩ = some (.int .i64 0):=(blk_cell BK111.out 2).trans rfl;have hcz117_3 : w114.cell? ⟨gb111,3,none⟩ = some (.int .i64 0):=(blk_cell BK111.out 3).trans rfl;have hcz117_4 : w114.cell? ⟨gb111,4,none⟩ = some (.bool false):=(blk_cell BK111.out 4).trans rfl;have hfz117_0:=blk_frozen BK111.out 0;have hfz117_1:=blk_frozen BK111.out 1;have hfz117_2:=blk_frozen BK111.out 2;have hfz117_3:=blk_frozen BK111.out 3;have hfz117_4:=blk_frozen BK111.out 4))
                   refine bodyPost_ret (results_ct rfl _ _ gb111 46 #[.int .i64 6,.string (a0.extract (a1 : Int).toNat ((wrap64 (a1 + 1)) : Int).toNat),.int .i64 0,.int .i64 a1,.bool false] (0,0) _ rfl (by (with_reducible repeat (first|refine blk_drewN ?_ _|refine blk_drew ?_|refine blk_alloc ?_ _));refine blk_put (cs:=#[.int .i64 6,.string (a0.extract (a1 : Int).toNat ((wrap64 (a1 + 1)) : Int).toNat),.int .i64 0,.int .i64 a1,.bool false]) ?_ 4 _ rfl;(with_reducible repeat (first|refine blk_drewN ?_ _|refine blk_drew ?_|refine blk_alloc ?_ _));refine blk_put (cs:=#[.int .i64 6,.string (a0.extract (a1 : Int).toNat ((wrap64 (a1 + 1)) : Int).toNat),.int .i64 0,.int .i64 0,.bool false]) ?_ 3 _ rfl;(with_reducible repeat (first|refine blk_drewN ?_ _|refine blk_drew ?_|refine blk_alloc ?_ _));refine blk_put (cs:=#[.int .i64 6,.string (a0.extract (a1 : Int).toNat ((wrap64 (a1 + 1)) : Int).toNat),.int .i64 0,.int .i64 0,.bool false]) ?_ 2 _ rfl;(with_reducible repeat (first|refine blk_drewN ?_ _|refine blk_drew ?_|refine blk_alloc ?_ _));refine blk_put (cs:=#[.int .i64 6,.string (⟨#[]⟩ : ByteArray),.int .i64 0,.int .i64 0,.bool false]) ?_ 1 _ rfl;(with_reducible repeat (first|refine blk_drewN ?_ _|refine blk_drew ?_|refine blk_alloc ?_ _));refine blk_put (cs:=#[.int .i64 0,.string (⟨#[]⟩ : ByteArray),.int .i64 0,.int .i64 0,.bool false]) ?_ 0 _ rfl;(with_reducible repeat (first|refine blk_drewN ?_ _|refine blk_drew ?_|refine blk_alloc ?_ _));exact BK111.out) Try.underlying46 rfl (by kernel_rfl)) rfl ?_
                   exact ⟨by first|rfl|(simp [errW_none,errW_some] <;> rfl)|(simp [*,errW_none,errW_some] <;> rfl),by repeat (first|(with_reducible first|exact HB.out|apply below_alloc|apply pw_below_drewN|apply below_drew1|refine below_set ?_ GE111.out|refine below_set ?_ GE112.out)|exact HB.out)⟩
                ·rw [if_neg c100] at H
                 have c100b0 : decide (x13_4 < (a0.size : Int)) = false:=decide_eq_false c100
                 clear c100
                 by_cases c118 : (wrap64 (x13_4 - a1)) ≤ 20
                 ·rw [if_pos c118] at H
                  have c118b0 : decide ((wrap64 (x13_4 - a1)) ≤ 20) = true:=decide_eq_true c118
                  clear c118
                  by_cases c119 : 0 ≤ a1
                  rotate_left
                  ·rw [if_neg c119] at H
                   exact absurd H (by simp)
                  rw [if_pos c119] at H
                  have c119b0:=eq_true c119
                  have c119b1 : decide (0 ≤ a1) = true:=decide_eq_true c119
                  clear c119
                  by_cases c120 : a1 ≤ x13_4
                  rotate_left
                  ·rw [if_neg c120] at H
                   exact absurd H (by simp)
                  rw [if_pos c120] at H
                  have c120b0:=eq_true c120
                  have c120b1 : decide (a1 ≤ x13_4) = true:=decide_eq_true c120
                  clear c120
                  by_cases c121 : x13_4 ≤ (a0.size : Int)
                  rotate_left
                  ·rw [if_neg c121] at H
                   exact absurd H (by simp)
                  rw [if_pos c121] at H
                  have c121b0:=eq_true c121
                  have c121b1 : decide (x13_4 ≤ (a0.size : Int)) = true:=decide_eq_true c121
                  clear c121
                  simp only [Option.some.injEq,Prod.mk.injEq] at H
                  obtain ⟨rfl,rfl,rfl,rfl,rfl,rfl⟩:=H
                  have hnb122:=NB112_111.out
                  have hnc122:=NB111_112.out
                  have hcz123_0 : wr.cell? ⟨gb112,0,none⟩ = some (.int .i64 6):=(blk_cell BK112.out 0).trans rfl
                  have hcz123_1 : wr.cell? ⟨gb112,1,none⟩ = some (.string (a0.extract (a1 : Int).toNat ((wrap64 (a1 + 1)) : Int).toNat)):=(blk_cell BK112.out 1).trans rfl
                  have hcz123_2 : wr.cell? ⟨gb112,2,none⟩ = some (.int .i64 0):=(blk_cell BK112.out 2).trans rfl
                  have hcz123_3 : wr.cell? ⟨gb112,3,none⟩ = some (.int .i64 a1):=(blk_cell BK112.out 3).trans rfl
                  have hcz123_4 : wr.cell? ⟨gb112,4,none⟩ = some (.bool false):=(blk_cell BK112.out 4).trans rfl
                  have hfz123_0:=blk_frozen BK112.out 0
                  have hfz123_1:=blk_frozen BK112.out 1
                  have hfz123_2:=blk_frozen BK112.out 2
                  have hfz123_3:=blk_frozen BK112.out 3
                  have hfz123_4:=blk_frozen BK112.out 4
                  have hcz124_0 : wr.cell? ⟨gb111,0,none⟩ = some (.int .i64 0):=(blk_cell BK111.out 0).trans rfl
                  have hcz124_1 : wr.cell? ⟨gb111,1,none⟩ = some (.string (⟨#[]⟩ : ByteArray)):=(blk_cell BK111.out 1).trans rfl
                  have hcz124_2 : wr.cell? ⟨gb111,2,none⟩ = some (.int .i64 0):=(blk_cell BK111.out 2).trans rfl
                  have hcz124_3 : wr.cell? ⟨gb111,3,none⟩ = some (.int .i64 0):=(blk_cell BK111.out 3).trans rfl
                  have hcz124_4 : wr.cell? ⟨gb111,4,none⟩ = some (.bool false):=(blk_cell BK111.out 4).trans rfl
                  have hfz124_0:=blk_frozen BK111.out 0
                  have hfz124_1:=blk_frozen BK111.out 1
                  have hfz124_2:=blk_frozen BK111.out 2
                  have hfz124_3:=blk_frozen BK111.out 3
                  have hfz124_4:=blk_frozen BK111.out 4
                  go_wp2
                  refine bodyPost_ret (results_ct rfl _ _ gb111 46 #[.int .i64 1,.string (a0.extract (a1 : Int).toNat (x13_4 : Int).toNat),.int .i64 0,.int .i64 a1,.bool false] (0,0) _ rfl (by (with_reducible repeat (first|refine blk_drewN ?_ _|refine blk_drew ?_|refine blk_alloc ?_ _));refine blk_put (cs:=#[.int .i64 1,.string (a0.extract (a1 : Int).toNat (x13_4 : Int).toNat),.int .i64 0,.int .i64 a1,.bool false]) ?_ 4 _ rfl;(with_reducible repeat (first|refine blk_drewN ?_ _|refine blk_drew ?_|refine blk_alloc ?_ _));refine blk_put (cs:=#[.int .i64 1,.string (a0.extract (a1 : Int).toNat (x13_4 : Int).toNat),.int .i64 0,.int .i64 0,.bool false]) ?_ 3 _ rfl;(with_reducible repeat (first|refine blk_drewN ?_ _|refine blk_drew ?_|refine blk_alloc ?_ _));refine blk_put (cs:=#[.int .i64 1,.string (a0.extract (a1 : Int).toNat (x13_4 : Int).toNat),.int .i64 0,.int .i64 0,.bool false]) ?_ 2 _ rfl;(with_reducible repeat (first|refine blk_drewN ?_ _|refine blk_drew ?_|refine blk_alloc ?_ _));refine blk_put (cs:=#[.int .i64 1,.string (⟨#[]⟩ : ByteArray),.int .i64 0,.int .i64 0,.bool false]) ?_ 1 _ rfl;(with_reducible repeat (first|refine blk_drewN ?_ _|refine blk_drew ?_|refine blk_alloc ?_ _));refine blk_put (cs:=#[.int .i64 0,.string (⟨#[]⟩ : ByteArray),.int .i64 0,.int .i64 0,.bool false]) ?_ 0 _ rfl;(with_reducible repeat (first|refine blk_drewN ?_ _|refine blk_drew ?_|refine blk_alloc ?_ _));refine blk_far ?_ NB111_112.out _;(with_reducible repeat (first|refine blk_drewN ?_ _|refine blk_drew ?_|refine blk_alloc ?_ _));refine blk_far ?_ NB111_112.out _;(with_reducible repeat (first|refine blk_drewN ?_ _|refine blk_drew ?_|refine blk_alloc ?_ _));exact BK111.out) Try.underlying46 rfl (by kernel_rfl)) rfl ?_
                  exact ⟨by first|rfl|(simp [errW_none,errW_some] <;> rfl)|(simp [*,errW_none,errW_some] <;> rfl),by repeat (first|(with_reducible first|exact HB.out|apply below_alloc|apply pw_below_drewN|apply below_drew1|refine below_set ?_ GE111.out|refine below_set ?_ GE112.out)|exact HB.out)⟩
                 ·rw [if_neg c118] at H
                  have c118b0 : decide ((wrap64 (x13_4 - a1)) ≤ 20) = false:=decide_eq_false c118
                  clear c118
                  simp only [Option.some.injEq,Prod.mk.injEq] at H
                  obtain ⟨rfl,rfl,rfl,rfl,rfl,rfl⟩:=H
                  have hnb125:=NB112_111.out
                  have hnc125:=NB111_112.out
                  have hcz126_0 : wr.cell? ⟨gb112,0,none⟩ = some (.int .i64 6):=(blk_cell BK112.out 0).trans rfl
                  have hcz126_1 : wr.cell? ⟨gb112,1,none⟩ = some (.string (a0.extract (a1 : Int).toNat ((wrap64 (a1 + 1)) : Int).toNat)):=(blk_cell BK112.out 1).trans rfl
                  have hcz126_2 : wr.cell? ⟨gb112,2,none⟩ = some (.int .i64 0):=(blk_cell BK112.out 2).trans rfl
                  have hcz126_3 : wr.cell? ⟨gb112,3,none⟩ = some (.int .i64 a1):=(blk_cell BK112.out 3).trans rfl
                  have hcz126_4 : wr.cell? ⟨gb112,4,none⟩ = some (.bool false):=(blk_cell BK112.out 4).trans rfl
                  have hfz126_0:=blk_frozen BK112.out 0
                  have hfz126_1:=blk_frozen BK112.out 1
                  have hfz126_2:=blk_frozen BK112.out 2
                  have hfz126_3:=blk_frozen BK112.out 3
                  have hfz126_4:=blk_frozen BK112.out 4
                  have hcz127_0 : wr.cell? ⟨gb111,0,none⟩ = some (.int .i64 0):=(blk_cell BK111.out 0).trans rfl
                  have hcz127_1 : wr.cell? ⟨gb111,1,none⟩ = some (.string (⟨#[]⟩ : ByteArray)):=(blk_cell BK111.out 1).trans rfl
                  have hcz127_2 : wr.cell? ⟨gb111,2,none⟩ = some (.int .i64 0):=(blk_cell BK111.out 2).trans rfl
                  have hcz127_3 : wr.cell? ⟨gb111,3,none⟩ = some (.int .i64 0):=(blk_cell BK111.out 3).trans rfl
                  have hcz127_4 : wr.cell? ⟨gb111,4,none⟩ = some (.bool false):=(blk_cell BK111.out 4).trans rfl
                  have hfz127_0:=blk_frozen BK111.out 0
                  have hfz127_1:=blk_frozen BK111.out 1
                  have hfz127_2:=blk_frozen BK111.out 2
                  have hfz127_3:=blk_frozen BK111.out 3
                  have hfz127_4:=blk_frozen BK111.out 4
                  go_wp2
                  refine bodyPost_ret (results_ct rfl _ _ gb111 46 #[.int .i64 6,.string (a0.extract (a1 : Int).toNat ((wrap64 (a1 + 1)) : Int).toNat),.int .i64 0,.int .i64 a1,.bool false] (0,0) _ rfl (by (with_reducible repeat (first|refine blk_drewN ?_ _|refine blk_drew ?_|refine blk_alloc ?_ _));refine blk_put (cs:=#[.int .i64 6,.string (a0.extract (a1 : Int).toNat ((wrap64 (a1 + 1)) : Int).toNat),.int .i64 0,.int .i64 a1,.bool false]) ?_ 4 _ rfl;(with_reducible repeat (first|refine blk_drewN ?_ _|refine blk_drew ?_|refine blk_alloc ?_ _));refine blk_put (cs:=#[.int .i64 6,.string (a0.extract (a1 : Int).toNat ((wrap64 (a1 + 1)) : Int).toNat),.int .i64 0,.int .i64 0,.bool false]) ?_ 3 _ rfl;(with_reducible repeat (first|refine blk_drewN ?_ _|refine blk_drew ?_|refine blk_alloc ?_ _));refine blk_put (cs:=#[.int .i64 6,.string (a0.extract (a1 : Int).toNat ((wrap64 (a1 + 1)) : Int).toNat),.int .i64 0,.int .i64 0,.bool false]) ?_ 2 _ rfl;(with_reducible repeat (first|refine blk_drewN ?_ _|refine blk_drew ?_|refine blk_alloc ?_ _));refine blk_put (cs:=#[.int .i64 6,.string (⟨#[]⟩ : ByteArray),.int .i64 0,.int .i64 0,.bool false]) ?_ 1 _ rfl;(with_reducible repeat (first|refine blk_drewN ?_ _|refine blk_drew ?_|refine blk_alloc ?_ _));refine blk_put (cs:=#[.int .i64 0,.string (⟨#[]⟩ : ByteArray),.int .i64 0,.int .i64 0,.bool false]) ?_ 0 _ rfl;(with_reducible repeat (first|refine blk_drewN ?_ _|refine blk_drew ?_|refine blk_alloc ?_ _));exact BK111.out) Try.underlying46 rfl (by kernel_rfl)) rfl ?_
                  exact ⟨by first|rfl|(simp [errW_none,errW_some] <;> rfl)|(simp [*,errW_none,errW_some] <;> rfl),by repeat (first|(with_reducible first|exact HB.out|apply below_alloc|apply pw_below_drewN|apply below_drew1|refine below_set ?_ GE111.out|refine below_set ?_ GE112.out)|exact HB.out)⟩
             ·replace c97:=Bool.eq_false_iff.mpr c97
              subst c97
              have H1 : (some (6,(a0.extract (a1 : Int).toNat ((wrap64 (a1 + 1)) : Int).toNat),0,a1,false,(wrap64 (a1 + 1)))) = some (r1,r2,r3,r4,r5,r6):=by rw [if_neg (show ¬ (false = true) by decide)] at H;exact H
              clear H
              have H:=H1
              clear H1
              simp only [Option.some.injEq,Prod.mk.injEq] at H
              obtain ⟨rfl,rfl,rfl,rfl,rfl,rfl⟩:=H
              go_wp2_with (first|((with_reducible refine gate_callee (f:=69) rfl ?_);refine goesL_ (some 136) rfl rfl Try.func69 (by kernel_rfl) rfl #[.string a0,.int .i64 a1] rfl (by (try simp only [List.map_toArray,List.map_cons,List.map_nil]);first|done|rfl|(simp only [List.length_drop,List.length_take];rfl)) ?_;(with_reducible refine (spec_l05End.calls kj79 a0 a1 false _ A90.out).mono ?_);rintro e w128 ⟨rfl,hb⟩;refine ⟨_,rfl,?_⟩;have n0_:=Aside0.mk (blk_below (g:=gb111) (o:=.cells #[.int .i64 0,.string (⟨#[]⟩ : ByteArray),.int .i64 0,.int .i64 0,.bool false] 46 (0,0)) (by (with_reducible repeat (first|refine blk_drewN ?_ _|refine blk_drew ?_|refine blk_alloc ?_ _));exact BK111.out) hb);have n1_:=Aside0.mk (blk_below (g:=gb112) (o:=.cells #[.int .i64 6,.string (a0.extract (a1 : Int).toNat ((wrap64 (a1 + 1)) : Int).toNat),.int .i64 0,.int .i64 a1,.bool false] 46 (0,0)) (by (with_reducible repeat (first|refine blk_drewN ?_ _|refine blk_drew ?_|refine blk_alloc ?_ _));exact BK112.out) hb);have n2_:=Aside0.mk (below_step (by repeat (first|(with_reducible first|exact HB.out|apply below_alloc|apply pw_below_drewN|apply below_drew1|refine below_set ?_ GE111.out|refine below_set ?_ GE112.out)|exact HB.out)) hb);clear BK111;clear BK112;clear HB;have BK111:=n0_;have BK112:=n1_;have HB:=n2_;clear n0_ n1_ n2_;(try clear hb))|((with_reducible refine gate_callee (f:=13) rfl ?_);refine goesL_ (some 140) rfl rfl Try.func13 (by kernel_rfl) rfl #[.int .u8 (bt a0 a1)] rfl (by (try simp only [List.map_toArray,List.map_cons,List.map_nil]);first|done|rfl|(simp only [List.length_drop,List.length_take];rfl)) ?_;(with_reducible refine (fk_spec_SymbolByte.calls kj79 (bt a0 a1) false _ A96.out).mono ?_);rintro e w129 ⟨rfl,hb⟩;refine ⟨_,rfl,?_⟩;have n0_:=Aside0.mk (blk_below (g:=gb111) (o:=.cells #[.int .i64 0,.string (⟨#[]⟩ : ByteArray),.int .i64 0,.int .i64 0,.bool false] 46 (0,0)) (by (with_reducible repeat (first|refine blk_drewN ?_ _|refine blk_drew ?_|refine blk_alloc ?_ _));exact BK111.out) hb);have n1_:=Aside0.mk (blk_below (g:=gb112) (o:=.cells #[.int .i64 6,.string (a0.extract (a1 : Int).toNat ((wrap64 (a1 + 1)) : Int).toNat),.int .i64 0,.int .i64 a1,.bool false] 46 (0,0)) (by (with_reducible repeat (first|refine blk_drewN ?_ _|refine blk_drew ?_|refine blk_alloc ?_ _));exact BK112.out) hb);have n2_:=Aside0.mk (below_step (by repeat (first|(with_reducible first|exact HB.out|apply below_alloc|apply pw_below_drewN|apply below_drew1|refine below_set ?_ GE111.out|refine below_set ?_ GE112.out)|exact HB.out)) hb);clear BK111;clear BK112;clear HB;have BK111:=n0_;have BK112:=n1_;have HB:=n2_;clear n0_ n1_ n2_;(try clear hb);(try clear hb2);(try clear hk);(try clear hi);have hnb130:=NB112_111.out;have hnc130:=NB111_112.out;have hcz131_0 : w129.cell? ⟨gb112,0,none⟩ = some (.int .i64 6):=(blk_cell BK112.out 0).trans rfl;have hcz131_1 : w129.cell? ⟨gb112,1,none⟩ = some (.string (a0.extract (a1 : Int).toNat ((wrap64 (a1 + 1)) : Int).toNat)):=(blk_cell BK112.out 1).trans rfl;have hcz131_2 : w129.cell? ⟨gb112,2,none⟩ = some (.int .i64 0):=(blk_cell BK112.out 2).trans rfl;have hcz131_3 : w129.cell? ⟨gb112,3,none⟩ = some (.int .i64 a1):=(blk_cell BK112.out 3).trans rfl;have hcz131_4 : w129.cell? ⟨gb112,4,none⟩ = some (.bool false):=(blk_cell BK112.out 4).trans rfl;have hfz131_0:=blk_frozen BK112.out 0;have hfz131_1:=blk_frozen BK112.out 1;have hfz131_2:=blk_frozen BK112.out 2;have hfz131_3:=blk_frozen BK112.out 3;have hfz131_4:=blk_frozen BK112.out 4;have hcz132_0 : w129.cell? ⟨gb111,0,none⟩ = some (.int .i64 0):=(blk_cell BK111.out 0).trans rfl;have hcz132_1 : w129.cell? ⟨gb111,1,none⟩ = some (.string (⟨#[]⟩ : ByteArray)):=(blk_cell BK111.out 1).trans rfl;have hcz132_2 : w129.cell? ⟨gb111,2,none⟩ = some (.int .i64 0):=(blk_cell BK111.out 2).trans rfl;have hcz132_3 : w129.cell? ⟨gb111,3,none⟩ = some (.int .i64 0):=(blk_cell BK111.out 3).trans rfl;have hcz132_4 : w129.cell? ⟨gb111,4,none⟩ = some (.bool false):=(blk_cell BK111.out 4).trans rfl;have hfz132_0:=blk_frozen BK111.out 0;have hfz132_1:=blk_frozen BK111.out 1;have hfz132_2:=blk_frozen BK111.out 2;have hfz132_3:=blk_frozen BK111.out 3;have hfz132_4:=blk_frozen BK111.out 4))
              refine bodyPost_ret (results_ct rfl _ _ gb111 46 #[.int .i64 6,.string (a0.extract (a1 : Int).toNat ((wrap64 (a1 + 1)) : Int).toNat),.int .i64 0,.int .i64 a1,.bool false] (0,0) _ rfl (by (with_reducible repeat (first|refine blk_drewN ?_ _|refine blk_drew ?_|refine blk_alloc ?_ _));refine blk_put (cs:=#[.int .i64 6,.string (a0.extract (a1 : Int).toNat ((wrap64 (a1 + 1)) : Int).toNat),.int .i64 0,.int .i64 a1,.bool false]) ?_ 4 _ rfl;(with_reducible repeat (first|refine blk_drewN ?_ _|refine blk_drew ?_|refine blk_alloc ?_ _));refine blk_put (cs:=#[.int .i64 6,.string (a0.extract (a1 : Int).toNat ((wrap64 (a1 + 1)) : Int).toNat),.int .i64 0,.int .i64 0,.bool false]) ?_ 3 _ rfl;(with_reducible repeat (first|refine blk_drewN ?_ _|refine blk_drew ?_|refine blk_alloc ?_ _));refine blk_put (cs:=#[.int .i64 6,.string (a0.extract (a1 : Int).toNat ((wrap64 (a1 + 1)) : Int).toNat),.int .i64 0,.int .i64 0,.bool false]) ?_ 2 _ rfl;(with_reducible repeat (first|refine blk_drewN ?_ _|refine blk_drew ?_|refine blk_alloc ?_ _));refine blk_put (cs:=#[.int .i64 6,.string (⟨#[]⟩ : ByteArray),.int .i64 0,.int .i64 0,.bool false]) ?_ 1 _ rfl;(with_reducible repeat (first|refine blk_drewN ?_ _|refine blk_drew ?_|refine blk_alloc ?_ _));refine blk_put (cs:=#[.int .i64 0,.string (⟨#[]⟩ : ByteArray),.int .i64 0,.int .i64 0,.bool false]) ?_ 0 _ rfl;(with_reducible repeat (first|refine blk_drewN ?_ _|refine blk_drew ?_|refine blk_alloc ?_ _));exact BK111.out) Try.underlying46 rfl (by kernel_rfl)) rfl ?_
              exact ⟨by first|rfl|(simp [errW_none,errW_some] <;> rfl)|(simp [*,errW_none,errW_some] <;> rfl),by repeat (first|(with_reducible first|exact HB.out|apply below_alloc|apply pw_below_drewN|apply below_drew1|refine below_set ?_ GE111.out|refine below_set ?_ GE112.out)|exact HB.out)⟩

end Go.Proofs.Ytbkibnjpolnajaa.KSn
