/- Contracts of functions of the program and of the reference, each a Lean function and the proof that Go comes to its answer. Written by wip/pp/pp.py out of the kit's print, for this claim; nothing of it is trusted: Lean checks it. -/
import Derived.Test.YtbkibnjpolnajaaKSnx0
import Derived.Test.YtbkibnjpolnajaaKSnx1
import Derived.Test.YtbkibnjpolnajaaKSnx2
import Derived.Test.YtbkibnjpolnajaaKSnx5
import Derived.Test.YtbkibnjpolnajaaKSnx7
namespace Go.Proofs.Ytbkibnjpolnajaa.KSn
open Go.RowKit Go.Proofs.YtbkibnjpolnajaaW.PrintWords Go.Proofs.YtbkibnjpolnajaaW.PrintLast Go.Proofs.YtbkibnjpolnajaaW.PrintMore
attribute [local go_sem] max2_int min2_int max_two min_two max_three min_three max_four min_four   -- for this text's walks alone
set_option linter.unusedVariables false
set_option linter.unusedSimpArgs false

attribute [local go_sem high] eqA46
set_option linter.unusedSectionVars false
variable [fk_impl_run] [fk_strings_IndexByte] [fk_spec_SymbolByte]
/-! ### spec_DrawSignsOf: function 38 -/
def spec_DrawSignsOf.l0 : Nat → Int → ByteArray → Int → List Int → Int → Int → Option (ByteArray)
 | 0,_,_,_,_,_,_ => none
 | k + 1,x4,x5,x6,x205000,x205001,x205002 => (spec_l01Below.f x205000 x205001 x205002 10).bind fun bt208 => (if x6 < bt208.1 then ((spec_l01Pick.f x205000 bt208.2.1 bt208.2.2 (([(⟨#[97]⟩ : ByteArray),(⟨#[66,99]⟩ : ByteArray),(⟨#[95]⟩ : ByteArray),(⟨#[49,50]⟩ : ByteArray),(⟨#[39,120,45,121,39]⟩ : ByteArray),(⟨#[58,45]⟩ : ByteArray),(⟨#[61,46,46]⟩ : ByteArray),(⟨#[46]⟩ : ByteArray),(⟨#[46,32]⟩ : ByteArray),(⟨#[40]⟩ : ByteArray),(⟨#[41]⟩ : ByteArray),(⟨#[91]⟩ : ByteArray),(⟨#[93]⟩ : ByteArray),(⟨#[44]⟩ : ByteArray),(⟨#[124]⟩ : ByteArray),(⟨#[33]⟩ : ByteArray),(⟨#[59]⟩ : ByteArray),(⟨#[32]⟩ : ByteArray),(⟨#[10]⟩ : ByteArray),(⟨#[37,32,115,97,105,100,10]⟩ : ByteArray),(⟨#[7]⟩ : ByteArray),(⟨#[39,97]⟩ : ByteArray),(⟨#[49,48,48,48,48,48,48,48,48,48]⟩ : ByteArray),(⟨#[102,40]⟩ : ByteArray)] : List ByteArray))).bind fun bt214 => (if x5.size + bt214.1.size ≤ 9223372036854775807 then (spec_DrawSignsOf.l0 k x4 (x5 ++ bt214.1) (wrap64 (x6 + 1)) x205000 bt214.2.1 bt214.2.2) else (none))) else (if x4 = 0 then ((spec_l01Long.f k 21 97).bind fun t217 => (if x5.size + t217.size ≤ 9223372036854775807 then (some (x5 ++ t217)) else (none))) else (if x4 = 1 then ((spec_l01Long.f k 21 43).bind fun t218 => (if x5.size + t218.size ≤ 9223372036854775807 then (some (x5 ++ t218)) else (none))) else (if x4 = 2 then ((spec_l01Below.f x205000 bt208.2.1 bt208.2.2 2).bind fun bt219 => ((spec_l01Long.f k (wrap64 (3000 + bt219.1)) 32).bind fun t222 => (some t222))) else (some x5)))))
def spec_DrawSignsOf.f (k : Nat) (l0 : List Int) : Option (ByteArray):=(spec_l01New.f k l0).bind fun bt201 => ((spec_l01Below.f bt201.1 bt201.2.1 bt201.2.2 6).bind fun bt205 => (spec_DrawSignsOf.l0 k bt205.1 (⟨#[]⟩ : ByteArray) 0 bt201.1 bt205.2.1 bt205.2.2))
theorem spec_DrawSignsOf.mono_l : ∀ k,(∀ y0 y1 y2 y3 y4 y5,LeO (spec_DrawSignsOf.l0 k y0 y1 y2 y3 y4 y5) (spec_DrawSignsOf.l0 (k + 1) y0 y1 y2 y3 y4 y5))
 | 0 => fun _ _ _ _ _ _ r h => by simp [spec_DrawSignsOf.l0] at h
 | k + 1 => by
  have ih0:=spec_DrawSignsOf.mono_l k
  ·intro y0 y1 y2 y3 y4 y5
   unfold spec_DrawSignsOf.l0
   repeat' first
   | (with_reducible exact ih0 _ _ _ _ _ _)
   | (with_reducible exact spec_l01Long.mono _ _ _)
   | (with_reducible exact spec_l01New.mono _ _)
   | (with_reducible exact LeO.refl _)
   | (with_reducible exact LeO.none _)
   | (with_reducible refine LeO.ite ?_ ?_)
   | (with_reducible refine LeO.bind ?_ (fun _ => ?_))
   | exact ih0 _ _ _ _ _ _
   | exact spec_l01Long.mono _ _ _
   | exact spec_l01New.mono _ _
   | exact LeO.none _
   | refine LeO.ite ?_ ?_
   | refine LeO.bind ?_ (fun _ => ?_)
theorem spec_DrawSignsOf.mono : ∀ a0 k,LeO (spec_DrawSignsOf.f k a0) (spec_DrawSignsOf.f (k + 1) a0):=by
 intro a0 k
 have ih0:=spec_DrawSignsOf.mono_l k
 unfold spec_DrawSignsOf.f
 repeat' first
   | (with_reducible exact ih0 _ _ _ _ _ _)
   | (with_reducible exact spec_l01Long.mono _ _ _)
   | (with_reducible exact spec_l01New.mono _ _)
   | (with_reducible exact LeO.refl _)
   | (with_reducible exact LeO.none _)
   | (with_reducible refine LeO.ite ?_ ?_)
   | (with_reducible refine LeO.bind ?_ (fun _ => ?_))
   | exact ih0 _ _ _ _ _ _
   | exact spec_l01Long.mono _ _ _
   | exact spec_l01New.mono _ _
   | exact LeO.none _
   | refine LeO.ite ?_ ?_
   | refine LeO.bind ?_ (fun _ => ?_)
set_option maxHeartbeats 8000000 in
set_option maxRecDepth 100000 in
theorem spec_DrawSignsOf.calls (k : Nat) (A0 : Option Addr) (c0 : Nat) (l0 : List Int) (r : ByteArray) (w : World) (hr0 : Kd.C (Kd.int .u8) w A0 l0.length l0) (hc0 : l0.length ≤ c0) (h : spec_DrawSignsOf.f k l0 = some r) :
  Calls Try.prog 38 #[.slice A0 l0.length c0] w fun e w' => e = .returned (.string r) ∧ Below w.heap.size w w':=by
 have HR0:=Aside0.mk hr0
 have HC0:=Aside0.mk hc0
 clear hr0 hc0
 have HB:=Aside0.mk (Below.refl w.heap.size w)
 have H : ((spec_l01New.f k l0).bind fun bt201 => ((spec_l01Below.f bt201.1 bt201.2.1 bt201.2.2 6).bind fun bt205 => (spec_DrawSignsOf.l0 k bt205.1 (⟨#[]⟩ : ByteArray) 0 bt201.1 bt205.2.1 bt205.2.2))) = some r:=h
 clear h
 replace H:=Option.bind_eq_some_iff.mp H
 obtain ⟨⟨t201,t202,t203⟩,A20,H⟩:=H
 replace H : ((spec_l01Below.f t201 t202 t203 6).bind fun bt205 => (spec_DrawSignsOf.l0 k bt205.1 (⟨#[]⟩ : ByteArray) 0 t201 bt205.2.1 bt205.2.2)) = some r:=H
 have A2:=Aside0.mk A20
 clear A20
 replace H:=Option.bind_eq_some_iff.mp H
 obtain ⟨⟨t205,t206,t207⟩,A30,H⟩:=H
 replace H : (spec_DrawSignsOf.l0 k t205 (⟨#[]⟩ : ByteArray) 0 t201 t206 t207) = some r:=H
 have A3:=Aside0.mk A30
 clear A30
 have H':=Aside0.mk H
 clear H
 go_enter Try.func38,Try.ntmps38
 go_wp2_with (first|((with_reducible refine gate_callee (f:=49) rfl ?_);refine goesL_ (some 8) rfl rfl Try.func49 (by kernel_rfl) rfl #[.slice A0 l0.length c0] rfl (by (try simp only [List.map_toArray,List.map_cons,List.map_nil]);first|done|rfl|(simp only [List.length_drop,List.length_take];rfl)) ?_;(with_reducible refine (spec_l01New.calls k _ _ l0 t201 t202 t203 w _ ?side1 ?side2 ?side3 A2.out).mono ?_);(case side1 => repeat (first|(with_reducible first|exact HB.out|apply below_alloc|apply pw_below_drewN|apply below_drew1)|exact HB.out));(case side2 => exact HR0.out);(case side3 => exact HC0.out);rintro e w4 ⟨g204,rfl,hi,hb,hb2⟩;refine ⟨_,rfl,?_⟩;have n0_:=Aside0.mk (hb);have n1_:=Aside0.mk (hi);clear HB;have HB:=n0_;have HI204:=n1_;clear n0_ n1_;(try clear hb))|((with_reducible refine gate_callee (f:=51) rfl ?_);refine goesL_ (some 10) rfl rfl Try.func51 (by kernel_rfl) rfl #[.pointer (some ⟨g204,0,none⟩),.int .i64 6] rfl (by (try simp only [List.map_toArray,List.map_cons,List.map_nil]);first|done|rfl|(simp only [List.length_drop,List.length_take];rfl)) ?_;(with_reducible refine (spec_l01Below.calls g204 t201 t202 t203 6 t205 t206 t207 w _ ?side1 ?side2 A3.out).mono ?_);(case side1 => repeat (first|(with_reducible first|exact HI204.out|apply IsS69.alloc|apply IsS69.drewN|apply IsS69.drew|apply IsS69.set_1|apply IsS69.set_2)|exact HI204.out));(case side2 => repeat (first|(with_reducible first|exact HB.out|apply below_alloc|apply pw_below_drewN|apply below_drew1|refine below_set ?_ (IsS69.ge HI204.out))|exact HB.out));rintro e w5 ⟨rfl,hi,hb,hk⟩;refine ⟨_,rfl,?_⟩;have n0_:=Aside0.mk (hb);have n1_:=Aside0.mk (hi);clear HB;clear HI204;have HB:=n0_;have HI204:=n1_;clear n0_ n1_;(try clear hb)))
 go_loopg [5,6] k (fun kq v5 v6 w' => ∃ (x5_1 : ByteArray) (x6_1 : Int) (x205001_1 : Int) (x205002_1 : Int),v5 = .string x5_1 ∧ v6 = .int .i64 x6_1 ∧ Aside0 (spec_DrawSignsOf.l0 kq t205 x5_1 x6_1 t201 x205001_1 x205002_1 = some r) ∧ Aside0 (kq ≤ k) ∧ Aside0 (IsS69 w w' g204 t201 x205001_1 x205002_1) ∧ Aside0 (Below w.heap.size w w'))
 case atStart => exact ⟨((⟨#[]⟩ : ByteArray)),(0),(t206),(t207),(by first|rfl|(simp;done)|(simp [*];done)),(by first|rfl|(simp;done)|(simp [*];done)),H',⟨Nat.le_refl _⟩,⟨by repeat (first|(with_reducible first|exact HI204.out|apply IsS69.alloc|apply IsS69.drewN|apply IsS69.drew|apply IsS69.set_1|apply IsS69.set_2)|exact HI204.out)⟩,⟨by repeat (first|(with_reducible first|exact HB.out|apply below_alloc|apply pw_below_drewN|apply below_drew1|refine below_set ?_ (IsS69.ge HI204.out))|exact HB.out)⟩⟩
 case round =>
  clear H'
  obtain ⟨x5_1,x6_1,x205001_1,x205002_1,rfl,rfl,HA,HK1,HI204,HB⟩:=hrel
  cases gk with
  | zero => exact absurd HA.out (by simp [spec_DrawSignsOf.l0])
  | succ k1 =>
   have H:=HA.out
   clear HA
   simp only [spec_DrawSignsOf.l0] at H
   replace H:=Option.bind_eq_some_iff.mp H
   obtain ⟨⟨t208,t209,t210⟩,A60,H⟩:=H
   replace H : (if x6_1 < t208 then ((spec_l01Pick.f t201 t209 t210 (([(⟨#[97]⟩ : ByteArray),(⟨#[66,99]⟩ : ByteArray),(⟨#[95]⟩ : ByteArray),(⟨#[49,50]⟩ : ByteArray),(⟨#[39,120,45,121,39]⟩ : ByteArray),(⟨#[58,45]⟩ : ByteArray),(⟨#[61,46,46]⟩ : ByteArray),(⟨#[46]⟩ : ByteArray),(⟨#[46,32]⟩ : ByteArray),(⟨#[40]⟩ : ByteArray),(⟨#[41]⟩ : ByteArray),(⟨#[91]⟩ : ByteArray),(⟨#[93]⟩ : ByteArray),(⟨#[44]⟩ : ByteArray),(⟨#[124]⟩ : ByteArray),(⟨#[33]⟩ : ByteArray),(⟨#[59]⟩ : ByteArray),(⟨#[32]⟩ : ByteArray),(⟨#[10]⟩ : ByteArray),(⟨#[37,32,115,97,105,100,10]⟩ : ByteArray),(⟨#[7]⟩ : ByteArray),(⟨#[39,97]⟩ : ByteArray),(⟨#[49,48,48,48,48,48,48,48,48,48]⟩ : ByteArray),(⟨#[102,40]⟩ : ByteArray)] : List ByteArray))).bind fun bt214 => (if x5_1.size + bt214.1.size ≤ 9223372036854775807 then (spec_DrawSignsOf.l0 k1 t205 (x5_1 ++ bt214.1) (wrap64 (x6_1 + 1)) t201 bt214.2.1 bt214.2.2) else (none))) else (if t205 = 0 then ((spec_l01Long.f k1 21 97).bind fun t217 => (if x5_1.size + t217.size ≤ 9223372036854775807 then (some (x5_1 ++ t217)) else (none))) else (if t205 = 1 then ((spec_l01Long.f k1 21 43).bind fun t218 => (if x5_1.size + t218.size ≤ 9223372036854775807 then (some (x5_1 ++ t218)) else (none))) else (if t205 = 2 then ((spec_l01Below.f t201 t209 t210 2).bind fun bt219 => ((spec_l01Long.f k1 (wrap64 (3000 + bt219.1)) 32).bind fun t222 => (some t222))) else (some x5_1))))) = some r:=H
   have A6:=Aside0.mk A60
   clear A60
   by_cases c7 : x6_1 < t208
   ·rw [if_pos c7] at H
    have c7b0 : decide (x6_1 < t208) = true:=decide_eq_true c7
    clear c7
    obtain ⟨y211,hy211⟩ : ∃ y_ : List ByteArray,y_ = (([(⟨#[97]⟩ : ByteArray),(⟨#[66,99]⟩ : ByteArray),(⟨#[95]⟩ : ByteArray),(⟨#[49,50]⟩ : ByteArray),(⟨#[39,120,45,121,39]⟩ : ByteArray),(⟨#[58,45]⟩ : ByteArray),(⟨#[61,46,46]⟩ : ByteArray),(⟨#[46]⟩ : ByteArray),(⟨#[46,32]⟩ : ByteArray),(⟨#[40]⟩ : ByteArray),(⟨#[41]⟩ : ByteArray),(⟨#[91]⟩ : ByteArray),(⟨#[93]⟩ : ByteArray),(⟨#[44]⟩ : ByteArray),(⟨#[124]⟩ : ByteArray),(⟨#[33]⟩ : ByteArray),(⟨#[59]⟩ : ByteArray),(⟨#[32]⟩ : ByteArray),(⟨#[10]⟩ : ByteArray),(⟨#[37,32,115,97,105,100,10]⟩ : ByteArray),(⟨#[7]⟩ : ByteArray),(⟨#[39,97]⟩ : ByteArray),(⟨#[49,48,48,48,48,48,48,48,48,48]⟩ : ByteArray),(⟨#[102,40]⟩ : ByteArray)] : List ByteArray)):=⟨_,rfl⟩
    replace H : ((spec_l01Pick.f t201 t209 t210 y211).bind fun bt214 => (if x5_1.size + bt214.1.size ≤ 9223372036854775807 then (spec_DrawSignsOf.l0 k1 t205 (x5_1 ++ bt214.1) (wrap64 (x6_1 + 1)) t201 bt214.2.1 bt214.2.2) else (none))) = some r:=by first|(rw [hy211];with_reducible exact H)|(have H2_:=(Option.bind_some _ _).symm.trans H;rw [hy211];with_reducible exact H2_)|(have H2_:=(Option.bind_some _ _).symm.trans H;with_reducible exact H2_)|with_reducible exact H|(rw [hy211];exact H)|exact H
    have Ny211:=Aside0.mk hy211
    clear hy211
    replace H:=Option.bind_eq_some_iff.mp H
    obtain ⟨⟨t214,t215,t216⟩,A80,H⟩:=H
    replace H : (if x5_1.size + t214.size ≤ 9223372036854775807 then (spec_DrawSignsOf.l0 k1 t205 (x5_1 ++ t214) (wrap64 (x6_1 + 1)) t201 t215 t216) else (none)) = some r:=H
    have A8:=Aside0.mk A80
    clear A80
    by_cases c9 : x5_1.size + t214.size ≤ 9223372036854775807
    rotate_left
    ·rw [if_neg c9] at H
     exact absurd H (by simp)
    rw [if_pos c9] at H
    have c9b0:=eq_true c9
    have c9b1 : decide (x5_1.size + t214.size ≤ 9223372036854775807) = true:=decide_eq_true c9
    try have c9b2 : (9223372036854775807 < x5_1.size + t214.size) = False:=eq_false (Nat.not_lt.2 c9)
    have H':=Aside0.mk H
    clear H
    go_wp2_with (first|((with_reducible refine gate_callee (f:=51) rfl ?_);refine goesL_ (some 13) rfl rfl Try.func51 (by kernel_rfl) rfl #[.pointer (some ⟨g204,0,none⟩),.int .i64 10] rfl (by (try simp only [List.map_toArray,List.map_cons,List.map_nil]);first|done|rfl|(simp only [List.length_drop,List.length_take];rfl)) ?_;(with_reducible refine (spec_l01Below.calls g204 t201 x205001_1 x205002_1 10 t208 t209 t210 w _ ?side1 ?side2 A6.out).mono ?_);(case side1 => repeat (first|(with_reducible first|exact HI204.out|apply IsS69.alloc|apply IsS69.drewN|apply IsS69.drew|apply IsS69.set_1|apply IsS69.set_2)|exact HI204.out));(case side2 => repeat (first|(with_reducible first|exact HB.out|apply below_alloc|apply pw_below_drewN|apply below_drew1|refine below_set ?_ (IsS69.ge HI204.out))|exact HB.out));rintro e w10 ⟨rfl,hi,hb,hk⟩;refine ⟨_,rfl,?_⟩;have n0_:=Aside0.mk (hb);have n1_:=Aside0.mk (hi);clear HB;clear HI204;have HB:=n0_;have HI204:=n1_;clear n0_ n1_;(try clear hb))|((with_reducible refine gate_dst (N:=19) rfl ?_);refine Kd.R_lit Kd.string _ 9 ?hg (N:=19) ?hd (xs:=([(⟨#[97]⟩ : ByteArray),(⟨#[66,99]⟩ : ByteArray),(⟨#[95]⟩ : ByteArray),(⟨#[49,50]⟩ : ByteArray),(⟨#[39,120,45,121,39]⟩ : ByteArray),(⟨#[58,45]⟩ : ByteArray),(⟨#[61,46,46]⟩ : ByteArray),(⟨#[46]⟩ : ByteArray),(⟨#[46,32]⟩ : ByteArray),(⟨#[40]⟩ : ByteArray),(⟨#[41]⟩ : ByteArray),(⟨#[91]⟩ : ByteArray),(⟨#[93]⟩ : ByteArray),(⟨#[44]⟩ : ByteArray),(⟨#[124]⟩ : ByteArray),(⟨#[33]⟩ : ByteArray),(⟨#[59]⟩ : ByteArray),(⟨#[32]⟩ : ByteArray),(⟨#[10]⟩ : ByteArray),(⟨#[37,32,115,97,105,100,10]⟩ : ByteArray),(⟨#[7]⟩ : ByteArray),(⟨#[39,97]⟩ : ByteArray),(⟨#[49,48,48,48,48,48,48,48,48,48]⟩ : ByteArray),(⟨#[102,40]⟩ : ByteArray)] : List ByteArray)) (inner:=[.string (⟨#[97]⟩ : ByteArray),.string (⟨#[66,99]⟩ : ByteArray),.string (⟨#[95]⟩ : ByteArray),.string (⟨#[49,50]⟩ : ByteArray),.string (⟨#[39,120,45,121,39]⟩ : ByteArray),.string (⟨#[58,45]⟩ : ByteArray),.string (⟨#[61,46,46]⟩ : ByteArray),.string (⟨#[46]⟩ : ByteArray),.string (⟨#[46,32]⟩ : ByteArray),.string (⟨#[40]⟩ : ByteArray),.string (⟨#[41]⟩ : ByteArray),.string (⟨#[91]⟩ : ByteArray),.string (⟨#[93]⟩ : ByteArray),.string (⟨#[44]⟩ : ByteArray),.string (⟨#[124]⟩ : ByteArray),.string (⟨#[33]⟩ : ByteArray),.string (⟨#[59]⟩ : ByteArray),.string (⟨#[32]⟩ : ByteArray),.string (⟨#[10]⟩ : ByteArray),.string (⟨#[37,32,115,97,105,100,10]⟩ : ByteArray),.string (⟨#[7]⟩ : ByteArray),.string (⟨#[39,97]⟩ : ByteArray),.string (⟨#[49,48,48,48,48,48,48,48,48,48]⟩ : ByteArray),.string (⟨#[102,40]⟩ : ByteArray)]) (ok:=fun _ => True) (okp:=fun _ => True) ?hr ?hp (fun _ hk => hk) trivial (Below.refl _ _) (Nat.le_refl _) (by simp) ?_;(case hd => rfl);(case hg => rfl);(case hr => first|(go_simp;done)|(go_simp;rfl));(case hp => exact (Reps.one (show Kd.M Kd.string _ _ _ (⟨#[97]⟩ : ByteArray) [.string (⟨#[97]⟩ : ByteArray)] from rfl) (Reps.one (show Kd.M Kd.string _ _ _ (⟨#[66,99]⟩ : ByteArray) [.string (⟨#[66,99]⟩ : ByteArray)] from rfl) (Reps.one (show Kd.M Kd.string _ _ _ (⟨#[95]⟩ : ByteArray) [.string (⟨#[95]⟩ : ByteArray)] from rfl) (Reps.one (show Kd.M Kd.string _ _ _ (⟨#[49,50]⟩ : ByteArray) [.string (⟨#[49,50]⟩ : ByteArray)] from rfl) (Reps.one (show Kd.M Kd.string _ _ _ (⟨#[39,120,45,121,39]⟩ : ByteArray) [.string (⟨#[39,120,45,121,39]⟩ : ByteArray)] from rfl) (Reps.one (show Kd.M Kd.string _ _ _ (⟨#[58,45]⟩ : ByteArray) [.string (⟨#[58,45]⟩ : ByteArray)] from rfl) (Reps.one (show Kd.M Kd.string _ _ _ (⟨#[61,46,46]⟩ : ByteArray) [.string (⟨#[61,46,46]⟩ : ByteArray)] from rfl) (Reps.one (show Kd.M Kd.string _ _ _ (⟨#[46]⟩ : ByteArray) [.string (⟨#[46]⟩ : ByteArray)] from rfl) (Reps.one (show Kd.M Kd.string _ _ _ (⟨#[46,32]⟩ : ByteArray) [.string (⟨#[46,32]⟩ : ByteArray)] from rfl) (Reps.one (show Kd.M Kd.string _ _ _ (⟨#[40]⟩ : ByteArray) [.string (⟨#[40]⟩ : ByteArray)] from rfl) (Reps.one (show Kd.M Kd.string _ _ _ (⟨#[41]⟩ : ByteArray) [.string (⟨#[41]⟩ : ByteArray)] from rfl) (Reps.one (show Kd.M Kd.string _ _ _ (⟨#[91]⟩ : ByteArray) [.string (⟨#[91]⟩ : ByteArray)] from rfl) (Reps.one (show Kd.M Kd.string _ _ _ (⟨#[93]⟩ : ByteArray) [.string (⟨#[93]⟩ : ByteArray)] from rfl) (Reps.one (show Kd.M Kd.string _ _ _ (⟨#[44]⟩ : ByteArray) [.string (⟨#[44]⟩ : ByteArray)] from rfl) (Reps.one (show Kd.M Kd.string _ _ _ (⟨#[124]⟩ : ByteArray) [.string (⟨#[124]⟩ : ByteArray)] from rfl) (Reps.one (show Kd.M Kd.string _ _ _ (⟨#[33]⟩ : ByteArray) [.string (⟨#[33]⟩ : ByteArray)] from rfl) (Reps.one (show Kd.M Kd.string _ _ _ (⟨#[59]⟩ : ByteArray) [.string (⟨#[59]⟩ : ByteArray)] from rfl) (Reps.one (show Kd.M Kd.string _ _ _ (⟨#[32]⟩ : ByteArray) [.string (⟨#[32]⟩ : ByteArray)] from rfl) (Reps.one (show Kd.M Kd.string _ _ _ (⟨#[10]⟩ : ByteArray) [.string (⟨#[10]⟩ : ByteArray)] from rfl) (Reps.one (show Kd.M Kd.string _ _ _ (⟨#[37,32,115,97,105,100,10]⟩ : ByteArray) [.string (⟨#[37,32,115,97,105,100,10]⟩ : ByteArray)] from rfl) (Reps.one (show Kd.M Kd.string _ _ _ (⟨#[7]⟩ : ByteArray) [.string (⟨#[7]⟩ : ByteArray)] from rfl) (Reps.one (show Kd.M Kd.string _ _ _ (⟨#[39,97]⟩ : ByteArray) [.string (⟨#[39,97]⟩ : ByteArray)] from rfl) (Reps.one (show Kd.M Kd.string _ _ _ (⟨#[49,48,48,48,48,48,48,48,48,48]⟩ : ByteArray) [.string (⟨#[49,48,48,48,48,48,48,48,48,48]⟩ : ByteArray)] from rfl) (Reps.one (show Kd.M Kd.string _ _ _ (⟨#[102,40]⟩ : ByteArray) [.string (⟨#[102,40]⟩ : ByteArray)] from rfl) (Reps.none _ _))))))))))))))))))))))))));intro v212 w11 ho12 hb hg_ hnew_;clear hg_ hnew_;(first|rw [← Ny211.out] at ho12|(simp only [Int.reduceToNat] at ho12;rw [← Ny211.out] at ho12));have n0_:=Aside0.mk (Kd.R_lower ho12 (below_size (by repeat (first|(with_reducible first|exact HB.out|apply below_alloc|apply pw_below_drewN|apply below_drew1|refine below_set ?_ (IsS69.ge HI204.out))|exact HB.out))));have n1_:=Aside0.mk (IsS69.below (by repeat (first|(with_reducible first|exact HI204.out|apply IsS69.alloc|apply IsS69.drewN|apply IsS69.drew|apply IsS69.set_1|apply IsS69.set_2)|exact HI204.out)) hb);have n2_:=Aside0.mk (below_step (by repeat (first|(with_reducible first|exact HB.out|apply below_alloc|apply pw_below_drewN|apply below_drew1|refine below_set ?_ (IsS69.ge HI204.out))|exact HB.out)) hb);clear HI204;clear HB;have HO213:=n0_;have HI204:=n1_;have HB:=n2_;clear n0_ n1_ n2_;clear hb ho12;obtain ⟨Ao13,co13,eo13⟩:=Kd.R_slice HO213.out;subst eo13)|((with_reducible refine gate_callee (f:=60) rfl ?_);refine goesL_ (some 20) rfl rfl Try.func60 (by kernel_rfl) rfl #[.pointer (some ⟨g204,0,none⟩),.slice Ao13 y211.length co13] rfl (by (try simp only [List.map_toArray,List.map_cons,List.map_nil]);first|done|rfl|(simp only [List.length_drop,List.length_take];rfl)) ?_;(with_reducible refine (spec_l01Pick.calls g204 t201 t209 t210 _ _ y211 t214 t215 t216 w _ ?side1 ?side2 ?side3 ?side4 ?side5 A8.out).mono ?_);(case side1 => repeat (first|(with_reducible first|exact HI204.out|apply IsS69.alloc|apply IsS69.drewN|apply IsS69.drew|apply IsS69.set_1|apply IsS69.set_2)|exact HI204.out));(case side2 => repeat (first|(with_reducible first|exact HB.out|apply below_alloc|apply pw_below_drewN|apply below_drew1|refine below_set ?_ (IsS69.ge HI204.out))|exact HB.out));(case side3 => repeat (first|exact (Kd.R_reads' HO213.out).2.2|(with_reducible refine Kd.C_alloc ?_ _)|(with_reducible refine Kd.C_drewN ?_ _)|(with_reducible refine Kd.C_drew ?_)));(case side4 => exact (Kd.R_reads' HO213.out).2.1);(case side5 => exact far_slice (IsS69.own_ne HI204.out HO213.out (by decide)));rintro e w14 ⟨rfl,hi,hb,hk⟩;refine ⟨_,rfl,?_⟩;have n0_:=Aside0.mk (Kd.R_mono (Kd.R_keep (IsS69.apart (show IsS69 w _ g204 t201 t209 t210 from by repeat (first|(with_reducible first|exact HI204.out|apply IsS69.alloc|apply IsS69.drewN|apply IsS69.drew|apply IsS69.set_1|apply IsS69.set_2)|exact HI204.out)) (by (with_reducible repeat (first|apply Kd.R_alloc|apply Kd.R_drewN|apply Kd.R_drew));exact HO213.out) (by decide)) hk (fun _ h => h.2)) (fun _ h => h.1));have n1_:=Aside0.mk (hb);have n2_:=Aside0.mk (hi);clear HO213;clear HB;clear HI204;have HO213:=n0_;have HB:=n1_;have HI204:=n2_;clear n0_ n1_ n2_;(try clear hb)))
    go_roundg k1
    case measure => have:=HK1.out;omega
    case rel => exact ⟨(x5_1 ++ t214),(wrap64 (x6_1 + 1)),(t215),(t216),(by first|rfl|(simp;done)|(simp [*];done)),(by first|rfl|(simp;done)|(simp [*];done)),H',⟨by have:=HK1.out;omega⟩,⟨by repeat (first|(with_reducible first|exact HI204.out|apply IsS69.alloc|apply IsS69.drewN|apply IsS69.drew|apply IsS69.set_1|apply IsS69.set_2)|exact HI204.out)⟩,⟨by repeat (first|(with_reducible first|exact HB.out|apply below_alloc|apply pw_below_drewN|apply below_drew1|refine below_set ?_ (IsS69.ge HI204.out))|exact HB.out)⟩⟩
   ·rw [if_neg c7] at H
    have c7b0 : decide (x6_1 < t208) = false:=decide_eq_false c7
    clear c7
    by_cases c15 : t205 = 0
    ·rw [if_pos c15] at H
     have c15b0 : (t205 == 0) = true:=beq_iff_eq.mpr c15
     have c15b1 : (t205 != 0) = false:=bne_eq_false_iff_eq.mpr c15
     clear c15
     replace H:=Option.bind_eq_some_iff.mp H
     obtain ⟨t217,A160,H⟩:=H
     replace H : (if x5_1.size + t217.size ≤ 9223372036854775807 then (some (x5_1 ++ t217)) else (none)) = some r:=H
     have A16:=Aside0.mk A160
     clear A160
     by_cases c17 : x5_1.size + t217.size ≤ 9223372036854775807
     rotate_left
     ·rw [if_neg c17] at H
      exact absurd H (by simp)
     rw [if_pos c17] at H
     have c17b0:=eq_true c17
     have c17b1 : decide (x5_1.size + t217.size ≤ 9223372036854775807) = true:=decide_eq_true c17
     try have c17b2 : (9223372036854775807 < x5_1.size + t217.size) = False:=eq_false (Nat.not_lt.2 c17)
     obtain rfl:=Option.some.inj H
     go_wp2_with (first|((with_reducible refine gate_callee (f:=51) rfl ?_);refine goesL_ (some 13) rfl rfl Try.func51 (by kernel_rfl) rfl #[.pointer (some ⟨g204,0,none⟩),.int .i64 10] rfl (by (try simp only [List.map_toArray,List.map_cons,List.map_nil]);first|done|rfl|(simp only [List.length_drop,List.length_take];rfl)) ?_;(with_reducible refine (spec_l01Below.calls g204 t201 x205001_1 x205002_1 10 t208 t209 t210 w _ ?side1 ?side2 A6.out).mono ?_);(case side1 => repeat (first|(with_reducible first|exact HI204.out|apply IsS69.alloc|apply IsS69.drewN|apply IsS69.drew|apply IsS69.set_1|apply IsS69.set_2)|exact HI204.out));(case side2 => repeat (first|(with_reducible first|exact HB.out|apply below_alloc|apply pw_below_drewN|apply below_drew1|refine below_set ?_ (IsS69.ge HI204.out))|exact HB.out));rintro e w18 ⟨rfl,hi,hb,hk⟩;refine ⟨_,rfl,?_⟩;have n0_:=Aside0.mk (hb);have n1_:=Aside0.mk (hi);clear HB;clear HI204;have HB:=n0_;have HI204:=n1_;clear n0_ n1_;(try clear hb))|((with_reducible refine gate_callee (f:=61) rfl ?_);refine goesL_ (some 26) rfl rfl Try.func61 (by kernel_rfl) rfl #[.int .i64 21,.int .u8 97] rfl (by (try simp only [List.map_toArray,List.map_cons,List.map_nil]);first|done|rfl|(simp only [List.length_drop,List.length_take];rfl)) ?_;(with_reducible refine (spec_l01Long.calls k1 21 97 t217 _ A16.out).mono ?_);rintro e w19 ⟨rfl,hb⟩;refine ⟨_,rfl,?_⟩;have n0_:=Aside0.mk (IsS69.below (by repeat (first|(with_reducible first|exact HI204.out|apply IsS69.alloc|apply IsS69.drewN|apply IsS69.drew|apply IsS69.set_1|apply IsS69.set_2)|exact HI204.out)) hb);have n1_:=Aside0.mk (below_step (by repeat (first|(with_reducible first|exact HB.out|apply below_alloc|apply pw_below_drewN|apply below_drew1|refine below_set ?_ (IsS69.ge HI204.out))|exact HB.out)) hb);clear HI204;clear HB;have HI204:=n0_;have HB:=n1_;clear n0_ n1_;(try clear hb)))
     go_ret
     exact ⟨by first|rfl|(simp [errW_none,errW_some] <;> rfl)|(simp [*,errW_none,errW_some] <;> rfl),by repeat (first|(with_reducible first|exact HB.out|apply below_alloc|apply pw_below_drewN|apply below_drew1|refine below_set ?_ (IsS69.ge HI204.out))|exact HB.out)⟩
    ·rw [if_neg c15] at H
     have c15b0 : (t205 == 0) = false:=beq_eq_false_iff_ne.mpr c15
     have c15b1 : (t205 != 0) = true:=bne_iff_ne.mpr c15
     by_cases c20 : t205 = 1
     ·rw [if_pos c20] at H
      have c20b0 : (t205 == 1) = true:=beq_iff_eq.mpr c20
      have c20b1 : (t205 != 1) = false:=bne_eq_false_iff_eq.mpr c20
      clear c20
      replace H:=Option.bind_eq_some_iff.mp H
      obtain ⟨t218,A210,H⟩:=H
      replace H : (if x5_1.size + t218.size ≤ 9223372036854775807 then (some (x5_1 ++ t218)) else (none)) = some r:=H
      have A21:=Aside0.mk A210
      clear A210
      by_cases c22 : x5_1.size + t218.size ≤ 9223372036854775807
      rotate_left
      ·rw [if_neg c22] at H
       exact absurd H (by simp)
      rw [if_pos c22] at H
      have c22b0:=eq_true c22
      have c22b1 : decide (x5_1.size + t218.size ≤ 9223372036854775807) = true:=decide_eq_true c22
      try have c22b2 : (9223372036854775807 < x5_1.size + t218.size) = False:=eq_false (Nat.not_lt.2 c22)
      obtain rfl:=Option.some.inj H
      go_wp2_with (first|((with_reducible refine gate_callee (f:=51) rfl ?_);refine goesL_ (some 13) rfl rfl Try.func51 (by kernel_rfl) rfl #[.pointer (some ⟨g204,0,none⟩),.int .i64 10] rfl (by (try simp only [List.map_toArray,List.map_cons,List.map_nil]);first|done|rfl|(simp only [List.length_drop,List.length_take];rfl)) ?_;(with_reducible refine (spec_l01Below.calls g204 t201 x205001_1 x205002_1 10 t208 t209 t210 w _ ?side1 ?side2 A6.out).mono ?_);(case side1 => repeat (first|(with_reducible first|exact HI204.out|apply IsS69.alloc|apply IsS69.drewN|apply IsS69.drew|apply IsS69.set_1|apply IsS69.set_2)|exact HI204.out));(case side2 => repeat (first|(with_reducible first|exact HB.out|apply below_alloc|apply pw_below_drewN|apply below_drew1|refine below_set ?_ (IsS69.ge HI204.out))|exact HB.out));rintro e w23 ⟨rfl,hi,hb,hk⟩;refine ⟨_,rfl,?_⟩;have n0_:=Aside0.mk (hb);have n1_:=Aside0.mk (hi);clear HB;clear HI204;have HB:=n0_;have HI204:=n1_;clear n0_ n1_;(try clear hb))|((with_reducible refine gate_callee (f:=61) rfl ?_);refine goesL_ (some 31) rfl rfl Try.func61 (by kernel_rfl) rfl #[.int .i64 21,.int .u8 43] rfl (by (try simp only [List.map_toArray,List.map_cons,List.map_nil]);first|done|rfl|(simp only [List.length_drop,List.length_take];rfl)) ?_;(with_reducible refine (spec_l01Long.calls k1 21 43 t218 _ A21.out).mono ?_);rintro e w24 ⟨rfl,hb⟩;refine ⟨_,rfl,?_⟩;have n0_:=Aside0.mk (IsS69.below (by repeat (first|(with_reducible first|exact HI204.out|apply IsS69.alloc|apply IsS69.drewN|apply IsS69.drew|apply IsS69.set_1|apply IsS69.set_2)|exact HI204.out)) hb);have n1_:=Aside0.mk (below_step (by repeat (first|(with_reducible first|exact HB.out|apply below_alloc|apply pw_below_drewN|apply below_drew1|refine below_set ?_ (IsS69.ge HI204.out))|exact HB.out)) hb);clear HI204;clear HB;have HI204:=n0_;have HB:=n1_;clear n0_ n1_;(try clear hb)))
      go_ret
      exact ⟨by first|rfl|(simp [errW_none,errW_some] <;> rfl)|(simp [*,errW_none,errW_some] <;> rfl),by repeat (first|(with_reducible first|exact HB.out|apply below_alloc|apply pw_below_drewN|apply below_drew1|refine below_set ?_ (IsS69.ge HI204.out))|exact HB.out)⟩
     ·rw [if_neg c20] at H
      have c20b0 : (t205 == 1) = false:=beq_eq_false_iff_ne.mpr c20
      have c20b1 : (t205 != 1) = true:=bne_iff_ne.mpr c20
      by_cases c25 : t205 = 2
      ·rw [if_pos c25] at H
       have c25b0 : (t205 == 2) = true:=beq_iff_eq.mpr c25
       have c25b1 : (t205 != 2) = false:=bne_eq_false_iff_eq.mpr c25
       clear c25
       replace H:=Option.bind_eq_some_iff.mp H
       obtain ⟨⟨t219,t220,t221⟩,A260,H⟩:=H
       replace H : ((spec_l01Long.f k1 (wrap64 (3000 + t219)) 32).bind fun t222 => (some t222)) = some r:=H
       have A26:=Aside0.mk A260
       clear A260
       replace H:=Option.bind_eq_some_iff.mp H
       obtain ⟨t222,A270,H⟩:=H
       replace H : (some t222) = some r:=H
       have A27:=Aside0.mk A270
       clear A270
       obtain rfl:=Option.some.inj H
       go_wp2_with (first|((with_reducible refine gate_callee (f:=51) rfl ?_);refine goesL_ (some 13) rfl rfl Try.func51 (by kernel_rfl) rfl #[.pointer (some ⟨g204,0,none⟩),.int .i64 10] rfl (by (try simp only [List.map_toArray,List.map_cons,List.map_nil]);first|done|rfl|(simp only [List.length_drop,List.length_take];rfl)) ?_;(with_reducible refine (spec_l01Below.calls g204 t201 x205001_1 x205002_1 10 t208 t209 t210 w _ ?side1 ?side2 A6.out).mono ?_);(case side1 => repeat (first|(with_reducible first|exact HI204.out|apply IsS69.alloc|apply IsS69.drewN|apply IsS69.drew|apply IsS69.set_1|apply IsS69.set_2)|exact HI204.out));(case side2 => repeat (first|(with_reducible first|exact HB.out|apply below_alloc|apply pw_below_drewN|apply below_drew1|refine below_set ?_ (IsS69.ge HI204.out))|exact HB.out));rintro e w28 ⟨rfl,hi,hb,hk⟩;refine ⟨_,rfl,?_⟩;have n0_:=Aside0.mk (hb);have n1_:=Aside0.mk (hi);clear HB;clear HI204;have HB:=n0_;have HI204:=n1_;clear n0_ n1_;(try clear hb))|((with_reducible refine gate_callee (f:=51) rfl ?_);refine goesL_ (some 36) rfl rfl Try.func51 (by kernel_rfl) rfl #[.pointer (some ⟨g204,0,none⟩),.int .i64 2] rfl (by (try simp only [List.map_toArray,List.map_cons,List.map_nil]);first|done|rfl|(simp only [List.length_drop,List.length_take];rfl)) ?_;(with_reducible refine (spec_l01Below.calls g204 t201 t209 t210 2 t219 t220 t221 w _ ?side1 ?side2 A26.out).mono ?_);(case side1 => repeat (first|(with_reducible first|exact HI204.out|apply IsS69.alloc|apply IsS69.drewN|apply IsS69.drew|apply IsS69.set_1|apply IsS69.set_2)|exact HI204.out));(case side2 => repeat (first|(with_reducible first|exact HB.out|apply below_alloc|apply pw_below_drewN|apply below_drew1|refine below_set ?_ (IsS69.ge HI204.out))|exact HB.out));rintro e w29 ⟨rfl,hi,hb,hk⟩;refine ⟨_,rfl,?_⟩;have n0_:=Aside0.mk (hb);have n1_:=Aside0.mk (hi);clear HB;clear HI204;have HB:=n0_;have HI204:=n1_;clear n0_ n1_;(try clear hb))|((with_reducible refine gate_callee (f:=61) rfl ?_);refine goesL_ (some 38) rfl rfl Try.func61 (by kernel_rfl) rfl #[.int .i64 (wrap64 (3000 + t219)),.int .u8 32] rfl (by (try simp only [List.map_toArray,List.map_cons,List.map_nil]);first|done|rfl|(simp only [List.length_drop,List.length_take];rfl)) ?_;(with_reducible refine (spec_l01Long.calls k1 (wrap64 (3000 + t219)) 32 t222 _ A27.out).mono ?_);rintro e w30 ⟨rfl,hb⟩;refine ⟨_,rfl,?_⟩;have n0_:=Aside0.mk (IsS69.below (by repeat (first|(with_reducible first|exact HI204.out|apply IsS69.alloc|apply IsS69.drewN|apply IsS69.drew|apply IsS69.set_1|apply IsS69.set_2)|exact HI204.out)) hb);have n1_:=Aside0.mk (below_step (by repeat (first|(with_reducible first|exact HB.out|apply below_alloc|apply pw_below_drewN|apply below_drew1|refine below_set ?_ (IsS69.ge HI204.out))|exact HB.out)) hb);clear HI204;clear HB;have HI204:=n0_;have HB:=n1_;clear n0_ n1_;(try clear hb)))
       go_ret
       exact ⟨by first|rfl|(simp [errW_none,errW_some] <;> rfl)|(simp [*,errW_none,errW_some] <;> rfl),by repeat (first|(with_reducible first|exact HB.out|apply below_alloc|apply pw_below_drewN|apply below_drew1|refine below_set ?_ (IsS69.ge HI204.out))|exact HB.out)⟩
      ·rw [if_neg c25] at H
       have c25b0 : (t205 == 2) = false:=beq_eq_false_iff_ne.mpr c25
       have c25b1 : (t205 != 2) = true:=bne_iff_ne.mpr c25
       obtain rfl:=Option.some.inj H
       go_wp2_with (first|((with_reducible refine gate_callee (f:=51) rfl ?_);refine goesL_ (some 13) rfl rfl Try.func51 (by kernel_rfl) rfl #[.pointer (some ⟨g204,0,none⟩),.int .i64 10] rfl (by (try simp only [List.map_toArray,List.map_cons,List.map_nil]);first|done|rfl|(simp only [List.length_drop,List.length_take];rfl)) ?_;(with_reducible refine (spec_l01Below.calls g204 t201 x205001_1 x205002_1 10 t208 t209 t210 w _ ?side1 ?side2 A6.out).mono ?_);(case side1 => repeat (first|(with_reducible first|exact HI204.out|apply IsS69.alloc|apply IsS69.drewN|apply IsS69.drew|apply IsS69.set_1|apply IsS69.set_2)|exact HI204.out));(case side2 => repeat (first|(with_reducible first|exact HB.out|apply below_alloc|apply pw_below_drewN|apply below_drew1|refine below_set ?_ (IsS69.ge HI204.out))|exact HB.out));rintro e w31 ⟨rfl,hi,hb,hk⟩;refine ⟨_,rfl,?_⟩;have n0_:=Aside0.mk (hb);have n1_:=Aside0.mk (hi);clear HB;clear HI204;have HB:=n0_;have HI204:=n1_;clear n0_ n1_;(try clear hb)))
       go_ret
       exact ⟨by first|rfl|(simp [errW_none,errW_some] <;> rfl)|(simp [*,errW_none,errW_some] <;> rfl),by repeat (first|(with_reducible first|exact HB.out|apply below_alloc|apply pw_below_drewN|apply below_drew1|refine below_set ?_ (IsS69.ge HI204.out))|exact HB.out)⟩

/-! ### spec_DrawSymbolByte: function 39 -/
def spec_DrawSymbolByte.f (k : Nat) (l0 : List Int) : Option (Int):=(spec_l01New.f k l0).bind fun bt223 => ((spec_l01Byte.f bt223.1 bt223.2.1 bt223.2.2).bind fun bt227 => (some ((bt227.1) % 256)))
theorem spec_DrawSymbolByte.mono : ∀ a0 k,LeO (spec_DrawSymbolByte.f k a0) (spec_DrawSymbolByte.f (k + 1) a0):=by
 intro a0 k
 unfold spec_DrawSymbolByte.f
 repeat' first
   | (with_reducible exact spec_l01New.mono _ _)
   | (with_reducible exact LeO.refl _)
   | (with_reducible exact LeO.none _)
   | (with_reducible refine LeO.ite ?_ ?_)
   | (with_reducible refine LeO.bind ?_ (fun _ => ?_))
   | exact spec_l01New.mono _ _
   | exact LeO.none _
   | refine LeO.ite ?_ ?_
   | refine LeO.bind ?_ (fun _ => ?_)
set_option maxHeartbeats 8000000 in
set_option maxRecDepth 100000 in
theorem spec_DrawSymbolByte.calls (k : Nat) (A0 : Option Addr) (c0 : Nat) (l0 : List Int) (r : Int) (w : World) (hr0 : Kd.C (Kd.int .u8) w A0 l0.length l0) (hc0 : l0.length ≤ c0) (h : spec_DrawSymbolByte.f k l0 = some r) :
  Calls Try.prog 39 #[.slice A0 l0.length c0] w fun e w' => e = .returned (.int .u8 r) ∧ Below w.heap.size w w':=by
 have HR0:=Aside0.mk hr0
 have HC0:=Aside0.mk hc0
 clear hr0 hc0
 have HB:=Aside0.mk (Below.refl w.heap.size w)
 have H : ((spec_l01New.f k l0).bind fun bt223 => ((spec_l01Byte.f bt223.1 bt223.2.1 bt223.2.2).bind fun bt227 => (some ((bt227.1) % 256)))) = some r:=h
 clear h
 replace H:=Option.bind_eq_some_iff.mp H
 obtain ⟨⟨t223,t224,t225⟩,A20,H⟩:=H
 replace H : ((spec_l01Byte.f t223 t224 t225).bind fun bt227 => (some ((bt227.1) % 256))) = some r:=H
 have A2:=Aside0.mk A20
 clear A20
 replace H:=Option.bind_eq_some_iff.mp H
 obtain ⟨⟨t227,t228,t229⟩,A30,H⟩:=H
 replace H : (some ((t227) % 256)) = some r:=H
 have A3:=Aside0.mk A30
 clear A30
 obtain rfl:=Option.some.inj H
 go_enter Try.func39,Try.ntmps39
 go_wp2_with (first|((with_reducible refine gate_callee (f:=49) rfl ?_);refine goesL_ (some 4) rfl rfl Try.func49 (by kernel_rfl) rfl #[.slice A0 l0.length c0] rfl (by (try simp only [List.map_toArray,List.map_cons,List.map_nil]);first|done|rfl|(simp only [List.length_drop,List.length_take];rfl)) ?_;(with_reducible refine (spec_l01New.calls k _ _ l0 t223 t224 t225 w _ ?side1 ?side2 ?side3 A2.out).mono ?_);(case side1 => repeat (first|(with_reducible first|exact HB.out|apply below_alloc|apply pw_below_drewN|apply below_drew1)|exact HB.out));(case side2 => exact HR0.out);(case side3 => exact HC0.out);rintro e w4 ⟨g226,rfl,hi,hb,hb2⟩;refine ⟨_,rfl,?_⟩;have n0_:=Aside0.mk (hb);have n1_:=Aside0.mk (hi);clear HB;have HB:=n0_;have HI226:=n1_;clear n0_ n1_;(try clear hb))|((with_reducible refine gate_callee (f:=52) rfl ?_);refine goesL_ (some 5) rfl rfl Try.func52 (by kernel_rfl) rfl #[.pointer (some ⟨g226,0,none⟩)] rfl (by (try simp only [List.map_toArray,List.map_cons,List.map_nil]);first|done|rfl|(simp only [List.length_drop,List.length_take];rfl)) ?_;(with_reducible refine (spec_l01Byte.calls g226 t223 t224 t225 t227 t228 t229 w _ ?side1 ?side2 A3.out).mono ?_);(case side1 => repeat (first|(with_reducible first|exact HI226.out|apply IsS69.alloc|apply IsS69.drewN|apply IsS69.drew|apply IsS69.set_1|apply IsS69.set_2)|exact HI226.out));(case side2 => repeat (first|(with_reducible first|exact HB.out|apply below_alloc|apply pw_below_drewN|apply below_drew1|refine below_set ?_ (IsS69.ge HI226.out))|exact HB.out));rintro e w5 ⟨rfl,hi,hb,hk⟩;refine ⟨_,rfl,?_⟩;have n0_:=Aside0.mk (hb);have n1_:=Aside0.mk (hi);clear HB;clear HI226;have HB:=n0_;have HI226:=n1_;clear n0_ n1_;(try clear hb)))
 go_ret
 exact ⟨by first|rfl|(simp [errW_none,errW_some] <;> rfl)|(simp [*,errW_none,errW_some] <;> rfl),by repeat (first|(with_reducible first|exact HB.out|apply below_alloc|apply pw_below_drewN|apply below_drew1|refine below_set ?_ (IsS69.ge HI226.out))|exact HB.out)⟩

/-! ### laws_FnSigns: function 12 -/
mutual
def laws_FnSigns.j0 : Nat → List Int → ByteArray → List (S46) → List (S46) → Bool → Option (Bool)
 | 0,_,_,_,_,_ => none
 | k + 1,x0,x3,x4,x6,x35 => if x35 = true then (some false) else (laws_FnSigns.l0 k x0 x3 x4 x6 0)
def laws_FnSigns.l0 : Nat → List Int → ByteArray → List (S46) → List (S46) → Int → Option (Bool)
 | 0,_,_,_,_,_ => none
 | k + 1,x0,x3,x4,x6,x8 => if x8 < (x4.length : Int) then (if 0 ≤ x8 then (if x8 < (x6.length : Int) then (if (!(((rd_T46 x4 x8).f0) == ((rd_T46 x6 x8).f0)) || (!((((rd_T46 x4 x8).f1).toList) == (((rd_T46 x6 x8).f1).toList)) || (!(((rd_T46 x4 x8).f2) == ((rd_T46 x6 x8).f2)) || (!(((rd_T46 x4 x8).f3) == ((rd_T46 x6 x8).f3)) || (!(((rd_T46 x4 x8).f4) == ((rd_T46 x6 x8).f4))))))) = true then (some false) else (if x8 > 0 then (if 0 ≤ (wrap64 (x8 - 1)) then (if (wrap64 (x8 - 1)) < (x4.length : Int) then (if ((rd_T46 x4 (wrap64 (x8 - 1))).f3) ≥ ((rd_T46 x4 x8).f3) then (some false) else (if ((rd_T46 x4 x8).f3) ≥ (x3.size : Int) then (some false) else (laws_FnSigns.l0 k x0 x3 x4 x6 (wrap64 (x8 + 1))))) else (none)) else (none)) else (if ((rd_T46 x4 x8).f3) ≥ (x3.size : Int) then (some false) else (laws_FnSigns.l0 k x0 x3 x4 x6 (wrap64 (x8 + 1)))))) else (none)) else (none)) else (if 7 + x3.size ≤ 9223372036854775807 then ((impl_SignsOf.f k ((⟨#[37,32,115,97,105,100,10]⟩ : ByteArray) ++ x3)).bind fun bt246 => ((spec_DrawSymbolByte.f k x0).bind fun t250 => ((impl_SymbolByte.f k t250).bind fun t251 => ((fk_spec_SymbolByte.f k t250).bind fun t252 => (if (t251 == t252) = true then (if (x3.size : Int) > 2900 then ((impl_SymbolByte.f k 43).bind fun t253 => (if t253 = true then ((impl_SymbolByte.f k 97).bind fun t254 => (some (!t254))) else (some false))) else (if (bt246.1.length : Int) = (x4.length : Int) then ((impl_SymbolByte.f k 43).bind fun t255 => (if t255 = true then ((impl_SymbolByte.f k 97).bind fun t256 => (some (!t256))) else (some false))) else (some false))) else (some false)))))) else (none))
end
def laws_FnSigns.f (k : Nat) (l0 : List Int) : Option (Bool):=(laws_big.f l0).bind fun t230 => (if t230 = true then (some true) else ((spec_DrawSignsOf.f k l0).bind fun t231 => ((impl_SignsOf.f k t231).bind fun bt232 => ((spec_SignsOf.f k t231).bind fun bt236 => (if (bt232.2 != bt236.2) = true then (laws_FnSigns.j0 k l0 t231 bt232.1 bt236.1 true) else (laws_FnSigns.j0 k l0 t231 bt232.1 bt236.1 ((bt232.1.length : Int) != (bt236.1.length : Int))))))))
theorem laws_FnSigns.mono_l : ∀ k,(∀ y0 y1 y2 y3 y4,LeO (laws_FnSigns.j0 k y0 y1 y2 y3 y4) (laws_FnSigns.j0 (k + 1) y0 y1 y2 y3 y4)) ∧ (∀ y0 y1 y2 y3 y4,LeO (laws_FnSigns.l0 k y0 y1 y2 y3 y4) (laws_FnSigns.l0 (k + 1) y0 y1 y2 y3 y4))
 | 0 => ⟨fun _ _ _ _ _ r h => by simp [laws_FnSigns.j0] at h,fun _ _ _ _ _ r h => by simp [laws_FnSigns.l0] at h⟩
 | k + 1 => by
  obtain ⟨ih0,ih1⟩:=laws_FnSigns.mono_l k
  refine ⟨?_,?_⟩
  ·intro y0 y1 y2 y3 y4
   unfold laws_FnSigns.j0
   repeat' first
   | (with_reducible exact ih0 _ _ _ _ _)
   | (with_reducible exact ih1 _ _ _ _ _)
   | (with_reducible exact fk_spec_SymbolByte.mono _ _)
   | (with_reducible exact impl_SignsOf.mono _ _)
   | (with_reducible exact impl_SymbolByte.mono _ _)
   | (with_reducible exact spec_DrawSignsOf.mono _ _)
   | (with_reducible exact spec_DrawSymbolByte.mono _ _)
   | (with_reducible exact spec_SignsOf.mono _ _)
   | (with_reducible exact LeO.refl _)
   | (with_reducible exact LeO.none _)
   | (with_reducible refine LeO.ite ?_ ?_)
   | (with_reducible refine LeO.bind ?_ (fun _ => ?_))
   | exact ih0 _ _ _ _ _
   | exact ih1 _ _ _ _ _
   | exact fk_spec_SymbolByte.mono _ _
   | exact impl_SignsOf.mono _ _
   | exact impl_SymbolByte.mono _ _
   | exact spec_DrawSignsOf.mono _ _
   | exact spec_DrawSymbolByte.mono _ _
   | exact spec_SignsOf.mono _ _
   | exact LeO.none _
   | refine LeO.ite ?_ ?_
   | refine LeO.bind ?_ (fun _ => ?_)
  ·intro y0 y1 y2 y3 y4
   unfold laws_FnSigns.l0
   repeat' first
   | (with_reducible exact ih0 _ _ _ _ _)
   | (with_reducible exact ih1 _ _ _ _ _)
   | (with_reducible exact fk_spec_SymbolByte.mono _ _)
   | (with_reducible exact impl_SignsOf.mono _ _)
   | (with_reducible exact impl_SymbolByte.mono _ _)
   | (with_reducible exact spec_DrawSignsOf.mono _ _)
   | (with_reducible exact spec_DrawSymbolByte.mono _ _)
   | (with_reducible exact spec_SignsOf.mono _ _)
   | (with_reducible exact LeO.refl _)
   | (with_reducible exact LeO.none _)
   | (with_reducible refine LeO.ite ?_ ?_)
   | (with_reducible refine LeO.bind ?_ (fun _ => ?_))
   | exact ih0 _ _ _ _ _
   | exact ih1 _ _ _ _ _
   | exact fk_spec_SymbolByte.mono _ _
   | exact impl_SignsOf.mono _ _
   | exact impl_SymbolByte.mono _ _
   | exact spec_DrawSignsOf.mono _ _
   | exact spec_DrawSymbolByte.mono _ _
   | exact spec_SignsOf.mono _ _
   | exact LeO.none _
   | refine LeO.ite ?_ ?_
   | refine LeO.bind ?_ (fun _ => ?_)
theorem laws_FnSigns.mono : ∀ a0 k,LeO (laws_FnSigns.f k a0) (laws_FnSigns.f (k + 1) a0):=by
 intro a0 k
 obtain ⟨ih0,ih1⟩:=laws_FnSigns.mono_l k
 unfold laws_FnSigns.f
 repeat' first
   | (with_reducible exact ih0 _ _ _ _ _)
   | (with_reducible exact ih1 _ _ _ _ _)
   | (with_reducible exact fk_spec_SymbolByte.mono _ _)
   | (with_reducible exact impl_SignsOf.mono _ _)
   | (with_reducible exact impl_SymbolByte.mono _ _)
   | (with_reducible exact spec_DrawSignsOf.mono _ _)
   | (with_reducible exact spec_DrawSymbolByte.mono _ _)
   | (with_reducible exact spec_SignsOf.mono _ _)
   | (with_reducible exact LeO.refl _)
   | (with_reducible exact LeO.none _)
   | (with_reducible refine LeO.ite ?_ ?_)
   | (with_reducible refine LeO.bind ?_ (fun _ => ?_))
   | exact ih0 _ _ _ _ _
   | exact ih1 _ _ _ _ _
   | exact fk_spec_SymbolByte.mono _ _
   | exact impl_SignsOf.mono _ _
   | exact impl_SymbolByte.mono _ _
   | exact spec_DrawSignsOf.mono _ _
   | exact spec_DrawSymbolByte.mono _ _
   | exact spec_SignsOf.mono _ _
   | exact LeO.none _
   | refine LeO.ite ?_ ?_
   | refine LeO.bind ?_ (fun _ => ?_)
set_option maxHeartbeats 8000000 in
set_option maxRecDepth 100000 in
theorem laws_FnSigns.calls (k : Nat) (A0 : Option Addr) (c0 : Nat) (l0 : List Int) (r : Bool) (w : World) (hr0 : Kd.C (Kd.int .u8) w A0 l0.length l0) (hc0 : l0.length ≤ c0) (h : laws_FnSigns.f k l0 = some r) :
  Calls Try.prog 12 #[.slice A0 l0.length c0] w fun e w' => e = .returned (.bool r) ∧ Below w.heap.size w w':=by
 have hu46:=Try.underlying46
 have HR0:=Aside0.mk hr0
 have HC0:=Aside0.mk hc0
 clear hr0 hc0
 have HB:=Aside0.mk (Below.refl w.heap.size w)
 have H : ((laws_big.f l0).bind fun t230 => (if t230 = true then (some true) else ((spec_DrawSignsOf.f k l0).bind fun t231 => ((impl_SignsOf.f k t231).bind fun bt232 => ((spec_SignsOf.f k t231).bind fun bt236 => (if (bt232.2 != bt236.2) = true then (laws_FnSigns.j0 k l0 t231 bt232.1 bt236.1 true) else (laws_FnSigns.j0 k l0 t231 bt232.1 bt236.1 ((bt232.1.length : Int) != (bt236.1.length : Int))))))))) = some r:=h
 clear h
 replace H:=Option.bind_eq_some_iff.mp H
 obtain ⟨t230,A20,H⟩:=H
 replace H : (if t230 = true then (some true) else ((spec_DrawSignsOf.f k l0).bind fun t231 => ((impl_SignsOf.f k t231).bind fun bt232 => ((spec_SignsOf.f k t231).bind fun bt236 => (if (bt232.2 != bt236.2) = true then (laws_FnSigns.j0 k l0 t231 bt232.1 bt236.1 true) else (laws_FnSigns.j0 k l0 t231 bt232.1 bt236.1 ((bt232.1.length : Int) != (bt236.1.length : Int)))))))) = some r:=H
 have A2:=Aside0.mk A20
 clear A20
 by_cases c3 : t230 = true
 ·subst c3
  have H1 : (some true) = some r:=by rw [if_pos rfl] at H;exact H
  clear H
  have H:=H1
  clear H1
  obtain rfl:=Option.some.inj H
  go_enter Try.func12,Try.ntmps12
  go_wp2_with (first|(go_at_call 25;(with_reducible refine (laws_big.calls _ _ l0 true _ ?side1 ?side2 A2.out).mono ?_);(case side1 => repeat (first|exact HR0.out|(with_reducible refine Kd.C_alloc ?_ _)|(with_reducible refine Kd.C_drewN ?_ _)|(with_reducible refine Kd.C_drew ?_)));(case side2 => exact HC0.out);rintro e w' ⟨rfl,⟨nd,rfl⟩⟩;(try first|exact ⟨rfl,_,World.drewN_drewN _ _ _⟩|exact ⟨rfl,_,Eq.trans (World.drewN_drewN _ _ _) (congrArg (World.drewN _) (Nat.add_assoc _ _ _))⟩)))
  repeat (go_quiet (first|(go_at_call 25;(with_reducible refine (laws_big.calls _ _ l0 true _ ?side1 ?side2 A2.out).mono ?_);(case side1 => repeat (first|exact HR0.out|(with_reducible refine Kd.C_alloc ?_ _)|(with_reducible refine Kd.C_drewN ?_ _)|(with_reducible refine Kd.C_drew ?_)));(case side2 => exact HC0.out);rintro e w' ⟨rfl,⟨nd,rfl⟩⟩;(try first|exact ⟨rfl,_,World.drewN_drewN _ _ _⟩|exact ⟨rfl,_,Eq.trans (World.drewN_drewN _ _ _) (congrArg (World.drewN _) (Nat.add_assoc _ _ _))⟩)));try go_wp2_with (first|(go_at_call 25;(with_reducible refine (laws_big.calls _ _ l0 true _ ?side1 ?side2 A2.out).mono ?_);(case side1 => repeat (first|exact HR0.out|(with_reducible refine Kd.C_alloc ?_ _)|(with_reducible refine Kd.C_drewN ?_ _)|(with_reducible refine Kd.C_drew ?_)));(case side2 => exact HC0.out);rintro e w' ⟨rfl,⟨nd,rfl⟩⟩;(try first|exact ⟨rfl,_,World.drewN_drewN _ _ _⟩|exact ⟨rfl,_,Eq.trans (World.drewN_drewN _ _ _) (congrArg (World.drewN _) (Nat.add_assoc _ _ _))⟩))))
  go_ret
  exact ⟨by first|rfl|(simp [errW_none,errW_some] <;> rfl)|(simp [*,errW_none,errW_some] <;> rfl),by repeat (first|(with_reducible first|exact HB.out|apply below_alloc|apply pw_below_drewN|apply below_drew1)|exact HB.out)⟩
 ·replace c3:=Bool.eq_false_iff.mpr c3
  subst c3
  have H1 : ((spec_DrawSignsOf.f k l0).bind fun t231 => ((impl_SignsOf.f k t231).bind fun bt232 => ((spec_SignsOf.f k t231).bind fun bt236 => (if (bt232.2 != bt236.2) = true then (laws_FnSigns.j0 k l0 t231 bt232.1 bt236.1 true) else (laws_FnSigns.j0 k l0 t231 bt232.1 bt236.1 ((bt232.1.length : Int) != (bt236.1.length : Int))))))) = some r:=by rw [if_neg (show ¬ (false = true) by decide)] at H;exact H
  clear H
  have H:=H1
  clear H1
  replace H:=Option.bind_eq_some_iff.mp H
  obtain ⟨t231,A40,H⟩:=H
  replace H : ((impl_SignsOf.f k t231).bind fun bt232 => ((spec_SignsOf.f k t231).bind fun bt236 => (if (bt232.2 != bt236.2) = true then (laws_FnSigns.j0 k l0 t231 bt232.1 bt236.1 true) else (laws_FnSigns.j0 k l0 t231 bt232.1 bt236.1 ((bt232.1.length : Int) != (bt236.1.length : Int)))))) = some r:=H
  have A4:=Aside0.mk A40
  clear A40
  replace H:=Option.bind_eq_some_iff.mp H
  obtain ⟨⟨t232,t233⟩,A50,H⟩:=H
  replace H : ((spec_SignsOf.f k t231).bind fun bt236 => (if (t233 != bt236.2) = true then (laws_FnSigns.j0 k l0 t231 t232 bt236.1 true) else (laws_FnSigns.j0 k l0 t231 t232 bt236.1 ((t232.length : Int) != (bt236.1.length : Int))))) = some r:=H
  have A5:=Aside0.mk A50
  clear A50
  replace H:=Option.bind_eq_some_iff.mp H
  obtain ⟨⟨t236,t237⟩,A60,H⟩:=H
  replace H : (if (t233 != t237) = true then (laws_FnSigns.j0 k l0 t231 t232 t236 true) else (laws_FnSigns.j0 k l0 t231 t232 t236 ((t232.length : Int) != (t236.length : Int)))) = some r:=H
  have A6:=Aside0.mk A60
  clear A60
  have HC7:=Aside0.mk H
  clear H
  go_enter Try.func12,Try.ntmps12
  go_upto_region 6 with (first|(go_at_call 25;(with_reducible refine (laws_big.calls _ _ l0 false _ ?side1 ?side2 A2.out).mono ?_);(case side1 => repeat (first|exact HR0.out|(with_reducible refine Kd.C_alloc ?_ _)|(with_reducible refine Kd.C_drewN ?_ _)|(with_reducible refine Kd.C_drew ?_)));(case side2 => exact HC0.out);rintro e w' ⟨rfl,⟨nd,rfl⟩⟩;(try first|exact ⟨rfl,_,World.drewN_drewN _ _ _⟩|exact ⟨rfl,_,Eq.trans (World.drewN_drewN _ _ _) (congrArg (World.drewN _) (Nat.add_assoc _ _ _))⟩))|(go_at_call 38;(with_reducible refine (spec_DrawSignsOf.calls k _ _ l0 t231 _ ?side1 ?side2 A4.out).mono ?_);(case side1 => repeat (first|exact HR0.out|(with_reducible refine Kd.C_alloc ?_ _)|(with_reducible refine Kd.C_drewN ?_ _)|(with_reducible refine Kd.C_drew ?_)));(case side2 => exact HC0.out);rintro e w8 ⟨rfl,hb⟩;have n0_:=Aside0.mk (below_step (by repeat (first|(with_reducible first|exact HB.out|apply below_alloc|apply pw_below_drewN|apply below_drew1)|exact HB.out)) hb);clear HB;have HB:=n0_;clear n0_;(try clear hb))|(go_at_call 32;(with_reducible refine (impl_SignsOf.calls k t231 t232 t233 _ A5.out).mono ?_);rintro e w9 ⟨v234,rfl,ho0,hb⟩;have n0_:=Aside0.mk (Kd.R_lower ho0 (below_size (by repeat (first|(with_reducible first|exact HB.out|apply below_alloc|apply pw_below_drewN|apply below_drew1)|exact HB.out))));have n1_:=Aside0.mk (below_step (by repeat (first|(with_reducible first|exact HB.out|apply below_alloc|apply pw_below_drewN|apply below_drew1)|exact HB.out)) hb);clear HB;have HO235:=n0_;have HB:=n1_;clear n0_ n1_;(try clear hb);(try clear hb2);(try clear hk);(try clear hi);(try clear ho0))|(go_at_call 31;(with_reducible refine (spec_SignsOf.calls k t231 t236 t237 _ A6.out).mono ?_);rintro e w10 ⟨v238,rfl,ho0,hb⟩;have n0_:=Aside0.mk (Kd.R_elder' (by (with_reducible repeat (first|apply Kd.R_alloc|apply Kd.R_drewN|apply Kd.R_drew));exact HO235.out) (Kd.R_base ho0) hb);have n1_:=Aside0.mk (Kd.R_lower (Kd.R_new' ho0 (Kd.R_lt (by (with_reducible repeat (first|apply Kd.R_alloc|apply Kd.R_drewN|apply Kd.R_drew));exact HO235.out))) (below_size (by repeat (first|(with_reducible first|exact HB.out|apply below_alloc|apply pw_below_drewN|apply below_drew1)|exact HB.out))));have n2_:=Aside0.mk (below_step (by repeat (first|(with_reducible first|exact HB.out|apply below_alloc|apply pw_below_drewN|apply below_drew1)|exact HB.out)) hb);clear HO235;clear HB;have HO235:=n0_;have HO239:=n1_;have HB:=n2_;clear n0_ n1_ n2_;(try clear hb);(try clear hb2);(try clear hk);(try clear hi);(try clear ho0)))
  repeat (go_quiet (first|(go_at_call 25;(with_reducible refine (laws_big.calls _ _ l0 false _ ?side1 ?side2 A2.out).mono ?_);(case side1 => repeat (first|exact HR0.out|(with_reducible refine Kd.C_alloc ?_ _)|(with_reducible refine Kd.C_drewN ?_ _)|(with_reducible refine Kd.C_drew ?_)));(case side2 => exact HC0.out);rintro e w' ⟨rfl,⟨nd,rfl⟩⟩;(try first|exact ⟨rfl,_,World.drewN_drewN _ _ _⟩|exact ⟨rfl,_,Eq.trans (World.drewN_drewN _ _ _) (congrArg (World.drewN _) (Nat.add_assoc _ _ _))⟩))|(go_at_call 38;(with_reducible refine (spec_DrawSignsOf.calls k _ _ l0 t231 _ ?side1 ?side2 A4.out).mono ?_);(case side1 => repeat (first|exact HR0.out|(with_reducible refine Kd.C_alloc ?_ _)|(with_reducible refine Kd.C_drewN ?_ _)|(with_reducible refine Kd.C_drew ?_)));(case side2 => exact HC0.out);rintro e w8 ⟨rfl,hb⟩;have n0_:=Aside0.mk (below_step (by repeat (first|(with_reducible first|exact HB.out|apply below_alloc|apply pw_below_drewN|apply below_drew1)|exact HB.out)) hb);clear HB;have HB:=n0_;clear n0_;(try clear hb))|(go_at_call 32;(with_reducible refine (impl_SignsOf.calls k t231 t232 t233 _ A5.out).mono ?_);rintro e w9 ⟨v234,rfl,ho0,hb⟩;have n0_:=Aside0.mk (Kd.R_lower ho0 (below_size (by repeat (first|(with_reducible first|exact HB.out|apply below_alloc|apply pw_below_drewN|apply below_drew1)|exact HB.out))));have n1_:=Aside0.mk (below_step (by repeat (first|(with_reducible first|exact HB.out|apply below_alloc|apply pw_below_drewN|apply below_drew1)|exact HB.out)) hb);clear HB;have HO235:=n0_;have HB:=n1_;clear n0_ n1_;(try clear hb);(try clear hb2);(try clear hk);(try clear hi);(try clear ho0))|(go_at_call 31;(with_reducible refine (spec_SignsOf.calls k t231 t236 t237 _ A6.out).mono ?_);rintro e w10 ⟨v238,rfl,ho0,hb⟩;have n0_:=Aside0.mk (Kd.R_elder' (by (with_reducible repeat (first|apply Kd.R_alloc|apply Kd.R_drewN|apply Kd.R_drew));exact HO235.out) (Kd.R_base ho0) hb);have n1_:=Aside0.mk (Kd.R_lower (Kd.R_new' ho0 (Kd.R_lt (by (with_reducible repeat (first|apply Kd.R_alloc|apply Kd.R_drewN|apply Kd.R_drew));exact HO235.out))) (below_size (by repeat (first|(with_reducible first|exact HB.out|apply below_alloc|apply pw_below_drewN|apply below_drew1)|exact HB.out))));have n2_:=Aside0.mk (below_step (by repeat (first|(with_reducible first|exact HB.out|apply below_alloc|apply pw_below_drewN|apply below_drew1)|exact HB.out)) hb);clear HO235;clear HB;have HO235:=n0_;have HO239:=n1_;have HB:=n2_;clear n0_ n1_ n2_;(try clear hb);(try clear hb2);(try clear hk);(try clear hi);(try clear ho0)));go_upto_region 6 with (first|(go_at_call 25;(with_reducible refine (laws_big.calls _ _ l0 false _ ?side1 ?side2 A2.out).mono ?_);(case side1 => repeat (first|exact HR0.out|(with_reducible refine Kd.C_alloc ?_ _)|(with_reducible refine Kd.C_drewN ?_ _)|(with_reducible refine Kd.C_drew ?_)));(case side2 => exact HC0.out);rintro e w' ⟨rfl,⟨nd,rfl⟩⟩;(try first|exact ⟨rfl,_,World.drewN_drewN _ _ _⟩|exact ⟨rfl,_,Eq.trans (World.drewN_drewN _ _ _) (congrArg (World.drewN _) (Nat.add_assoc _ _ _))⟩))|(go_at_call 38;(with_reducible refine (spec_DrawSignsOf.calls k _ _ l0 t231 _ ?side1 ?side2 A4.out).mono ?_);(case side1 => repeat (first|exact HR0.out|(with_reducible refine Kd.C_alloc ?_ _)|(with_reducible refine Kd.C_drewN ?_ _)|(with_reducible refine Kd.C_drew ?_)));(case side2 => exact HC0.out);rintro e w8 ⟨rfl,hb⟩;have n0_:=Aside0.mk (below_step (by repeat (first|(with_reducible first|exact HB.out|apply below_alloc|apply pw_below_drewN|apply below_drew1)|exact HB.out)) hb);clear HB;have HB:=n0_;clear n0_;(try clear hb))|(go_at_call 32;(with_reducible refine (impl_SignsOf.calls k t231 t232 t233 _ A5.out).mono ?_);rintro e w9 ⟨v234,rfl,ho0,hb⟩;have n0_:=Aside0.mk (Kd.R_lower ho0 (below_size (by repeat (first|(with_reducible first|exact HB.out|apply below_alloc|apply pw_below_drewN|apply below_drew1)|exact HB.out))));have n1_:=Aside0.mk (below_step (by repeat (first|(with_reducible first|exact HB.out|apply below_alloc|apply pw_below_drewN|apply below_drew1)|exact HB.out)) hb);clear HB;have HO235:=n0_;have HB:=n1_;clear n0_ n1_;(try clear hb);(try clear hb2);(try clear hk);(try clear hi);(try clear ho0))|(go_at_call 31;(with_reducible refine (spec_SignsOf.calls k t231 t236 t237 _ A6.out).mono ?_);rintro e w10 ⟨v238,rfl,ho0,hb⟩;have n0_:=Aside0.mk (Kd.R_elder' (by (with_reducible repeat (first|apply Kd.R_alloc|apply Kd.R_drewN|apply Kd.R_drew));exact HO235.out) (Kd.R_base ho0) hb);have n1_:=Aside0.mk (Kd.R_lower (Kd.R_new' ho0 (Kd.R_lt (by (with_reducible repeat (first|apply Kd.R_alloc|apply Kd.R_drewN|apply Kd.R_drew));exact HO235.out))) (below_size (by repeat (first|(with_reducible first|exact HB.out|apply below_alloc|apply pw_below_drewN|apply below_drew1)|exact HB.out))));have n2_:=Aside0.mk (below_step (by repeat (first|(with_reducible first|exact HB.out|apply below_alloc|apply pw_below_drewN|apply below_drew1)|exact HB.out)) hb);clear HO235;clear HB;have HO235:=n0_;have HO239:=n1_;have HB:=n2_;clear n0_ n1_ n2_;(try clear hb);(try clear hb2);(try clear hk);(try clear hi);(try clear ho0))))
  (try simp only [Act.put,List.setIfInBounds_toArray,List.set_cons_zero,List.set_cons_succ])
  go_cut [35] (fun v35 wc => ∃ (kq : Nat) (x35_6 : Bool),v35 = .bool x35_6 ∧ Aside0 (laws_FnSigns.j0 kq l0 t231 t232 t236 x35_6 = some r) ∧ Aside0 (kq ≤ k) ∧ Aside0 (Kd.R k46 46 wc w.heap.size (fun k_ => some k_ ≠ (v238 : Value).ownBlock) v234 t232) ∧ Aside0 (Kd.R k46 46 wc w.heap.size (fun k_ => some k_ ≠ (v234 : Value).ownBlock) v238 t236) ∧ Aside0 (Below w.heap.size w wc))
  case first =>
   have H:=HC7.out
   clear HC7
   by_cases c11 : (t233 != t237) = true
   ·rw [if_pos c11] at H
    have c11b0 : (t233 != t237) = true:=c11
    (try (have c11b1 : decide (t233 = t237) = false:=by simpa using c11))
    (try (have c11b2 : (t233 == t237) = false:=by simpa using c11))
    (try (have c11b3 : ¬ (t233 = t237):=by simpa using c11))
    clear c11
    (first|rw [c11b0]|(simp only [i64_w,i32_w];rw [c11b0])|skip)
    have H':=Aside0.mk H
    clear H
    go_wp2
    repeat (go_quiet (fail);try go_wp2)
    go_meet
    case rel => exact ⟨_,(true),(by first|rfl|(simp;done)|(simp [*];done)),H',⟨by first|omega|exact Nat.le_refl _⟩,⟨by (with_reducible repeat (first|apply Kd.R_alloc|apply Kd.R_drewN|apply Kd.R_drew));exact Kd.R_mono HO235.out (fun _ hk => hk.2)⟩,⟨by (with_reducible repeat (first|apply Kd.R_alloc|apply Kd.R_drewN|apply Kd.R_drew));exact Kd.R_mono HO239.out (fun _ hk => hk.2)⟩,⟨by repeat (first|(with_reducible first|exact HB.out|apply below_alloc|apply pw_below_drewN|apply below_drew1)|exact HB.out)⟩⟩
   ·rw [if_neg c11] at H
    have c11b0 : (t233 != t237) = false:=by simpa using c11
    (try (have c11b1 : decide (t233 = t237) = true:=by simpa using c11))
    (try (have c11b2 : (t233 == t237) = true:=by simpa using c11))
    clear c11
    (first|rw [c11b0]|(simp only [i64_w,i32_w];rw [c11b0])|skip)
    have H':=Aside0.mk H
    clear H
    obtain ⟨Ao12,co12,eo12⟩:=Kd.R_slice HO235.out
    subst eo12
    obtain ⟨Ao13,co13,eo13⟩:=Kd.R_slice HO239.out
    subst eo13
    go_wp2
    repeat (go_quiet (fail);try go_wp2)
    go_meet
    case rel => exact ⟨_,(((t232.length : Int) != (t236.length : Int))),(by first|rfl|(simp;done)|(simp [*];done)),H',⟨by first|omega|exact Nat.le_refl _⟩,⟨by (with_reducible repeat (first|apply Kd.R_alloc|apply Kd.R_drewN|apply Kd.R_drew));exact Kd.R_mono HO235.out (fun _ hk => hk.2)⟩,⟨by (with_reducible repeat (first|apply Kd.R_alloc|apply Kd.R_drewN|apply Kd.R_drew));exact Kd.R_mono HO239.out (fun _ hk => hk.2)⟩,⟨by repeat (first|(with_reducible first|exact HB.out|apply below_alloc|apply pw_below_drewN|apply below_drew1)|exact HB.out)⟩⟩
  case rest =>
   clear HC7
   try clear c3
   try clear c11
   try clear c11b0
   try clear c11b1
   try clear c11b2
   obtain ⟨kq,x35_6,rfl,HA,HJ6,HO_4,HO_6,HB⟩:=hcut
   cases kq with
   | zero => exact absurd HA.out (by simp [laws_FnSigns.j0])
   | succ kj6 =>
    have H:=HA.out
    clear HA
    simp only [laws_FnSigns.j0] at H
    by_cases c14 : x35_6 = true
    ·subst c14
     have H1 : (some false) = some r:=by rw [if_pos rfl] at H;exact H
     clear H
     have H:=H1
     clear H1
     obtain rfl:=Option.some.inj H
     go_wp2
     repeat (go_quiet (fail);try go_wp2)
     go_ret
     exact ⟨by first|rfl|(simp [errW_none,errW_some] <;> rfl)|(simp [*,errW_none,errW_some] <;> rfl),by repeat (first|(with_reducible first|exact HB.out|apply below_alloc|apply pw_below_drewN|apply below_drew1)|exact HB.out)⟩
    ·replace c14:=Bool.eq_false_iff.mpr c14
     subst c14
     have H1 : (laws_FnSigns.l0 kj6 l0 t231 t232 t236 0) = some r:=by rw [if_neg (show ¬ (false = true) by decide)] at H;exact H
     clear H
     have H:=H1
     clear H1
     have H':=Aside0.mk H
     clear H
     go_wp2
     repeat (go_quiet (fail);try go_wp2)
     go_loopg [8] kj6 (fun kq v8 w' => ∃ (x8_2 : Int),v8 = .int .i64 x8_2 ∧ Aside0 (laws_FnSigns.l0 kq l0 t231 t232 t236 x8_2 = some r) ∧ Aside0 (kq ≤ kj6) ∧ Aside0 (Kd.R k46 46 w' w.heap.size (fun k_ => some k_ ≠ (v238 : Value).ownBlock) v234 t232) ∧ Aside0 (Kd.R k46 46 w' w.heap.size (fun k_ => some k_ ≠ (v234 : Value).ownBlock) v238 t236) ∧ Aside0 (Below w.heap.size w w'))
     case atStart => exact ⟨(0),(by first|rfl|(simp;done)|(simp [*];done)),H',⟨Nat.le_refl _⟩,⟨by (with_reducible repeat (first|apply Kd.R_alloc|apply Kd.R_drewN|apply Kd.R_drew));exact HO_4.out⟩,⟨by (with_reducible repeat (first|apply Kd.R_alloc|apply Kd.R_drewN|apply Kd.R_drew));exact HO_6.out⟩,⟨by repeat (first|(with_reducible first|exact HB.out|apply below_alloc|apply pw_below_drewN|apply below_drew1)|exact HB.out)⟩⟩
     case round =>
      clear H'
      try clear c3
      try clear c11
      try clear c11b0
      try clear c11b1
      try clear c11b2
      try clear c14
      obtain ⟨x8_2,rfl,HA,HK2,HO_4,HO_6,HB⟩:=hrel
      cases gk with
      | zero => exact absurd HA.out (by simp [laws_FnSigns.l0])
      | succ k2 =>
       have H:=HA.out
       clear HA
       simp only [laws_FnSigns.l0] at H
       by_cases c15 : x8_2 < (t232.length : Int)
       ·rw [if_pos c15] at H
        have c15b0 : decide (x8_2 < (t232.length : Int)) = true:=decide_eq_true c15
        clear c15
        by_cases c16 : 0 ≤ x8_2
        rotate_left
        ·rw [if_neg c16] at H
         exact absurd H (by simp)
        rw [if_pos c16] at H
        have c16b0 : decide (0 ≤ x8_2) = true:=decide_eq_true c16
        clear c16
        by_cases c17 : x8_2 < (t236.length : Int)
        rotate_left
        ·rw [if_neg c17] at H
         exact absurd H (by simp)
        rw [if_pos c17] at H
        have c17b0 : decide (x8_2 < (t236.length : Int)) = true:=decide_eq_true c17
        clear c17
        by_cases c18 : (!(((rd_T46 t232 x8_2).f0) == ((rd_T46 t236 x8_2).f0)) || (!((((rd_T46 t232 x8_2).f1).toList) == (((rd_T46 t236 x8_2).f1).toList)) || (!(((rd_T46 t232 x8_2).f2) == ((rd_T46 t236 x8_2).f2)) || (!(((rd_T46 t232 x8_2).f3) == ((rd_T46 t236 x8_2).f3)) || (!(((rd_T46 t232 x8_2).f4) == ((rd_T46 t236 x8_2).f4))))))) = true
        ·rw [if_pos c18] at H
         have c18b0 : (!(((rd_T46 t232 x8_2).f0) == ((rd_T46 t236 x8_2).f0)) || (!((((rd_T46 t232 x8_2).f1).toList) == (((rd_T46 t236 x8_2).f1).toList)) || (!(((rd_T46 t232 x8_2).f2) == ((rd_T46 t236 x8_2).f2)) || (!(((rd_T46 t232 x8_2).f3) == ((rd_T46 t236 x8_2).f3)) || (!(((rd_T46 t232 x8_2).f4) == ((rd_T46 t236 x8_2).f4))))))) = true:=c18
         clear c18
         obtain rfl:=Option.some.inj H
         obtain ⟨Ao19,co19,eo19⟩:=Kd.R_slice HO_4.out
         subst eo19
         have p240 : 0 ≤ (x8_2 : Int):=of_decide_eq_true (by first|(with_reducible assumption)|assumption)
         have q240 : x8_2 < (t232.length : Int):=of_decide_eq_true (by first|(with_reducible assumption)|assumption)
         obtain ⟨ad240,e240,hx240_0,hx240_1,hx240_2,hx240_3,hx240_4⟩:=at_T46 (Kd.R_reads' HO_4.out).2.2 x8_2 p240 q240
         cases e240
         replace p240:=eq_true p240
         replace q240:=eq_true q240
         obtain ⟨Ao20,co20,eo20⟩:=Kd.R_slice HO_6.out
         subst eo20
         have p241 : 0 ≤ (x8_2 : Int):=of_decide_eq_true (by first|(with_reducible assumption)|assumption)
         have q241 : x8_2 < (t236.length : Int):=of_decide_eq_true (by first|(with_reducible assumption)|assumption)
         obtain ⟨ad241,e241,hx241_0,hx241_1,hx241_2,hx241_3,hx241_4⟩:=at_T46 (Kd.R_reads' HO_6.out).2.2 x8_2 p241 q241
         cases e241
         replace p241:=eq_true p241
         replace q241:=eq_true q241
         go_wp2
         repeat (go_quiet (fail);try go_wp2)
         go_ret
         exact ⟨by first|rfl|(simp [errW_none,errW_some] <;> rfl)|(simp [*,errW_none,errW_some] <;> rfl),by repeat (first|(with_reducible first|exact HB.out|apply below_alloc|apply pw_below_drewN|apply below_drew1)|exact HB.out)⟩
        ·rw [if_neg c18] at H
         have c18b0 : (!(((rd_T46 t232 x8_2).f0) == ((rd_T46 t236 x8_2).f0)) || (!((((rd_T46 t232 x8_2).f1).toList) == (((rd_T46 t236 x8_2).f1).toList)) || (!(((rd_T46 t232 x8_2).f2) == ((rd_T46 t236 x8_2).f2)) || (!(((rd_T46 t232 x8_2).f3) == ((rd_T46 t236 x8_2).f3)) || (!(((rd_T46 t232 x8_2).f4) == ((rd_T46 t236 x8_2).f4))))))) = false:=by simpa using c18
         clear c18
         by_cases c21 : x8_2 > 0
         ·rw [if_pos c21] at H
          have c21b0 : decide (0 < x8_2) = true:=decide_eq_true c21
          clear c21
          obtain ⟨ji22,hji22⟩ : ∃ j_ : Int,(wrap64 (x8_2 - 1)) = j_:=⟨_,rfl⟩
          replace H : (if 0 ≤ (ji22) then (if (ji22) < (t232.length : Int) then (if ((rd_T46 t232 (ji22)).f3) ≥ ((rd_T46 t232 x8_2).f3) then (some false) else (if ((rd_T46 t232 x8_2).f3) ≥ (t231.size : Int) then (some false) else (laws_FnSigns.l0 k2 l0 t231 t232 t236 (wrap64 (x8_2 + 1))))) else (none)) else (none)) = some r:=by first|(rw [hji22] at H;exact H)|(simp only [hji22] at H ⊢;exact H)
          have hji22w : (IntKind.i64.wrap (x8_2 - 1)) = ji22:=(i64_w _).trans hji22
          by_cases c23 : 0 ≤ (ji22)
          rotate_left
          ·rw [if_neg c23] at H
           exact absurd H (by simp)
          rw [if_pos c23] at H
          have c23b0 : decide (0 ≤ (ji22)) = true:=decide_eq_true c23
          clear c23
          by_cases c24 : (ji22) < (t232.length : Int)
          rotate_left
          ·rw [if_neg c24] at H
           exact absurd H (by simp)
          rw [if_pos c24] at H
          have c24b0 : decide ((ji22) < (t232.length : Int)) = true:=decide_eq_true c24
          clear c24
          by_cases c25 : ((rd_T46 t232 (ji22)).f3) ≥ ((rd_T46 t232 x8_2).f3)
          ·rw [if_pos c25] at H
           have c25b0 : decide (((rd_T46 t232 x8_2).f3) ≤ ((rd_T46 t232 (ji22)).f3)) = true:=decide_eq_true c25
           clear c25
           obtain rfl:=Option.some.inj H
           obtain ⟨Ao26,co26,eo26⟩:=Kd.R_slice HO_4.out
           subst eo26
           have p240 : 0 ≤ (x8_2 : Int):=of_decide_eq_true (by first|(with_reducible assumption)|assumption)
           have q240 : x8_2 < (t232.length : Int):=of_decide_eq_true (by first|(with_reducible assumption)|assumption)
           obtain ⟨ad240,e240,hx240_0,hx240_1,hx240_2,hx240_3,hx240_4⟩:=at_T46 (Kd.R_reads' HO_4.out).2.2 x8_2 p240 q240
           cases e240
           replace p240:=eq_true p240
           replace q240:=eq_true q240
           obtain ⟨Ao27,co27,eo27⟩:=Kd.R_slice HO_6.out
           subst eo27
           have p241 : 0 ≤ (x8_2 : Int):=of_decide_eq_true (by first|(with_reducible assumption)|assumption)
           have q241 : x8_2 < (t236.length : Int):=of_decide_eq_true (by first|(with_reducible assumption)|assumption)
           obtain ⟨ad241,e241,hx241_0,hx241_1,hx241_2,hx241_3,hx241_4⟩:=at_T46 (Kd.R_reads' HO_6.out).2.2 x8_2 p241 q241
           cases e241
           replace p241:=eq_true p241
           replace q241:=eq_true q241
           have p242 : 0 ≤ ((ji22) : Int):=of_decide_eq_true (by first|(with_reducible assumption)|assumption)
           have q242 : (ji22) < (t232.length : Int):=of_decide_eq_true (by first|(with_reducible assumption)|assumption)
           obtain ⟨ad242,e242,hx242_0,hx242_1,hx242_2,hx242_3,hx242_4⟩:=at_T46 (Kd.R_reads' HO_4.out).2.2 (ji22) p242 q242
           obtain rfl : ad240 = ad242:=(by injection e242)
           replace p242:=eq_true p242
           replace q242:=eq_true q242
           have p243 : 0 ≤ (x8_2 : Int):=of_decide_eq_true (by first|(with_reducible assumption)|assumption)
           have q243 : x8_2 < (t232.length : Int):=of_decide_eq_true (by first|(with_reducible assumption)|assumption)
           obtain ⟨ad243,e243,hx243_0,hx243_1,hx243_2,hx243_3,hx243_4⟩:=at_T46 (Kd.R_reads' HO_4.out).2.2 x8_2 p243 q243
           obtain rfl : ad240 = ad243:=(by injection e243)
           replace p243:=eq_true p243
           replace q243:=eq_true q243
           go_wp2
           repeat (go_quiet (fail);try go_wp2)
           go_ret
           exact ⟨by first|rfl|(simp [errW_none,errW_some] <;> rfl)|(simp only [← hji22];first|rfl|(simp [errW_none,errW_some] <;> rfl))|(simp [*,errW_none,errW_some] <;> rfl),by repeat (first|(with_reducible first|exact HB.out|apply below_alloc|apply pw_below_drewN|apply below_drew1)|exact HB.out)⟩
          ·rw [if_neg c25] at H
           have c25b0 : decide (((rd_T46 t232 x8_2).f3) ≤ ((rd_T46 t232 (ji22)).f3)) = false:=decide_eq_false c25
           clear c25
           by_cases c28 : ((rd_T46 t232 x8_2).f3) ≥ (t231.size : Int)
           ·rw [if_pos c28] at H
            have c28b0 : decide ((t231.size : Int) ≤ ((rd_T46 t232 x8_2).f3)) = true:=decide_eq_true c28
            clear c28
            obtain rfl:=Option.some.inj H
            obtain ⟨Ao29,co29,eo29⟩:=Kd.R_slice HO_4.out
            subst eo29
            have p240 : 0 ≤ (x8_2 : Int):=of_decide_eq_true (by first|(with_reducible assumption)|assumption)
            have q240 : x8_2 < (t232.length : Int):=of_decide_eq_true (by first|(with_reducible assumption)|assumption)
            obtain ⟨ad240,e240,hx240_0,hx240_1,hx240_2,hx240_3,hx240_4⟩:=at_T46 (Kd.R_reads' HO_4.out).2.2 x8_2 p240 q240
            cases e240
            replace p240:=eq_true p240
            replace q240:=eq_true q240
            obtain ⟨Ao30,co30,eo30⟩:=Kd.R_slice HO_6.out
            subst eo30
            have p241 : 0 ≤ (x8_2 : Int):=of_decide_eq_true (by first|(with_reducible assumption)|assumption)
            have q241 : x8_2 < (t236.length : Int):=of_decide_eq_true (by first|(with_reducible assumption)|assumption)
            obtain ⟨ad241,e241,hx241_0,hx241_1,hx241_2,hx241_3,hx241_4⟩:=at_T46 (Kd.R_reads' HO_6.out).2.2 x8_2 p241 q241
            cases e241
            replace p241:=eq_true p241
            replace q241:=eq_true q241
            have p242 : 0 ≤ ((ji22) : Int):=of_decide_eq_true (by first|(with_reducible assumption)|assumption)
            have q242 : (ji22) < (t232.length : Int):=of_decide_eq_true (by first|(with_reducible assumption)|assumption)
            obtain ⟨ad242,e242,hx242_0,hx242_1,hx242_2,hx242_3,hx242_4⟩:=at_T46 (Kd.R_reads' HO_4.out).2.2 (ji22) p242 q242
            obtain rfl : ad240 = ad242:=(by injection e242)
            replace p242:=eq_true p242
            replace q242:=eq_true q242
            have p243 : 0 ≤ (x8_2 : Int):=of_decide_eq_true (by first|(with_reducible assumption)|assumption)
            have q243 : x8_2 < (t232.length : Int):=of_decide_eq_true (by first|(with_reducible assumption)|assumption)
            obtain ⟨ad243,e243,hx243_0,hx243_1,hx243_2,hx243_3,hx243_4⟩:=at_T46 (Kd.R_reads' HO_4.out).2.2 x8_2 p243 q243
            obtain rfl : ad240 = ad243:=(by injection e243)
            replace p243:=eq_true p243
            replace q243:=eq_true q243
            have p244 : 0 ≤ (x8_2 : Int):=of_decide_eq_true (by first|(with_reducible assumption)|assumption)
            have q244 : x8_2 < (t232.length : Int):=of_decide_eq_true (by first|(with_reducible assumption)|assumption)
            obtain ⟨ad244,e244,hx244_0,hx244_1,hx244_2,hx244_3,hx244_4⟩:=at_T46 (Kd.R_reads' HO_4.out).2.2 x8_2 p244 q244
            obtain rfl : ad240 = ad244:=(by injection e244)
            replace p244:=eq_true p244
            replace q244:=eq_true q244
            go_wp2
            repeat (go_quiet (fail);try go_wp2)
            go_ret
            exact ⟨by first|rfl|(simp [errW_none,errW_some] <;> rfl)|(simp only [← hji22];first|rfl|(simp [errW_none,errW_some] <;> rfl))|(simp [*,errW_none,errW_some] <;> rfl),by repeat (first|(with_reducible first|exact HB.out|apply below_alloc|apply pw_below_drewN|apply below_drew1)|exact HB.out)⟩
           ·rw [if_neg c28] at H
            have c28b0 : decide ((t231.size : Int) ≤ ((rd_T46 t232 x8_2).f3)) = false:=decide_eq_false c28
            clear c28
            have H':=Aside0.mk H
            clear H
            obtain ⟨Ao31,co31,eo31⟩:=Kd.R_slice HO_4.out
            subst eo31
            have p240 : 0 ≤ (x8_2 : Int):=of_decide_eq_true (by first|(with_reducible assumption)|assumption)
            have q240 : x8_2 < (t232.length : Int):=of_decide_eq_true (by first|(with_reducible assumption)|assumption)
            obtain ⟨ad240,e240,hx240_0,hx240_1,hx240_2,hx240_3,hx240_4⟩:=at_T46 (Kd.R_reads' HO_4.out).2.2 x8_2 p240 q240
            cases e240
            replace p240:=eq_true p240
            replace q240:=eq_true q240
            obtain ⟨Ao32,co32,eo32⟩:=Kd.R_slice HO_6.out
            subst eo32
            have p241 : 0 ≤ (x8_2 : Int):=of_decide_eq_true (by first|(with_reducible assumption)|assumption)
            have q241 : x8_2 < (t236.length : Int):=of_decide_eq_true (by first|(with_reducible assumption)|assumption)
            obtain ⟨ad241,e241,hx241_0,hx241_1,hx241_2,hx241_3,hx241_4⟩:=at_T46 (Kd.R_reads' HO_6.out).2.2 x8_2 p241 q241
            cases e241
            replace p241:=eq_true p241
            replace q241:=eq_true q241
            have p242 : 0 ≤ ((ji22) : Int):=of_decide_eq_true (by first|(with_reducible assumption)|assumption)
            have q242 : (ji22) < (t232.length : Int):=of_decide_eq_true (by first|(with_reducible assumption)|assumption)
            obtain ⟨ad242,e242,hx242_0,hx242_1,hx242_2,hx242_3,hx242_4⟩:=at_T46 (Kd.R_reads' HO_4.out).2.2 (ji22) p242 q242
            obtain rfl : ad240 = ad242:=(by injection e242)
            replace p242:=eq_true p242
            replace q242:=eq_true q242
            have p243 : 0 ≤ (x8_2 : Int):=of_decide_eq_true (by first|(with_reducible assumption)|assumption)
            have q243 : x8_2 < (t232.length : Int):=of_decide_eq_true (by first|(with_reducible assumption)|assumption)
            obtain ⟨ad243,e243,hx243_0,hx243_1,hx243_2,hx243_3,hx243_4⟩:=at_T46 (Kd.R_reads' HO_4.out).2.2 x8_2 p243 q243
            obtain rfl : ad240 = ad243:=(by injection e243)
            replace p243:=eq_true p243
            replace q243:=eq_true q243
            have p244 : 0 ≤ (x8_2 : Int):=of_decide_eq_true (by first|(with_reducible assumption)|assumption)
            have q244 : x8_2 < (t232.length : Int):=of_decide_eq_true (by first|(with_reducible assumption)|assumption)
            obtain ⟨ad244,e244,hx244_0,hx244_1,hx244_2,hx244_3,hx244_4⟩:=at_T46 (Kd.R_reads' HO_4.out).2.2 x8_2 p244 q244
            obtain rfl : ad240 = ad244:=(by injection e244)
            replace p244:=eq_true p244
            replace q244:=eq_true q244
            go_wp2
            repeat (go_quiet (fail);try go_wp2)
            go_roundg k2
            case measure => have:=HJ6.out;have:=HK2.out;omega
            case rel => exact ⟨(wrap64 (x8_2 + 1)),(by first|rfl|(simp;done)|(simp [*];done)),H',⟨by have:=HJ6.out;have:=HK2.out;omega⟩,⟨by (with_reducible repeat (first|apply Kd.R_alloc|apply Kd.R_drewN|apply Kd.R_drew));exact HO_4.out⟩,⟨by (with_reducible repeat (first|apply Kd.R_alloc|apply Kd.R_drewN|apply Kd.R_drew));exact HO_6.out⟩,⟨by repeat (first|(with_reducible first|exact HB.out|apply below_alloc|apply pw_below_drewN|apply below_drew1)|exact HB.out)⟩⟩
         ·rw [if_neg c21] at H
          have c21b0 : decide (0 < x8_2) = false:=decide_eq_false c21
          clear c21
          by_cases c33 : ((rd_T46 t232 x8_2).f3) ≥ (t231.size : Int)
          ·rw [if_pos c33] at H
           have c33b0 : decide ((t231.size : Int) ≤ ((rd_T46 t232 x8_2).f3)) = true:=decide_eq_true c33
           clear c33
           obtain rfl:=Option.some.inj H
           obtain ⟨Ao34,co34,eo34⟩:=Kd.R_slice HO_4.out
           subst eo34
           have p240 : 0 ≤ (x8_2 : Int):=of_decide_eq_true (by first|(with_reducible assumption)|assumption)
           have q240 : x8_2 < (t232.length : Int):=of_decide_eq_true (by first|(with_reducible assumption)|assumption)
           obtain ⟨ad240,e240,hx240_0,hx240_1,hx240_2,hx240_3,hx240_4⟩:=at_T46 (Kd.R_reads' HO_4.out).2.2 x8_2 p240 q240
           cases e240
           replace p240:=eq_true p240
           replace q240:=eq_true q240
           obtain ⟨Ao35,co35,eo35⟩:=Kd.R_slice HO_6.out
           subst eo35
           have p241 : 0 ≤ (x8_2 : Int):=of_decide_eq_true (by first|(with_reducible assumption)|assumption)
           have q241 : x8_2 < (t236.length : Int):=of_decide_eq_true (by first|(with_reducible assumption)|assumption)
           obtain ⟨ad241,e241,hx241_0,hx241_1,hx241_2,hx241_3,hx241_4⟩:=at_T46 (Kd.R_reads' HO_6.out).2.2 x8_2 p241 q241
           cases e241
           replace p241:=eq_true p241
           replace q241:=eq_true q241
           have p245 : 0 ≤ (x8_2 : Int):=of_decide_eq_true (by first|(with_reducible assumption)|assumption)
           have q245 : x8_2 < (t232.length : Int):=of_decide_eq_true (by first|(with_reducible assumption)|assumption)
           obtain ⟨ad245,e245,hx245_0,hx245_1,hx245_2,hx245_3,hx245_4⟩:=at_T46 (Kd.R_reads' HO_4.out).2.2 x8_2 p245 q245
           obtain rfl : ad240 = ad245:=(by injection e245)
           replace p245:=eq_true p245
           replace q245:=eq_true q245
           go_wp2
           repeat (go_quiet (fail);try go_wp2)
           go_ret
           exact ⟨by first|rfl|(simp [errW_none,errW_some] <;> rfl)|(simp [*,errW_none,errW_some] <;> rfl),by repeat (first|(with_reducible first|exact HB.out|apply below_alloc|apply pw_below_drewN|apply below_drew1)|exact HB.out)⟩
          ·rw [if_neg c33] at H
           have c33b0 : decide ((t231.size : Int) ≤ ((rd_T46 t232 x8_2).f3)) = false:=decide_eq_false c33
           clear c33
           have H':=Aside0.mk H
           clear H
           obtain ⟨Ao36,co36,eo36⟩:=Kd.R_slice HO_4.out
           subst eo36
           have p240 : 0 ≤ (x8_2 : Int):=of_decide_eq_true (by first|(with_reducible assumption)|assumption)
           have q240 : x8_2 < (t232.length : Int):=of_decide_eq_true (by first|(with_reducible assumption)|assumption)
           obtain ⟨ad240,e240,hx240_0,hx240_1,hx240_2,hx240_3,hx240_4⟩:=at_T46 (Kd.R_reads' HO_4.out).2.2 x8_2 p240 q240
           cases e240
           replace p240:=eq_true p240
           replace q240:=eq_true q240
           obtain ⟨Ao37,co37,eo37⟩:=Kd.R_slice HO_6.out
           subst eo37
           have p241 : 0 ≤ (x8_2 : Int):=of_decide_eq_true (by first|(with_reducible assumption)|assumption)
           have q241 : x8_2 < (t236.length : Int):=of_decide_eq_true (by first|(with_reducible assumption)|assumption)
           obtain ⟨ad241,e241,hx241_0,hx241_1,hx241_2,hx241_3,hx241_4⟩:=at_T46 (Kd.R_reads' HO_6.out).2.2 x8_2 p241 q241
           cases e241
           replace p241:=eq_true p241
           replace q241:=eq_true q241
           have p245 : 0 ≤ (x8_2 : Int):=of_decide_eq_true (by first|(with_reducible assumption)|assumption)
           have q245 : x8_2 < (t232.length : Int):=of_decide_eq_true (by first|(with_reducible assumption)|assumption)
           obtain ⟨ad245,e245,hx245_0,hx245_1,hx245_2,hx245_3,hx245_4⟩:=at_T46 (Kd.R_reads' HO_4.out).2.2 x8_2 p245 q245
           obtain rfl : ad240 = ad245:=(by injection e245)
           replace p245:=eq_true p245
           replace q245:=eq_true q245
           go_wp2
           repeat (go_quiet (fail);try go_wp2)
           go_roundg k2
           case measure => have:=HJ6.out;have:=HK2.out;omega
           case rel => exact ⟨(wrap64 (x8_2 + 1)),(by first|rfl|(simp;done)|(simp [*];done)),H',⟨by have:=HJ6.out;have:=HK2.out;omega⟩,⟨by (with_reducible repeat (first|apply Kd.R_alloc|apply Kd.R_drewN|apply Kd.R_drew));exact HO_4.out⟩,⟨by (with_reducible repeat (first|apply Kd.R_alloc|apply Kd.R_drewN|apply Kd.R_drew));exact HO_6.out⟩,⟨by repeat (first|(with_reducible first|exact HB.out|apply below_alloc|apply pw_below_drewN|apply below_drew1)|exact HB.out)⟩⟩
       ·rw [if_neg c15] at H
        have c15b0 : decide (x8_2 < (t232.length : Int)) = false:=decide_eq_false c15
        clear c15
        by_cases c38 : 7 + t231.size ≤ 9223372036854775807
        rotate_left
        ·rw [if_neg c38] at H
         exact absurd H (by simp)
        rw [if_pos c38] at H
        have c38b0:=eq_true c38
        have c38b1 : decide (7 + t231.size ≤ 9223372036854775807) = true:=decide_eq_true c38
        try have c38b2 : (9223372036854775807 < 7 + t231.size) = False:=eq_false (Nat.not_lt.2 c38)
        replace H:=Option.bind_eq_some_iff.mp H
        obtain ⟨⟨t246,t247⟩,A390,H⟩:=H
        replace H : ((spec_DrawSymbolByte.f k2 l0).bind fun t250 => ((impl_SymbolByte.f k2 t250).bind fun t251 => ((fk_spec_SymbolByte.f k2 t250).bind fun t252 => (if (t251 == t252) = true then (if (t231.size : Int) > 2900 then ((impl_SymbolByte.f k2 43).bind fun t253 => (if t253 = true then ((impl_SymbolByte.f k2 97).bind fun t254 => (some (!t254))) else (some false))) else (if (t246.length : Int) = (t232.length : Int) then ((impl_SymbolByte.f k2 43).bind fun t255 => (if t255 = true then ((impl_SymbolByte.f k2 97).bind fun t256 => (some (!t256))) else (some false))) else (some false))) else (some false))))) = some r:=H
        have A39:=Aside0.mk A390
        clear A390
        replace H:=Option.bind_eq_some_iff.mp H
        obtain ⟨t250,A400,H⟩:=H
        replace H : ((impl_SymbolByte.f k2 t250).bind fun t251 => ((fk_spec_SymbolByte.f k2 t250).bind fun t252 => (if (t251 == t252) = true then (if (t231.size : Int) > 2900 then ((impl_SymbolByte.f k2 43).bind fun t253 => (if t253 = true then ((impl_SymbolByte.f k2 97).bind fun t254 => (some (!t254))) else (some false))) else (if (t246.length : Int) = (t232.length : Int) then ((impl_SymbolByte.f k2 43).bind fun t255 => (if t255 = true then ((impl_SymbolByte.f k2 97).bind fun t256 => (some (!t256))) else (some false))) else (some false))) else (some false)))) = some r:=H
        have A40:=Aside0.mk A400
        clear A400
        replace H:=Option.bind_eq_some_iff.mp H
        obtain ⟨t251,A410,H⟩:=H
        replace H : ((fk_spec_SymbolByte.f k2 t250).bind fun t252 => (if (t251 == t252) = true then (if (t231.size : Int) > 2900 then ((impl_SymbolByte.f k2 43).bind fun t253 => (if t253 = true then ((impl_SymbolByte.f k2 97).bind fun t254 => (some (!t254))) else (some false))) else (if (t246.length : Int) = (t232.length : Int) then ((impl_SymbolByte.f k2 43).bind fun t255 => (if t255 = true then ((impl_SymbolByte.f k2 97).bind fun t256 => (some (!t256))) else (some false))) else (some false))) else (some false))) = some r:=H
        have A41:=Aside0.mk A410
        clear A410
        replace H:=Option.bind_eq_some_iff.mp H
        obtain ⟨t252,A420,H⟩:=H
        replace H : (if (t251 == t252) = true then (if (t231.size : Int) > 2900 then ((impl_SymbolByte.f k2 43).bind fun t253 => (if t253 = true then ((impl_SymbolByte.f k2 97).bind fun t254 => (some (!t254))) else (some false))) else (if (t246.length : Int) = (t232.length : Int) then ((impl_SymbolByte.f k2 43).bind fun t255 => (if t255 = true then ((impl_SymbolByte.f k2 97).bind fun t256 => (some (!t256))) else (some false))) else (some false))) else (some false)) = some r:=H
        have A42:=Aside0.mk A420
        clear A420
        by_cases c43 : (t251 == t252) = true
        ·rw [if_pos c43] at H
         have c43b0 : (t251 == t252) = true:=c43
         (try (have c43b1 : decide (t251 = t252) = true:=by simpa using c43))
         (try (have c43b2 : (t251 == t252) = true:=by simpa using c43))
         clear c43
         by_cases c44 : (t231.size : Int) > 2900
         ·rw [if_pos c44] at H
          have c44b0 : decide (2900 < (t231.size : Int)) = true:=decide_eq_true c44
          have c44b1 : decide (2900 < t231.size) = true:=decide_eq_true (by omega)
          clear c44
          replace H:=Option.bind_eq_some_iff.mp H
          obtain ⟨t253,A450,H⟩:=H
          replace H : (if t253 = true then ((impl_SymbolByte.f k2 97).bind fun t254 => (some (!t254))) else (some false)) = some r:=H
          have A45:=Aside0.mk A450
          clear A450
          by_cases c46 : t253 = true
          ·subst c46
           have H1 : ((impl_SymbolByte.f k2 97).bind fun t254 => (some (!t254))) = some r:=by rw [if_pos rfl] at H;exact H
           clear H
           have H:=H1
           clear H1
           replace H:=Option.bind_eq_some_iff.mp H
           obtain ⟨t254,A470,H⟩:=H
           replace H : (some (!t254)) = some r:=H
           have A47:=Aside0.mk A470
           clear A470
           obtain rfl:=Option.some.inj H
           obtain ⟨Ao48,co48,eo48⟩:=Kd.R_slice HO_4.out
           subst eo48
           go_wp2_with (first|(go_at_call 32;(with_reducible refine (impl_SignsOf.calls k2 ((⟨#[37,32,115,97,105,100,10]⟩ : ByteArray) ++ t231) t246 t247 _ A39.out).mono ?_);rintro e w49 ⟨v248,rfl,ho0,hb⟩;have n0_:=Aside0.mk (Kd.R_elder' (by (with_reducible repeat (first|apply Kd.R_alloc|apply Kd.R_drewN|apply Kd.R_drew));exact HO_4.out) (Kd.R_base ho0) hb);have n1_:=Aside0.mk (Kd.R_elder' (by (with_reducible repeat (first|apply Kd.R_alloc|apply Kd.R_drewN|apply Kd.R_drew));exact HO_6.out) (Kd.R_base ho0) hb);have n2_:=Aside0.mk (Kd.R_lower (Kd.R_new' (Kd.R_new' ho0 (Kd.R_lt (by (with_reducible repeat (first|apply Kd.R_alloc|apply Kd.R_drewN|apply Kd.R_drew));exact HO_4.out))) (Kd.R_lt (by (with_reducible repeat (first|apply Kd.R_alloc|apply Kd.R_drewN|apply Kd.R_drew));exact HO_6.out))) (below_size (by repeat (first|(with_reducible first|exact HB.out|apply below_alloc|apply pw_below_drewN|apply below_drew1)|exact HB.out))));have n3_:=Aside0.mk (below_step (by repeat (first|(with_reducible first|exact HB.out|apply below_alloc|apply pw_below_drewN|apply below_drew1)|exact HB.out)) hb);clear HO_4;clear HO_6;clear HB;have HO_4:=n0_;have HO_6:=n1_;have HO249:=n2_;have HB:=n3_;clear n0_ n1_ n2_ n3_;(try clear hb);(try clear hb2);(try clear hk);(try clear hi);(try clear ho0))|(go_at_call 39;(with_reducible refine (spec_DrawSymbolByte.calls k2 _ _ l0 t250 _ ?side1 ?side2 A40.out).mono ?_);(case side1 => repeat (first|exact (Kd.C_below HR0.out HB.out)|(with_reducible refine Kd.C_alloc ?_ _)|(with_reducible refine Kd.C_drewN ?_ _)|(with_reducible refine Kd.C_drew ?_)));(case side2 => exact HC0.out);rintro e w50 ⟨rfl,hb⟩;have n0_:=Aside0.mk (Kd.R_below (by (with_reducible repeat (first|apply Kd.R_alloc|apply Kd.R_drewN|apply Kd.R_drew));exact HO_4.out) hb);have n1_:=Aside0.mk (Kd.R_below (by (with_reducible repeat (first|apply Kd.R_alloc|apply Kd.R_drewN|apply Kd.R_drew));exact HO_6.out) hb);have n2_:=Aside0.mk (Kd.R_below (by (with_reducible repeat (first|apply Kd.R_alloc|apply Kd.R_drewN|apply Kd.R_drew));exact HO249.out) hb);have n3_:=Aside0.mk (below_step (by repeat (first|(with_reducible first|exact HB.out|apply below_alloc|apply pw_below_drewN|apply below_drew1)|exact HB.out)) hb);clear HO_4;clear HO_6;clear HO249;clear HB;have HO_4:=n0_;have HO_6:=n1_;have HO249:=n2_;have HB:=n3_;clear n0_ n1_ n2_ n3_;(try clear hb))|(go_at_call 14;(with_reducible refine (impl_SymbolByte.calls k2 t250 t251 _ A41.out).mono ?_);rintro e w51 ⟨rfl,hb⟩;have n0_:=Aside0.mk (Kd.R_below (by (with_reducible repeat (first|apply Kd.R_alloc|apply Kd.R_drewN|apply Kd.R_drew));exact HO_4.out) hb);have n1_:=Aside0.mk (Kd.R_below (by (with_reducible repeat (first|apply Kd.R_alloc|apply Kd.R_drewN|apply Kd.R_drew));exact HO_6.out) hb);have n2_:=Aside0.mk (Kd.R_below (by (with_reducible repeat (first|apply Kd.R_alloc|apply Kd.R_drewN|apply Kd.R_drew));exact HO249.out) hb);have n3_:=Aside0.mk (below_step (by repeat (first|(with_reducible first|exact HB.out|apply below_alloc|apply pw_below_drewN|apply below_drew1)|exact HB.out)) hb);clear HO_4;clear HO_6;clear HO249;clear HB;have HO_4:=n0_;have HO_6:=n1_;have HO249:=n2_;have HB:=n3_;clear n0_ n1_ n2_ n3_;(try clear hb))|(go_at_call 13;(with_reducible refine (fk_spec_SymbolByte.calls k2 t250 t252 _ A42.out).mono ?_);rintro e w52 ⟨rfl,hb⟩;have n0_:=Aside0.mk (Kd.R_below (by (with_reducible repeat (first|apply Kd.R_alloc|apply Kd.R_drewN|apply Kd.R_drew));exact HO_4.out) hb);have n1_:=Aside0.mk (Kd.R_below (by (with_reducible repeat (first|apply Kd.R_alloc|apply Kd.R_drewN|apply Kd.R_drew));exact HO_6.out) hb);have n2_:=Aside0.mk (Kd.R_below (by (with_reducible repeat (first|apply Kd.R_alloc|apply Kd.R_drewN|apply Kd.R_drew));exact HO249.out) hb);have n3_:=Aside0.mk (below_step (by repeat (first|(with_reducible first|exact HB.out|apply below_alloc|apply pw_below_drewN|apply below_drew1)|exact HB.out)) hb);clear HO_4;clear HO_6;clear HO249;clear HB;have HO_4:=n0_;have HO_6:=n1_;have HO249:=n2_;have HB:=n3_;clear n0_ n1_ n2_ n3_;(try clear hb))|(go_at_call 14;(with_reducible refine (impl_SymbolByte.calls k2 43 true _ A45.out).mono ?_);rintro e w53 ⟨rfl,hb⟩;have n0_:=Aside0.mk (Kd.R_below (by (with_reducible repeat (first|apply Kd.R_alloc|apply Kd.R_drewN|apply Kd.R_drew));exact HO_4.out) hb);have n1_:=Aside0.mk (Kd.R_below (by (with_reducible repeat (first|apply Kd.R_alloc|apply Kd.R_drewN|apply Kd.R_drew));exact HO_6.out) hb);have n2_:=Aside0.mk (Kd.R_below (by (with_reducible repeat (first|apply Kd.R_alloc|apply Kd.R_drewN|apply Kd.R_drew));exact HO249.out) hb);have n3_:=Aside0.mk (below_step (by repeat (first|(with_reducible first|exact HB.out|apply below_alloc|apply pw_below_drewN|apply below_drew1)|exact HB.out)) hb);clear HO_4;clear HO_6;clear HO249;clear HB;have HO_4:=n0_;have HO_6:=n1_;have HO249:=n2_;have HB:=n3_;clear n0_ n1_ n2_ n3_;(try clear hb))|(go_at_call 14;(with_reducible refine (impl_SymbolByte.calls k2 97 t254 _ A47.out).mono ?_);rintro e w54 ⟨rfl,hb⟩;have n0_:=Aside0.mk (Kd.R_below (by (with_reducible repeat (first|apply Kd.R_alloc|apply Kd.R_drewN|apply Kd.R_drew));exact HO_4.out) hb);have n1_:=Aside0.mk (Kd.R_below (by (with_reducible repeat (first|apply Kd.R_alloc|apply Kd.R_drewN|apply Kd.R_drew));exact HO_6.out) hb);have n2_:=Aside0.mk (Kd.R_below (by (with_reducible repeat (first|apply Kd.R_alloc|apply Kd.R_drewN|apply Kd.R_drew));exact HO249.out) hb);have n3_:=Aside0.mk (below_step (by repeat (first|(with_reducible first|exact HB.out|apply below_alloc|apply pw_below_drewN|apply below_drew1)|exact HB.out)) hb);clear HO_4;clear HO_6;clear HO249;clear HB;have HO_4:=n0_;have HO_6:=n1_;have HO249:=n2_;have HB:=n3_;clear n0_ n1_ n2_ n3_;(try clear hb)))
           repeat (go_quiet (first|(go_at_call 32;(with_reducible refine (impl_SignsOf.calls k2 ((⟨#[37,32,115,97,105,100,10]⟩ : ByteArray) ++ t231) t246 t247 _ A39.out).mono ?_);rintro e w49 ⟨v248,rfl,ho0,hb⟩;have n0_:=Aside0.mk (Kd.R_elder' (by (with_reducible repeat (first|apply Kd.R_alloc|apply Kd.R_drewN|apply Kd.R_drew));exact HO_4.out) (Kd.R_base ho0) hb);have n1_:=Aside0.mk (Kd.R_elder' (by (with_reducible repeat (first|apply Kd.R_alloc|apply Kd.R_drewN|apply Kd.R_drew));exact HO_6.out) (Kd.R_base ho0) hb);have n2_:=Aside0.mk (Kd.R_lower (Kd.R_new' (Kd.R_new' ho0 (Kd.R_lt (by (with_reducible repeat (first|apply Kd.R_alloc|apply Kd.R_drewN|apply Kd.R_drew));exact HO_4.out))) (Kd.R_lt (by (with_reducible repeat (first|apply Kd.R_alloc|apply Kd.R_drewN|apply Kd.R_drew));exact HO_6.out))) (below_size (by repeat (first|(with_reducible first|exact HB.out|apply below_alloc|apply pw_below_drewN|apply below_drew1)|exact HB.out))));have n3_:=Aside0.mk (below_step (by repeat (first|(with_reducible first|exact HB.out|apply below_alloc|apply pw_below_drewN|apply below_drew1)|exact HB.out)) hb);clear HO_4;clear HO_6;clear HB;have HO_4:=n0_;have HO_6:=n1_;have HO249:=n2_;have HB:=n3_;clear n0_ n1_ n2_ n3_;(try clear hb);(try clear hb2);(try clear hk);(try clear hi);(try clear ho0))|(go_at_call 39;(with_reducible refine (spec_DrawSymbolByte.calls k2 _ _ l0 t250 _ ?side1 ?side2 A40.out).mono ?_);(case side1 => repeat (first|exact (Kd.C_below HR0.out HB.out)|(with_reducible refine Kd.C_alloc ?_ _)|(with_reducible refine Kd.C_drewN ?_ _)|(with_reducible refine Kd.C_drew ?_)));(case side2 => exact HC0.out);rintro e w50 ⟨rfl,hb⟩;have n0_:=Aside0.mk (Kd.R_below (by (with_reducible repeat (first|apply Kd.R_alloc|apply Kd.R_drewN|apply Kd.R_drew));exact HO_4.out) hb);have n1_:=Aside0.mk (Kd.R_below (by (with_reducible repeat (first|apply Kd.R_alloc|apply Kd.R_drewN|apply Kd.R_drew));exact HO_6.out) hb);have n2_:=Aside0.mk (Kd.R_below (by (with_reducible repeat (first|apply Kd.R_alloc|apply Kd.R_drewN|apply Kd.R_drew));exact HO249.out) hb);have n3_:=Aside0.mk (below_step (by repeat (first|(with_reducible first|exact HB.out|apply below_alloc|apply pw_below_drewN|apply below_drew1)|exact HB.out)) hb);clear HO_4;clear HO_6;clear HO249;clear HB;have HO_4:=n0_;have HO_6:=n1_;have HO249:=n2_;have HB:=n3_;clear n0_ n1_ n2_ n3_;(try clear hb))|(go_at_call 14;(with_reducible refine (impl_SymbolByte.calls k2 t250 t251 _ A41.out).mono ?_);rintro e w51 ⟨rfl,hb⟩;have n0_:=Aside0.mk (Kd.R_below (by (with_reducible repeat (first|apply Kd.R_alloc|apply Kd.R_drewN|apply Kd.R_drew));exact HO_4.out) hb);have n1_:=Aside0.mk (Kd.R_below (by (with_reducible repeat (first|apply Kd.R_alloc|apply Kd.R_drewN|apply Kd.R_drew));exact HO_6.out) hb);have n2_:=Aside0.mk (Kd.R_below (by (with_reducible repeat (first|apply Kd.R_alloc|apply Kd.R_drewN|apply Kd.R_drew));exact HO249.out) hb);have n3_:=Aside0.mk (below_step (by repeat (first|(with_reducible first|exact HB.out|apply below_alloc|apply pw_below_drewN|apply below_drew1)|exact HB.out)) hb);clear HO_4;clear HO_6;clear HO249;clear HB;have HO_4:=n0_;have HO_6:=n1_;have HO249:=n2_;have HB:=n3_;clear n0_ n1_ n2_ n3_;(try clear hb))|(go_at_call 13;(with_reducible refine (fk_spec_SymbolByte.calls k2 t250 t252 _ A42.out).mono ?_);rintro e w52 ⟨rfl,hb⟩;have n0_:=Aside0.mk (Kd.R_below (by (with_reducible repeat (first|apply Kd.R_alloc|apply Kd.R_drewN|apply Kd.R_drew));exact HO_4.out) hb);have n1_:=Aside0.mk (Kd.R_below (by (with_reducible repeat (first|apply Kd.R_alloc|apply Kd.R_drewN|apply Kd.R_drew));exact HO_6.out) hb);have n2_:=Aside0.mk (Kd.R_below (by (with_reducible repeat (first|apply Kd.R_alloc|apply Kd.R_drewN|apply Kd.R_drew));exact HO249.out) hb);have n3_:=Aside0.mk (below_step (by repeat (first|(with_reducible first|exact HB.out|apply below_alloc|apply pw_below_drewN|apply below_drew1)|exact HB.out)) hb);clear HO_4;clear HO_6;clear HO249;clear HB;have HO_4:=n0_;have HO_6:=n1_;have HO249:=n2_;have HB:=n3_;clear n0_ n1_ n2_ n3_;(try clear hb))|(go_at_call 14;(with_reducible refine (impl_SymbolByte.calls k2 43 true _ A45.out).mono ?_);rintro e w53 ⟨rfl,hb⟩;have n0_:=Aside0.mk (Kd.R_below (by (with_reducible repeat (first|apply Kd.R_alloc|apply Kd.R_drewN|apply Kd.R_drew));exact HO_4.out) hb);have n1_:=Aside0.mk (Kd.R_below (by (with_reducible repeat (first|apply Kd.R_alloc|apply Kd.R_drewN|apply Kd.R_drew));exact HO_6.out) hb);have n2_:=Aside0.mk (Kd.R_below (by (with_reducible repeat (first|apply Kd.R_alloc|apply Kd.R_drewN|apply Kd.R_drew));exact HO249.out) hb);have n3_:=Aside0.mk (below_step (by repeat (first|(with_reducible first|exact HB.out|apply below_alloc|apply pw_below_drewN|apply below_drew1)|exact HB.out)) hb);clear HO_4;clear HO_6;clear HO249;clear HB;have HO_4:=n0_;have HO_6:=n1_;have HO249:=n2_;have HB:=n3_;clear n0_ n1_ n2_ n3_;(try clear hb))|(go_at_call 14;(with_reducible refine (impl_SymbolByte.calls k2 97 t254 _ A47.out).mono ?_);rintro e w54 ⟨rfl,hb⟩;have n0_:=Aside0.mk (Kd.R_below (by (with_reducible repeat (first|apply Kd.R_alloc|apply Kd.R_drewN|apply Kd.R_drew));exact HO_4.out) hb);have n1_:=Aside0.mk (Kd.R_below (by (with_reducible repeat (first|apply Kd.R_alloc|apply Kd.R_drewN|apply Kd.R_drew));exact HO_6.out) hb);have n2_:=Aside0.mk (Kd.R_below (by (with_reducible repeat (first|apply Kd.R_alloc|apply Kd.R_drewN|apply Kd.R_drew));exact HO249.out) hb);have n3_:=Aside0.mk (below_step (by repeat (first|(with_reducible first|exact HB.out|apply below_alloc|apply pw_below_drewN|apply below_drew1)|exact HB.out)) hb);clear HO_4;clear HO_6;clear HO249;clear HB;have HO_4:=n0_;have HO_6:=n1_;have HO249:=n2_;have HB:=n3_;clear n0_ n1_ n2_ n3_;(try clear hb)));try go_wp2_with (first|(go_at_call 32;(with_reducible refine (impl_SignsOf.calls k2 ((⟨#[37,32,115,97,105,100,10]⟩ : ByteArray) ++ t231) t246 t247 _ A39.out).mono ?_);rintro e w49 ⟨v248,rfl,ho0,hb⟩;have n0_:=Aside0.mk (Kd.R_elder' (by (with_reducible repeat (first|apply Kd.R_alloc|apply Kd.R_drewN|apply Kd.R_drew));exact HO_4.out) (Kd.R_base ho0) hb);have n1_:=Aside0.mk (Kd.R_elder' (by (with_reducible repeat (first|apply Kd.R_alloc|apply Kd.R_drewN|apply Kd.R_drew));exact HO_6.out) (Kd.R_base ho0) hb);have n2_:=Aside0.mk (Kd.R_lower (Kd.R_new' (Kd.R_new' ho0 (Kd.R_lt (by (with_reducible repeat (first|apply Kd.R_alloc|apply Kd.R_drewN|apply Kd.R_drew));exact HO_4.out))) (Kd.R_lt (by (with_reducible repeat (first|apply Kd.R_alloc|apply Kd.R_drewN|apply Kd.R_drew));exact HO_6.out))) (below_size (by repeat (first|(with_reducible first|exact HB.out|apply below_alloc|apply pw_below_drewN|apply below_drew1)|exact HB.out))));have n3_:=Aside0.mk (below_step (by repeat (first|(with_reducible first|exact HB.out|apply below_alloc|apply pw_below_drewN|apply below_drew1)|exact HB.out)) hb);clear HO_4;clear HO_6;clear HB;have HO_4:=n0_;have HO_6:=n1_;have HO249:=n2_;have HB:=n3_;clear n0_ n1_ n2_ n3_;(try clear hb);(try clear hb2);(try clear hk);(try clear hi);(try clear ho0))|(go_at_call 39;(with_reducible refine (spec_DrawSymbolByte.calls k2 _ _ l0 t250 _ ?side1 ?side2 A40.out).mono ?_);(case side1 => repeat (first|exact (Kd.C_below HR0.out HB.out)|(with_reducible refine Kd.C_alloc ?_ _)|(with_reducible refine Kd.C_drewN ?_ _)|(with_reducible refine Kd.C_drew ?_)));(case side2 => exact HC0.out);rintro e w50 ⟨rfl,hb⟩;have n0_:=Aside0.mk (Kd.R_below (by (with_reducible repeat (first|apply Kd.R_alloc|apply Kd.R_drewN|apply Kd.R_drew));exact HO_4.out) hb);have n1_:=Aside0.mk (Kd.R_below (by (with_reducible repeat (first|apply Kd.R_alloc|apply Kd.R_drewN|apply Kd.R_drew));exact HO_6.out) hb);have n2_:=Aside0.mk (Kd.R_below (by (with_reducible repeat (first|apply Kd.R_alloc|apply Kd.R_drewN|apply Kd.R_drew));exact HO249.out) hb);have n3_:=Aside0.mk (below_step (by repeat (first|(with_reducible first|exact HB.out|apply below_alloc|apply pw_below_drewN|apply below_drew1)|exact HB.out)) hb);clear HO_4;clear HO_6;clear HO249;clear HB;have HO_4:=n0_;have HO_6:=n1_;have HO249:=n2_;have HB:=n3_;clear n0_ n1_ n2_ n3_;(try clear hb))|(go_at_call 14;(with_reducible refine (impl_SymbolByte.calls k2 t250 t251 _ A41.out).mono ?_);rintro e w51 ⟨rfl,hb⟩;have n0_:=Aside0.mk (Kd.R_below (by (with_reducible repeat (first|apply Kd.R_alloc|apply Kd.R_drewN|apply Kd.R_drew));exact HO_4.out) hb);have n1_:=Aside0.mk (Kd.R_below (by (with_reducible repeat (first|apply Kd.R_alloc|apply Kd.R_drewN|apply Kd.R_drew));exact HO_6.out) hb);have n2_:=Aside0.mk (Kd.R_below (by (with_reducible repeat (first|apply Kd.R_alloc|apply Kd.R_drewN|apply Kd.R_drew));exact HO249.out) hb);have n3_:=Aside0.mk (below_step (by repeat (first|(with_reducible first|exact HB.out|apply below_alloc|apply pw_below_drewN|apply below_drew1)|exact HB.out)) hb);clear HO_4;clear HO_6;clear HO249;clear HB;have HO_4:=n0_;have HO_6:=n1_;have HO249:=n2_;have HB:=n3_;clear n0_ n1_ n2_ n3_;(try clear hb))|(go_at_call 13;(with_reducible refine (fk_spec_SymbolByte.calls k2 t250 t252 _ A42.out).mono ?_);rintro e w52 ⟨rfl,hb⟩;have n0_:=Aside0.mk (Kd.R_below (by (with_reducible repeat (first|apply Kd.R_alloc|apply Kd.R_drewN|apply Kd.R_drew));exact HO_4.out) hb);have n1_:=Aside0.mk (Kd.R_below (by (with_reducible repeat (first|apply Kd.R_alloc|apply Kd.R_drewN|apply Kd.R_drew));exact HO_6.out) hb);have n2_:=Aside0.mk (Kd.R_below (by (with_reducible repeat (first|apply Kd.R_alloc|apply Kd.R_drewN|apply Kd.R_drew));exact HO249.out) hb);have n3_:=Aside0.mk (below_step (by repeat (first|(with_reducible first|exact HB.out|apply below_alloc|apply pw_below_drewN|apply below_drew1)|exact HB.out)) hb);clear HO_4;clear HO_6;clear HO249;clear HB;have HO_4:=n0_;have HO_6:=n1_;have HO249:=n2_;have HB:=n3_;clear n0_ n1_ n2_ n3_;(try clear hb))|(go_at_call 14;(with_reducible refine (impl_SymbolByte.calls k2 43 true _ A45.out).mono ?_);rintro e w53 ⟨rfl,hb⟩;have n0_:=Aside0.mk (Kd.R_below (by (with_reducible repeat (first|apply Kd.R_alloc|apply Kd.R_drewN|apply Kd.R_drew));exact HO_4.out) hb);have n1_:=Aside0.mk (Kd.R_below (by (with_reducible repeat (first|apply Kd.R_alloc|apply Kd.R_drewN|apply Kd.R_drew));exact HO_6.out) hb);have n2_:=Aside0.mk (Kd.R_below (by (with_reducible repeat (first|apply Kd.R_alloc|apply Kd.R_drewN|apply Kd.R_drew));exact HO249.out) hb);have n3_:=Aside0.mk (below_step (by repeat (first|(with_reducible first|exact HB.out|apply below_alloc|apply pw_below_drewN|apply below_drew1)|exact HB.out)) hb);clear HO_4;clear HO_6;clear HO249;clear HB;have HO_4:=n0_;have HO_6:=n1_;have HO249:=n2_;have HB:=n3_;clear n0_ n1_ n2_ n3_;(try clear hb))|(go_at_call 14;(with_reducible refine (impl_SymbolByte.calls k2 97 t254 _ A47.out).mono ?_);rintro e w54 ⟨rfl,hb⟩;have n0_:=Aside0.mk (Kd.R_below (by (with_reducible repeat (first|apply Kd.R_alloc|apply Kd.R_drewN|apply Kd.R_drew));exact HO_4.out) hb);have n1_:=Aside0.mk (Kd.R_below (by (with_reducible repeat (first|apply Kd.R_alloc|apply Kd.R_drewN|apply Kd.R_drew));exact HO_6.out) hb);have n2_:=Aside0.mk (Kd.R_below (by (with_reducible repeat (first|apply Kd.R_alloc|apply Kd.R_drewN|apply Kd.R_drew));exact HO249.out) hb);have n3_:=Aside0.mk (below_step (by repeat (first|(with_reducible first|exact HB.out|apply below_alloc|apply pw_below_drewN|apply below_drew1)|exact HB.out)) hb);clear HO_4;clear HO_6;clear HO249;clear HB;have HO_4:=n0_;have HO_6:=n1_;have HO249:=n2_;have HB:=n3_;clear n0_ n1_ n2_ n3_;(try clear hb))))
           go_ret
           exact ⟨by first|rfl|(simp [errW_none,errW_some] <;> rfl)|(simp [*,errW_none,errW_some] <;> rfl),by repeat (first|(with_reducible first|exact HB.out|apply below_alloc|apply pw_below_drewN|apply below_drew1)|exact HB.out)⟩
          ·replace c46:=Bool.eq_false_iff.mpr c46
           subst c46
           have H1 : (some false) = some r:=by rw [if_neg (show ¬ (false = true) by decide)] at H;exact H
           clear H
           have H:=H1
           clear H1
           obtain rfl:=Option.some.inj H
           obtain ⟨Ao55,co55,eo55⟩:=Kd.R_slice HO_4.out
           subst eo55
           go_wp2_with (first|(go_at_call 32;(with_reducible refine (impl_SignsOf.calls k2 ((⟨#[37,32,115,97,105,100,10]⟩ : ByteArray) ++ t231) t246 t247 _ A39.out).mono ?_);rintro e w56 ⟨v248,rfl,ho0,hb⟩;have n0_:=Aside0.mk (Kd.R_elder' (by (with_reducible repeat (first|apply Kd.R_alloc|apply Kd.R_drewN|apply Kd.R_drew));exact HO_4.out) (Kd.R_base ho0) hb);have n1_:=Aside0.mk (Kd.R_elder' (by (with_reducible repeat (first|apply Kd.R_alloc|apply Kd.R_drewN|apply Kd.R_drew));exact HO_6.out) (Kd.R_base ho0) hb);have n2_:=Aside0.mk (Kd.R_lower (Kd.R_new' (Kd.R_new' ho0 (Kd.R_lt (by (with_reducible repeat (first|apply Kd.R_alloc|apply Kd.R_drewN|apply Kd.R_drew));exact HO_4.out))) (Kd.R_lt (by (with_reducible repeat (first|apply Kd.R_alloc|apply Kd.R_drewN|apply Kd.R_drew));exact HO_6.out))) (below_size (by repeat (first|(with_reducible first|exact HB.out|apply below_alloc|apply pw_below_drewN|apply below_drew1)|exact HB.out))));have n3_:=Aside0.mk (below_step (by repeat (first|(with_reducible first|exact HB.out|apply below_alloc|apply pw_below_drewN|apply below_drew1)|exact HB.out)) hb);clear HO_4;clear HO_6;clear HB;have HO_4:=n0_;have HO_6:=n1_;have HO249:=n2_;have HB:=n3_;clear n0_ n1_ n2_ n3_;(try clear hb);(try clear hb2);(try clear hk);(try clear hi);(try clear ho0))|(go_at_call 39;(with_reducible refine (spec_DrawSymbolByte.calls k2 _ _ l0 t250 _ ?side1 ?side2 A40.out).mono ?_);(case side1 => repeat (first|exact (Kd.C_below HR0.out HB.out)|(with_reducible refine Kd.C_alloc ?_ _)|(with_reducible refine Kd.C_drewN ?_ _)|(with_reducible refine Kd.C_drew ?_)));(case side2 => exact HC0.out);rintro e w57 ⟨rfl,hb⟩;have n0_:=Aside0.mk (Kd.R_below (by (with_reducible repeat (first|apply Kd.R_alloc|apply Kd.R_drewN|apply Kd.R_drew));exact HO_4.out) hb);have n1_:=Aside0.mk (Kd.R_below (by (with_reducible repeat (first|apply Kd.R_alloc|apply Kd.R_drewN|apply Kd.R_drew));exact HO_6.out) hb);have n2_:=Aside0.mk (Kd.R_below (by (with_reducible repeat (first|apply Kd.R_alloc|apply Kd.R_drewN|apply Kd.R_drew));exact HO249.out) hb);have n3_:=Aside0.mk (below_step (by repeat (first|(with_reducible first|exact HB.out|apply below_alloc|apply pw_below_drewN|apply below_drew1)|exact HB.out)) hb);clear HO_4;clear HO_6;clear HO249;clear HB;have HO_4:=n0_;have HO_6:=n1_;have HO249:=n2_;have HB:=n3_;clear n0_ n1_ n2_ n3_;(try clear hb))|(go_at_call 14;(with_reducible refine (impl_SymbolByte.calls k2 t250 t251 _ A41.out).mono ?_);rintro e w58 ⟨rfl,hb⟩;have n0_:=Aside0.mk (Kd.R_below (by (with_reducible repeat (first|apply Kd.R_alloc|apply Kd.R_drewN|apply Kd.R_drew));exact HO_4.out) hb);have n1_:=Aside0.mk (Kd.R_below (by (with_reducible repeat (first|apply Kd.R_alloc|apply Kd.R_drewN|apply Kd.R_drew));exact HO_6.out) hb);have n2_:=Aside0.mk (Kd.R_below (by (with_reducible repeat (first|apply Kd.R_alloc|apply Kd.R_drewN|apply Kd.R_drew));exact HO249.out) hb);have n3_:=Aside0.mk (below_step (by repeat (first|(with_reducible first|exact HB.out|apply below_alloc|apply pw_below_drewN|apply below_drew1)|exact HB.out)) hb);clear HO_4;clear HO_6;clear HO249;clear HB;have HO_4:=n0_;have HO_6:=n1_;have HO249:=n2_;have HB:=n3_;clear n0_ n1_ n2_ n3_;(try clear hb))|(go_at_call 13;(with_reducible refine (fk_spec_SymbolByte.calls k2 t250 t252 _ A42.out).mono ?_);rintro e w59 ⟨rfl,hb⟩;have n0_:=Aside0.mk (Kd.R_below (by (with_reducible repeat (first|apply Kd.R_alloc|apply Kd.R_drewN|apply Kd.R_drew));exact HO_4.out) hb);have n1_:=Aside0.mk (Kd.R_below (by (with_reducible repeat (first|apply Kd.R_alloc|apply Kd.R_drewN|apply Kd.R_drew));exact HO_6.out) hb);have n2_:=Aside0.mk (Kd.R_below (by (with_reducible repeat (first|apply Kd.R_alloc|apply Kd.R_drewN|apply Kd.R_drew));exact HO249.out) hb);have n3_:=Aside0.mk (below_step (by repeat (first|(with_reducible first|exact HB.out|apply below_alloc|apply pw_below_drewN|apply below_drew1)|exact HB.out)) hb);clear HO_4;clear HO_6;clear HO249;clear HB;have HO_4:=n0_;have HO_6:=n1_;have HO249:=n2_;have HB:=n3_;clear n0_ n1_ n2_ n3_;(try clear hb))|(go_at_call 14;(with_reducible refine (impl_SymbolByte.calls k2 43 false _ A45.out).mono ?_);rintro e w60 ⟨rfl,hb⟩;have n0_:=Aside0.mk (Kd.R_below (by (with_reducible repeat (first|apply Kd.R_alloc|apply Kd.R_drewN|apply Kd.R_drew));exact HO_4.out) hb);have n1_:=Aside0.mk (Kd.R_below (by (with_reducible repeat (first|apply Kd.R_alloc|apply Kd.R_drewN|apply Kd.R_drew));exact HO_6.out) hb);have n2_:=Aside0.mk (Kd.R_below (by (with_reducible repeat (first|apply Kd.R_alloc|apply Kd.R_drewN|apply Kd.R_drew));exact HO249.out) hb);have n3_:=Aside0.mk (below_step (by repeat (first|(with_reducible first|exact HB.out|apply below_alloc|apply pw_below_drewN|apply below_drew1)|exact HB.out)) hb);clear HO_4;clear HO_6;clear HO249;clear HB;have HO_4:=n0_;have HO_6:=n1_;have HO249:=n2_;have HB:=n3_;clear n0_ n1_ n2_ n3_;(try clear hb)))
           repeat (go_quiet (first|(go_at_call 32;(with_reducible refine (impl_SignsOf.calls k2 ((⟨#[37,32,115,97,105,100,10]⟩ : ByteArray) ++ t231) t246 t247 _ A39.out).mono ?_);rintro e w56 ⟨v248,rfl,ho0,hb⟩;have n0_:=Aside0.mk (Kd.R_elder' (by (with_reducible repeat (first|apply Kd.R_alloc|apply Kd.R_drewN|apply Kd.R_drew));exact HO_4.out) (Kd.R_base ho0) hb);have n1_:=Aside0.mk (Kd.R_elder' (by (with_reducible repeat (first|apply Kd.R_alloc|apply Kd.R_drewN|apply Kd.R_drew));exact HO_6.out) (Kd.R_base ho0) hb);have n2_:=Aside0.mk (Kd.R_lower (Kd.R_new' (Kd.R_new' ho0 (Kd.R_lt (by (with_reducible repeat (first|apply Kd.R_alloc|apply Kd.R_drewN|apply Kd.R_drew));exact HO_4.out))) (Kd.R_lt (by (with_reducible repeat (first|apply Kd.R_alloc|apply Kd.R_drewN|apply Kd.R_drew));exact HO_6.out))) (below_size (by repeat (first|(with_reducible first|exact HB.out|apply below_alloc|apply pw_below_drewN|apply below_drew1)|exact HB.out))));have n3_:=Aside0.mk (below_step (by repeat (first|(with_reducible first|exact HB.out|apply below_alloc|apply pw_below_drewN|apply below_drew1)|exact HB.out)) hb);clear HO_4;clear HO_6;clear HB;have HO_4:=n0_;have HO_6:=n1_;have HO249:=n2_;have HB:=n3_;clear n0_ n1_ n2_ n3_;(try clear hb);(try clear hb2);(try clear hk);(try clear hi);(try clear ho0))|(go_at_call 39;(with_reducible refine (spec_DrawSymbolByte.calls k2 _ _ l0 t250 _ ?side1 ?side2 A40.out).mono ?_);(case side1 => repeat (first|exact (Kd.C_below HR0.out HB.out)|(with_reducible refine Kd.C_alloc ?_ _)|(with_reducible refine Kd.C_drewN ?_ _)|(with_reducible refine Kd.C_drew ?_)));(case side2 => exact HC0.out);rintro e w57 ⟨rfl,hb⟩;have n0_:=Aside0.mk (Kd.R_below (by (with_reducible repeat (first|apply Kd.R_alloc|apply Kd.R_drewN|apply Kd.R_drew));exact HO_4.out) hb);have n1_:=Aside0.mk (Kd.R_below (by (with_reducible repeat (first|apply Kd.R_alloc|apply Kd.R_drewN|apply Kd.R_drew));exact HO_6.out) hb);have n2_:=Aside0.mk (Kd.R_below (by (with_reducible repeat (first|apply Kd.R_alloc|apply Kd.R_drewN|apply Kd.R_drew));exact HO249.out) hb);have n3_:=Aside0.mk (below_step (by repeat (first|(with_reducible first|exact HB.out|apply below_alloc|apply pw_below_drewN|apply below_drew1)|exact HB.out)) hb);clear HO_4;clear HO_6;clear HO249;clear HB;have HO_4:=n0_;have HO_6:=n1_;have HO249:=n2_;have HB:=n3_;clear n0_ n1_ n2_ n3_;(try clear hb))|(go_at_call 14;(with_reducible refine (impl_SymbolByte.calls k2 t250 t251 _ A41.out).mono ?_);rintro e w58 ⟨rfl,hb⟩;have n0_:=Aside0.mk (Kd.R_below (by (with_reducible repeat (first|apply Kd.R_alloc|apply Kd.R_drewN|apply Kd.R_drew));exact HO_4.out) hb);have n1_:=Aside0.mk (Kd.R_below (by (with_reducible repeat (first|apply Kd.R_alloc|apply Kd.R_drewN|apply Kd.R_drew));exact HO_6.out) hb);have n2_:=Aside0.mk (Kd.R_below (by (with_reducible repeat (first|apply Kd.R_alloc|apply Kd.R_drewN|apply Kd.R_drew));exact HO249.out) hb);have n3_:=Aside0.mk (below_step (by repeat (first|(with_reducible first|exact HB.out|apply below_alloc|apply pw_below_drewN|apply below_drew1)|exact HB.out)) hb);clear HO_4;clear HO_6;clear HO249;clear HB;have HO_4:=n0_;have HO_6:=n1_;have HO249:=n2_;have HB:=n3_;clear n0_ n1_ n2_ n3_;(try clear hb))|(go_at_call 13;(with_reducible refine (fk_spec_SymbolByte.calls k2 t250 t252 _ A42.out).mono ?_);rintro e w59 ⟨rfl,hb⟩;have n0_:=Aside0.mk (Kd.R_below (by (with_reducible repeat (first|apply Kd.R_alloc|apply Kd.R_drewN|apply Kd.R_drew));exact HO_4.out) hb);have n1_:=Aside0.mk (Kd.R_below (by (with_reducible repeat (first|apply Kd.R_alloc|apply Kd.R_drewN|apply Kd.R_drew));exact HO_6.out) hb);have n2_:=Aside0.mk (Kd.R_below (by (with_reducible repeat (first|apply Kd.R_alloc|apply Kd.R_drewN|apply Kd.R_drew));exact HO249.out) hb);have n3_:=Aside0.mk (below_step (by repeat (first|(with_reducible first|exact HB.out|apply below_alloc|apply pw_below_drewN|apply below_drew1)|exact HB.out)) hb);clear HO_4;clear HO_6;clear HO249;clear HB;have HO_4:=n0_;have HO_6:=n1_;have HO249:=n2_;have HB:=n3_;clear n0_ n1_ n2_ n3_;(try clear hb))|(go_at_call 14;(with_reducible refine (impl_SymbolByte.calls k2 43 false _ A45.out).mono ?_);rintro e w60 ⟨rfl,hb⟩;have n0_:=Aside0.mk (Kd.R_below (by (with_reducible repeat (first|apply Kd.R_alloc|apply Kd.R_drewN|apply Kd.R_drew));exact HO_4.out) hb);have n1_:=Aside0.mk (Kd.R_below (by (with_reducible repeat (first|apply Kd.R_alloc|apply Kd.R_drewN|apply Kd.R_drew));exact HO_6.out) hb);have n2_:=Aside0.mk (Kd.R_below (by (with_reducible repeat (first|apply Kd.R_alloc|apply Kd.R_drewN|apply Kd.R_drew));exact HO249.out) hb);have n3_:=Aside0.mk (below_step (by repeat (first|(with_reducible first|exact HB.out|apply below_alloc|apply pw_below_drewN|apply below_drew1)|exact HB.out)) hb);clear HO_4;clear HO_6;clear HO249;clear HB;have HO_4:=n0_;have HO_6:=n1_;have HO249:=n2_;have HB:=n3_;clear n0_ n1_ n2_ n3_;(try clear hb)));try go_wp2_with (first|(go_at_call 32;(with_reducible refine (impl_SignsOf.calls k2 ((⟨#[37,32,115,97,105,100,10]⟩ : ByteArray) ++ t231) t246 t247 _ A39.out).mono ?_);rintro e w56 ⟨v248,rfl,ho0,hb⟩;have n0_:=Aside0.mk (Kd.R_elder' (by (with_reducible repeat (first|apply Kd.R_alloc|apply Kd.R_drewN|apply Kd.R_drew));exact HO_4.out) (Kd.R_base ho0) hb);have n1_:=Aside0.mk (Kd.R_elder' (by (with_reducible repeat (first|apply Kd.R_alloc|apply Kd.R_drewN|apply Kd.R_drew));exact HO_6.out) (Kd.R_base ho0) hb);have n2_:=Aside0.mk (Kd.R_lower (Kd.R_new' (Kd.R_new' ho0 (Kd.R_lt (by (with_reducible repeat (first|apply Kd.R_alloc|apply Kd.R_drewN|apply Kd.R_drew));exact HO_4.out))) (Kd.R_lt (by (with_reducible repeat (first|apply Kd.R_alloc|apply Kd.R_drewN|apply Kd.R_drew));exact HO_6.out))) (below_size (by repeat (first|(with_reducible first|exact HB.out|apply below_alloc|apply pw_below_drewN|apply below_drew1)|exact HB.out))));have n3_:=Aside0.mk (below_step (by repeat (first|(with_reducible first|exact HB.out|apply below_alloc|apply pw_below_drewN|apply below_drew1)|exact HB.out)) hb);clear HO_4;clear HO_6;clear HB;have HO_4:=n0_;have HO_6:=n1_;have HO249:=n2_;have HB:=n3_;clear n0_ n1_ n2_ n3_;(try clear hb);(try clear hb2);(try clear hk);(try clear hi);(try clear ho0))|(go_at_call 39;(with_reducible refine (spec_DrawSymbolByte.calls k2 _ _ l0 t250 _ ?side1 ?side2 A40.out).mono ?_);(case side1 => repeat (first|exact (Kd.C_below HR0.out HB.out)|(with_reducible refine Kd.C_alloc ?_ _)|(with_reducible refine Kd.C_drewN ?_ _)|(with_reducible refine Kd.C_drew ?_)));(case side2 => exact HC0.out);rintro e w57 ⟨rfl,hb⟩;have n0_:=Aside0.mk (Kd.R_below (by (with_reducible repeat (first|apply Kd.R_alloc|apply Kd.R_drewN|apply Kd.R_drew));exact HO_4.out) hb);have n1_:=Aside0.mk (Kd.R_below (by (with_reducible repeat (first|apply Kd.R_alloc|apply Kd.R_drewN|apply Kd.R_drew));exact HO_6.out) hb);have n2_:=Aside0.mk (Kd.R_below (by (with_reducible repeat (first|apply Kd.R_alloc|apply Kd.R_drewN|apply Kd.R_drew));exact HO249.out) hb);have n3_:=Aside0.mk (below_step (by repeat (first|(with_reducible first|exact HB.out|apply below_alloc|apply pw_below_drewN|apply below_drew1)|exact HB.out)) hb);clear HO_4;clear HO_6;clear HO249;clear HB;have HO_4:=n0_;have HO_6:=n1_;have HO249:=n2_;have HB:=n3_;clear n0_ n1_ n2_ n3_;(try clear hb))|(go_at_call 14;(with_reducible refine (impl_SymbolByte.calls k2 t250 t251 _ A41.out).mono ?_);rintro e w58 ⟨rfl,hb⟩;have n0_:=Aside0.mk (Kd.R_below (by (with_reducible repeat (first|apply Kd.R_alloc|apply Kd.R_drewN|apply Kd.R_drew));exact HO_4.out) hb);have n1_:=Aside0.mk (Kd.R_below (by (with_reducible repeat (first|apply Kd.R_alloc|apply Kd.R_drewN|apply Kd.R_drew));exact HO_6.out) hb);have n2_:=Aside0.mk (Kd.R_below (by (with_reducible repeat (first|apply Kd.R_alloc|apply Kd.R_drewN|apply Kd.R_drew));exact HO249.out) hb);have n3_:=Aside0.mk (below_step (by repeat (first|(with_reducible first|exact HB.out|apply below_alloc|apply pw_below_drewN|apply below_drew1)|exact HB.out)) hb);clear HO_4;clear HO_6;clear HO249;clear HB;have HO_4:=n0_;have HO_6:=n1_;have HO249:=n2_;have HB:=n3_;clear n0_ n1_ n2_ n3_;(try clear hb))|(go_at_call 13;(with_reducible refine (fk_spec_SymbolByte.calls k2 t250 t252 _ A42.out).mono ?_);rintro e w59 ⟨rfl,hb⟩;have n0_:=Aside0.mk (Kd.R_below (by (with_reducible repeat (first|apply Kd.R_alloc|apply Kd.R_drewN|apply Kd.R_drew));exact HO_4.out) hb);have n1_:=Aside0.mk (Kd.R_below (by (with_reducible repeat (first|apply Kd.R_alloc|apply Kd.R_drewN|apply Kd.R_drew));exact HO_6.out) hb);have n2_:=Aside0.mk (Kd.R_below (by (with_reducible repeat (first|apply Kd.R_alloc|apply Kd.R_drewN|apply Kd.R_drew));exact HO249.out) hb);have n3_:=Aside0.mk (below_step (by repeat (first|(with_reducible first|exact HB.out|apply below_alloc|apply pw_below_drewN|apply below_drew1)|exact HB.out)) hb);clear HO_4;clear HO_6;clear HO249;clear HB;have HO_4:=n0_;have HO_6:=n1_;have HO249:=n2_;have HB:=n3_;clear n0_ n1_ n2_ n3_;(try clear hb))|(go_at_call 14;(with_reducible refine (impl_SymbolByte.calls k2 43 false _ A45.out).mono ?_);rintro e w60 ⟨rfl,hb⟩;have n0_:=Aside0.mk (Kd.R_below (by (with_reducible repeat (first|apply Kd.R_alloc|apply Kd.R_drewN|apply Kd.R_drew));exact HO_4.out) hb);have n1_:=Aside0.mk (Kd.R_below (by (with_reducible repeat (first|apply Kd.R_alloc|apply Kd.R_drewN|apply Kd.R_drew));exact HO_6.out) hb);have n2_:=Aside0.mk (Kd.R_below (by (with_reducible repeat (first|apply Kd.R_alloc|apply Kd.R_drewN|apply Kd.R_drew));exact HO249.out) hb);have n3_:=Aside0.mk (below_step (by repeat (first|(with_reducible first|exact HB.out|apply below_alloc|apply pw_below_drewN|apply below_drew1)|exact HB.out)) hb);clear HO_4;clear HO_6;clear HO249;clear HB;have HO_4:=n0_;have HO_6:=n1_;have HO249:=n2_;have HB:=n3_;clear n0_ n1_ n2_ n3_;(try clear hb))))
           go_ret
           exact ⟨by first|rfl|(simp [errW_none,errW_some] <;> rfl)|(simp [*,errW_none,errW_some] <;> rfl),by repeat (first|(with_reducible first|exact HB.out|apply below_alloc|apply pw_below_drewN|apply below_drew1)|exact HB.out)⟩
         ·rw [if_neg c44] at H
          have c44b0 : decide (2900 < (t231.size : Int)) = false:=decide_eq_false c44
          have c44b1 : decide (2900 < t231.size) = false:=decide_eq_false (by omega)
          clear c44
          by_cases c61 : (t246.length : Int) = (t232.length : Int)
          ·rw [if_pos c61] at H
           have c61b0 : ((t246.length : Int) == (t232.length : Int)) = true:=beq_iff_eq.mpr c61
           have c61b1 : ((t246.length : Int) != (t232.length : Int)) = false:=bne_eq_false_iff_eq.mpr c61
           have c61b2 : (t246.length == t232.length) = true:=by first|simpa using c61|(simp at c61 ⊢;omega)
           clear c61
           replace H:=Option.bind_eq_some_iff.mp H
           obtain ⟨t255,A620,H⟩:=H
           replace H : (if t255 = true then ((impl_SymbolByte.f k2 97).bind fun t256 => (some (!t256))) else (some false)) = some r:=H
           have A62:=Aside0.mk A620
           clear A620
           by_cases c63 : t255 = true
           ·subst c63
            have H1 : ((impl_SymbolByte.f k2 97).bind fun t256 => (some (!t256))) = some r:=by rw [if_pos rfl] at H;exact H
            clear H
            have H:=H1
            clear H1
            replace H:=Option.bind_eq_some_iff.mp H
            obtain ⟨t256,A640,H⟩:=H
            replace H : (some (!t256)) = some r:=H
            have A64:=Aside0.mk A640
            clear A640
            obtain rfl:=Option.some.inj H
            obtain ⟨Ao65,co65,eo65⟩:=Kd.R_slice HO_4.out
            subst eo65
            go_wp2_with (first|(go_at_call 32;(with_reducible refine (impl_SignsOf.calls k2 ((⟨#[37,32,115,97,105,100,10]⟩ : ByteArray) ++ t231) t246 t247 _ A39.out).mono ?_);rintro e w66 ⟨v248,rfl,ho0,hb⟩;have n0_:=Aside0.mk (Kd.R_elder' (by (with_reducible repeat (first|apply Kd.R_alloc|apply Kd.R_drewN|apply Kd.R_drew));exact HO_4.out) (Kd.R_base ho0) hb);have n1_:=Aside0.mk (Kd.R_elder' (by (with_reducible repeat (first|apply Kd.R_alloc|apply Kd.R_drewN|apply Kd.R_drew));exact HO_6.out) (Kd.R_base ho0) hb);have n2_:=Aside0.mk (Kd.R_lower (Kd.R_new' (Kd.R_new' ho0 (Kd.R_lt (by (with_reducible repeat (first|apply Kd.R_alloc|apply Kd.R_drewN|apply Kd.R_drew));exact HO_4.out))) (Kd.R_lt (by (with_reducible repeat (first|apply Kd.R_alloc|apply Kd.R_drewN|apply Kd.R_drew));exact HO_6.out))) (below_size (by repeat (first|(with_reducible first|exact HB.out|apply below_alloc|apply pw_below_drewN|apply below_drew1)|exact HB.out))));have n3_:=Aside0.mk (below_step (by repeat (first|(with_reducible first|exact HB.out|apply below_alloc|apply pw_below_drewN|apply below_drew1)|exact HB.out)) hb);clear HO_4;clear HO_6;clear HB;have HO_4:=n0_;have HO_6:=n1_;have HO249:=n2_;have HB:=n3_;clear n0_ n1_ n2_ n3_;(try clear hb);(try clear hb2);(try clear hk);(try clear hi);(try clear ho0))|(go_at_call 39;(with_reducible refine (spec_DrawSymbolByte.calls k2 _ _ l0 t250 _ ?side1 ?side2 A40.out).mono ?_);(case side1 => repeat (first|exact (Kd.C_below HR0.out HB.out)|(with_reducible refine Kd.C_alloc ?_ _)|(with_reducible refine Kd.C_drewN ?_ _)|(with_reducible refine Kd.C_drew ?_)));(case side2 => exact HC0.out);rintro e w67 ⟨rfl,hb⟩;have n0_:=Aside0.mk (Kd.R_below (by (with_reducible repeat (first|apply Kd.R_alloc|apply Kd.R_drewN|apply Kd.R_drew));exact HO_4.out) hb);have n1_:=Aside0.mk (Kd.R_below (by (with_reducible repeat (first|apply Kd.R_alloc|apply Kd.R_drewN|apply Kd.R_drew));exact HO_6.out) hb);have n2_:=Aside0.mk (Kd.R_below (by (with_reducible repeat (first|apply Kd.R_alloc|apply Kd.R_drewN|apply Kd.R_drew));exact HO249.out) hb);have n3_:=Aside0.mk (below_step (by repeat (first|(with_reducible first|exact HB.out|apply below_alloc|apply pw_below_drewN|apply below_drew1)|exact HB.out)) hb);clear HO_4;clear HO_6;clear HO249;clear HB;have HO_4:=n0_;have HO_6:=n1_;have HO249:=n2_;have HB:=n3_;clear n0_ n1_ n2_ n3_;(try clear hb))|(go_at_call 14;(with_reducible refine (impl_SymbolByte.calls k2 t250 t251 _ A41.out).mono ?_);rintro e w68 ⟨rfl,hb⟩;have n0_:=Aside0.mk (Kd.R_below (by (with_reducible repeat (first|apply Kd.R_alloc|apply Kd.R_drewN|apply Kd.R_drew));exact HO_4.out) hb);have n1_:=Aside0.mk (Kd.R_below (by (with_reducible repeat (first|apply Kd.R_alloc|apply Kd.R_drewN|apply Kd.R_drew));exact HO_6.out) hb);have n2_:=Aside0.mk (Kd.R_below (by (with_reducible repeat (first|apply Kd.R_alloc|apply Kd.R_drewN|apply Kd.R_drew));exact HO249.out) hb);have n3_:=Aside0.mk (below_step (by repeat (first|(with_reducible first|exact HB.out|apply below_alloc|apply pw_below_drewN|apply below_drew1)|exact HB.out)) hb);clear HO_4;clear HO_6;clear HO249;clear HB;have HO_4:=n0_;have HO_6:=n1_;have HO249:=n2_;have HB:=n3_;clear n0_ n1_ n2_ n3_;(try clear hb))|(go_at_call 13;(with_reducible refine (fk_spec_SymbolByte.calls k2 t250 t252 _ A42.out).mono ?_);rintro e w69 ⟨rfl,hb⟩;have n0_:=Aside0.mk (Kd.R_below (by (with_reducible repeat (first|apply Kd.R_alloc|apply Kd.R_drewN|apply Kd.R_drew));exact HO_4.out) hb);have n1_:=Aside0.mk (Kd.R_below (by (with_reducible repeat (first|apply Kd.R_alloc|apply Kd.R_drewN|apply Kd.R_drew));exact HO_6.out) hb);have n2_:=Aside0.mk (Kd.R_below (by (with_reducible repeat (first|apply Kd.R_alloc|apply Kd.R_drewN|apply Kd.R_drew));exact HO249.out) hb);have n3_:=Aside0.mk (below_step (by repeat (first|(with_reducible first|exact HB.out|apply below_alloc|apply pw_below_drewN|apply below_drew1)|exact HB.out)) hb);clear HO_4;clear HO_6;clear HO249;clear HB;have HO_4:=n0_;have HO_6:=n1_;have HO249:=n2_;have HB:=n3_;clear n0_ n1_ n2_ n3_;(try clear hb);(try clear hb2);(try clear hk);(try clear hi);obtain ⟨Ao70,co70,eo70⟩:=Kd.R_slice HO249.out;subst eo70)|(go_at_call 14;(with_reducible refine (impl_SymbolByte.calls k2 43 true _ A62.out).mono ?_);rintro e w71 ⟨rfl,hb⟩;have n0_:=Aside0.mk (Kd.R_below (by (with_reducible repeat (first|apply Kd.R_alloc|apply Kd.R_drewN|apply Kd.R_drew));exact HO_4.out) hb);have n1_:=Aside0.mk (Kd.R_below (by (with_reducible repeat (first|apply Kd.R_alloc|apply Kd.R_drewN|apply Kd.R_drew));exact HO_6.out) hb);have n2_:=Aside0.mk (Kd.R_below (by (with_reducible repeat (first|apply Kd.R_alloc|apply Kd.R_drewN|apply Kd.R_drew));exact HO249.out) hb);have n3_:=Aside0.mk (below_step (by repeat (first|(with_reducible first|exact HB.out|apply below_alloc|apply pw_below_drewN|apply below_drew1)|exact HB.out)) hb);clear HO_4;clear HO_6;clear HO249;clear HB;have HO_4:=n0_;have HO_6:=n1_;have HO249:=n2_;have HB:=n3_;clear n0_ n1_ n2_ n3_;(try clear hb))|(go_at_call 14;(with_reducible refine (impl_SymbolByte.calls k2 97 t256 _ A64.out).mono ?_);rintro e w72 ⟨rfl,hb⟩;have n0_:=Aside0.mk (Kd.R_below (by (with_reducible repeat (first|apply Kd.R_alloc|apply Kd.R_drewN|apply Kd.R_drew));exact HO_4.out) hb);have n1_:=Aside0.mk (Kd.R_below (by (with_reducible repeat (first|apply Kd.R_alloc|apply Kd.R_drewN|apply Kd.R_drew));exact HO_6.out) hb);have n2_:=Aside0.mk (Kd.R_below (by (with_reducible repeat (first|apply Kd.R_alloc|apply Kd.R_drewN|apply Kd.R_drew));exact HO249.out) hb);have n3_:=Aside0.mk (below_step (by repeat (first|(with_reducible first|exact HB.out|apply below_alloc|apply pw_below_drewN|apply below_drew1)|exact HB.out)) hb);clear HO_4;clear HO_6;clear HO249;clear HB;have HO_4:=n0_;have HO_6:=n1_;have HO249:=n2_;have HB:=n3_;clear n0_ n1_ n2_ n3_;(try clear hb)))
            repeat (go_quiet (first|(go_at_call 32;(with_reducible refine (impl_SignsOf.calls k2 ((⟨#[37,32,115,97,105,100,10]⟩ : ByteArray) ++ t231) t246 t247 _ A39.out).mono ?_);rintro e w66 ⟨v248,rfl,ho0,hb⟩;have n0_:=Aside0.mk (Kd.R_elder' (by (with_reducible repeat (first|apply Kd.R_alloc|apply Kd.R_drewN|apply Kd.R_drew));exact HO_4.out) (Kd.R_base ho0) hb);have n1_:=Aside0.mk (Kd.R_elder' (by (with_reducible repeat (first|apply Kd.R_alloc|apply Kd.R_drewN|apply Kd.R_drew));exact HO_6.out) (Kd.R_base ho0) hb);have n2_:=Aside0.mk (Kd.R_lower (Kd.R_new' (Kd.R_new' ho0 (Kd.R_lt (by (with_reducible repeat (first|apply Kd.R_alloc|apply Kd.R_drewN|apply Kd.R_drew));exact HO_4.out))) (Kd.R_lt (by (with_reducible repeat (first|apply Kd.R_alloc|apply Kd.R_drewN|apply Kd.R_drew));exact HO_6.out))) (below_size (by repeat (first|(with_reducible first|exact HB.out|apply below_alloc|apply pw_below_drewN|apply below_drew1)|exact HB.out))));have n3_:=Aside0.mk (below_step (by repeat (first|(with_reducible first|exact HB.out|apply below_alloc|apply pw_below_drewN|apply below_drew1)|exact HB.out)) hb);clear HO_4;clear HO_6;clear HB;have HO_4:=n0_;have HO_6:=n1_;have HO249:=n2_;have HB:=n3_;clear n0_ n1_ n2_ n3_;(try clear hb);(try clear hb2);(try clear hk);(try clear hi);(try clear ho0))|(go_at_call 39;(with_reducible refine (spec_DrawSymbolByte.calls k2 _ _ l0 t250 _ ?side1 ?side2 A40.out).mono ?_);(case side1 => repeat (first|exact (Kd.C_below HR0.out HB.out)|(with_reducible refine Kd.C_alloc ?_ _)|(with_reducible refine Kd.C_drewN ?_ _)|(with_reducible refine Kd.C_drew ?_)));(case side2 => exact HC0.out);rintro e w67 ⟨rfl,hb⟩;have n0_:=Aside0.mk (Kd.R_below (by (with_reducible repeat (first|apply Kd.R_alloc|apply Kd.R_drewN|apply Kd.R_drew));exact HO_4.out) hb);have n1_:=Aside0.mk (Kd.R_below (by (with_reducible repeat (first|apply Kd.R_alloc|apply Kd.R_drewN|apply Kd.R_drew));exact HO_6.out) hb);have n2_:=Aside0.mk (Kd.R_below (by (with_reducible repeat (first|apply Kd.R_alloc|apply Kd.R_drewN|apply Kd.R_drew));exact HO249.out) hb);have n3_:=Aside0.mk (below_step (by repeat (first|(with_reducible first|exact HB.out|apply below_alloc|apply pw_below_drewN|apply below_drew1)|exact HB.out)) hb);clear HO_4;clear HO_6;clear HO249;clear HB;have HO_4:=n0_;have HO_6:=n1_;have HO249:=n2_;have HB:=n3_;clear n0_ n1_ n2_ n3_;(try clear hb))|(go_at_call 14;(with_reducible refine (impl_SymbolByte.calls k2 t250 t251 _ A41.out).mono ?_);rintro e w68 ⟨rfl,hb⟩;have n0_:=Aside0.mk (Kd.R_below (by (with_reducible repeat (first|apply Kd.R_alloc|apply Kd.R_drewN|apply Kd.R_drew));exact HO_4.out) hb);have n1_:=Aside0.mk (Kd.R_below (by (with_reducible repeat (first|apply Kd.R_alloc|apply Kd.R_drewN|apply Kd.R_drew));exact HO_6.out) hb);have n2_:=Aside0.mk (Kd.R_below (by (with_reducible repeat (first|apply Kd.R_alloc|apply Kd.R_drewN|apply Kd.R_drew));exact HO249.out) hb);have n3_:=Aside0.mk (below_step (by repeat (first|(with_reducible first|exact HB.out|apply below_alloc|apply pw_below_drewN|apply below_drew1)|exact HB.out)) hb);clear HO_4;clear HO_6;clear HO249;clear HB;have HO_4:=n0_;have HO_6:=n1_;have HO249:=n2_;have HB:=n3_;clear n0_ n1_ n2_ n3_;(try clear hb))|(go_at_call 13;(with_reducible refine (fk_spec_SymbolByte.calls k2 t250 t252 _ A42.out).mono ?_);rintro e w69 ⟨rfl,hb⟩;have n0_:=Aside0.mk (Kd.R_below (by (with_reducible repeat (first|apply Kd.R_alloc|apply Kd.R_drewN|apply Kd.R_drew));exact HO_4.out) hb);have n1_:=Aside0.mk (Kd.R_below (by (with_reducible repeat (first|apply Kd.R_alloc|apply Kd.R_drewN|apply Kd.R_drew));exact HO_6.out) hb);have n2_:=Aside0.mk (Kd.R_below (by (with_reducible repeat (first|apply Kd.R_alloc|apply Kd.R_drewN|apply Kd.R_drew));exact HO249.out) hb);have n3_:=Aside0.mk (below_step (by repeat (first|(with_reducible first|exact HB.out|apply below_alloc|apply pw_below_drewN|apply below_drew1)|exact HB.out)) hb);clear HO_4;clear HO_6;clear HO249;clear HB;have HO_4:=n0_;have HO_6:=n1_;have HO249:=n2_;have HB:=n3_;clear n0_ n1_ n2_ n3_;(try clear hb);(try clear hb2);(try clear hk);(try clear hi);obtain ⟨Ao70,co70,eo70⟩:=Kd.R_slice HO249.out;subst eo70)|(go_at_call 14;(with_reducible refine (impl_SymbolByte.calls k2 43 true _ A62.out).mono ?_);rintro e w71 ⟨rfl,hb⟩;have n0_:=Aside0.mk (Kd.R_below (by (with_reducible repeat (first|apply Kd.R_alloc|apply Kd.R_drewN|apply Kd.R_drew));exact HO_4.out) hb);have n1_:=Aside0.mk (Kd.R_below (by (with_reducible repeat (first|apply Kd.R_alloc|apply Kd.R_drewN|apply Kd.R_drew));exact HO_6.out) hb);have n2_:=Aside0.mk (Kd.R_below (by (with_reducible repeat (first|apply Kd.R_alloc|apply Kd.R_drewN|apply Kd.R_drew));exact HO249.out) hb);have n3_:=Aside0.mk (below_step (by repeat (first|(with_reducible first|exact HB.out|apply below_alloc|apply pw_below_drewN|apply below_drew1)|exact HB.out)) hb);clear HO_4;clear HO_6;clear HO249;clear HB;have HO_4:=n0_;have HO_6:=n1_;have HO249:=n2_;have HB:=n3_;clear n0_ n1_ n2_ n3_;(try clear hb))|(go_at_call 14;(with_reducible refine (impl_SymbolByte.calls k2 97 t256 _ A64.out).mono ?_);rintro e w72 ⟨rfl,hb⟩;have n0_:=Aside0.mk (Kd.R_below (by (with_reducible repeat (first|apply Kd.R_alloc|apply Kd.R_drewN|apply Kd.R_drew));exact HO_4.out) hb);have n1_:=Aside0.mk (Kd.R_below (by (with_reducible repeat (first|apply Kd.R_alloc|apply Kd.R_drewN|apply Kd.R_drew));exact HO_6.out) hb);have n2_:=Aside0.mk (Kd.R_below (by (with_reducible repeat (first|apply Kd.R_alloc|apply Kd.R_drewN|apply Kd.R_drew));exact HO249.out) hb);have n3_:=Aside0.mk (below_step (by repeat (first|(with_reducible first|exact HB.out|apply below_alloc|apply pw_below_drewN|apply below_drew1)|exact HB.out)) hb);clear HO_4;clear HO_6;clear HO249;clear HB;have HO_4:=n0_;have HO_6:=n1_;have HO249:=n2_;have HB:=n3_;clear n0_ n1_ n2_ n3_;(try clear hb)));try go_wp2_with (first|(go_at_call 32;(with_reducible refine (impl_SignsOf.calls k2 ((⟨#[37,32,115,97,105,100,10]⟩ : ByteArray) ++ t231) t246 t247 _ A39.out).mono ?_);rintro e w66 ⟨v248,rfl,ho0,hb⟩;have n0_:=Aside0.mk (Kd.R_elder' (by (with_reducible repeat (first|apply Kd.R_alloc|apply Kd.R_drewN|apply Kd.R_drew));exact HO_4.out) (Kd.R_base ho0) hb);have n1_:=Aside0.mk (Kd.R_elder' (by (with_reducible repeat (first|apply Kd.R_alloc|apply Kd.R_drewN|apply Kd.R_drew));exact HO_6.out) (Kd.R_base ho0) hb);have n2_:=Aside0.mk (Kd.R_lower (Kd.R_new' (Kd.R_new' ho0 (Kd.R_lt (by (with_reducible repeat (first|apply Kd.R_alloc|apply Kd.R_drewN|apply Kd.R_drew));exact HO_4.out))) (Kd.R_lt (by (with_reducible repeat (first|apply Kd.R_alloc|apply Kd.R_drewN|apply Kd.R_drew));exact HO_6.out))) (below_size (by repeat (first|(with_reducible first|exact HB.out|apply below_alloc|apply pw_below_drewN|apply below_drew1)|exact HB.out))));have n3_:=Aside0.mk (below_step (by repeat (first|(with_reducible first|exact HB.out|apply below_alloc|apply pw_below_drewN|apply below_drew1)|exact HB.out)) hb);clear HO_4;clear HO_6;clear HB;have HO_4:=n0_;have HO_6:=n1_;have HO249:=n2_;have HB:=n3_;clear n0_ n1_ n2_ n3_;(try clear hb);(try clear hb2);(try clear hk);(try clear hi);(try clear ho0))|(go_at_call 39;(with_reducible refine (spec_DrawSymbolByte.calls k2 _ _ l0 t250 _ ?side1 ?side2 A40.out).mono ?_);(case side1 => repeat (first|exact (Kd.C_below HR0.out HB.out)|(with_reducible refine Kd.C_alloc ?_ _)|(with_reducible refine Kd.C_drewN ?_ _)|(with_reducible refine Kd.C_drew ?_)));(case side2 => exact HC0.out);rintro e w67 ⟨rfl,hb⟩;have n0_:=Aside0.mk (Kd.R_below (by (with_reducible repeat (first|apply Kd.R_alloc|apply Kd.R_drewN|apply Kd.R_drew));exact HO_4.out) hb);have n1_:=Aside0.mk (Kd.R_below (by (with_reducible repeat (first|apply Kd.R_alloc|apply Kd.R_drewN|apply Kd.R_drew));exact HO_6.out) hb);have n2_:=Aside0.mk (Kd.R_below (by (with_reducible repeat (first|apply Kd.R_alloc|apply Kd.R_drewN|apply Kd.R_drew));exact HO249.out) hb);have n3_:=Aside0.mk (below_step (by repeat (first|(with_reducible first|exact HB.out|apply below_alloc|apply pw_below_drewN|apply below_drew1)|exact HB.out)) hb);clear HO_4;clear HO_6;clear HO249;clear HB;have HO_4:=n0_;have HO_6:=n1_;have HO249:=n2_;have HB:=n3_;clear n0_ n1_ n2_ n3_;(try clear hb))|(go_at_call 14;(with_reducible refine (impl_SymbolByte.calls k2 t250 t251 _ A41.out).mono ?_);rintro e w68 ⟨rfl,hb⟩;have n0_:=Aside0.mk (Kd.R_below (by (with_reducible repeat (first|apply Kd.R_alloc|apply Kd.R_drewN|apply Kd.R_drew));exact HO_4.out) hb);have n1_:=Aside0.mk (Kd.R_below (by (with_reducible repeat (first|apply Kd.R_alloc|apply Kd.R_drewN|apply Kd.R_drew));exact HO_6.out) hb);have n2_:=Aside0.mk (Kd.R_below (by (with_reducible repeat (first|apply Kd.R_alloc|apply Kd.R_drewN|apply Kd.R_drew));exact HO249.out) hb);have n3_:=Aside0.mk (below_step (by repeat (first|(with_reducible first|exact HB.out|apply below_alloc|apply pw_below_drewN|apply below_drew1)|exact HB.out)) hb);clear HO_4;clear HO_6;clear HO249;clear HB;have HO_4:=n0_;have HO_6:=n1_;have HO249:=n2_;have HB:=n3_;clear n0_ n1_ n2_ n3_;(try clear hb))|(go_at_call 13;(with_reducible refine (fk_spec_SymbolByte.calls k2 t250 t252 _ A42.out).mono ?_);rintro e w69 ⟨rfl,hb⟩;have n0_:=Aside0.mk (Kd.R_below (by (with_reducible repeat (first|apply Kd.R_alloc|apply Kd.R_drewN|apply Kd.R_drew));exact HO_4.out) hb);have n1_:=Aside0.mk (Kd.R_below (by (with_reducible repeat (first|apply Kd.R_alloc|apply Kd.R_drewN|apply Kd.R_drew));exact HO_6.out) hb);have n2_:=Aside0.mk (Kd.R_below (by (with_reducible repeat (first|apply Kd.R_alloc|apply Kd.R_drewN|apply Kd.R_drew));exact HO249.out) hb);have n3_:=Aside0.mk (below_step (by repeat (first|(with_reducible first|exact HB.out|apply below_alloc|apply pw_below_drewN|apply below_drew1)|exact HB.out)) hb);clear HO_4;clear HO_6;clear HO249;clear HB;have HO_4:=n0_;have HO_6:=n1_;have HO249:=n2_;have HB:=n3_;clear n0_ n1_ n2_ n3_;(try clear hb);(try clear hb2);(try clear hk);(try clear hi);obtain ⟨Ao70,co70,eo70⟩:=Kd.R_slice HO249.out;subst eo70)|(go_at_call 14;(with_reducible refine (impl_SymbolByte.calls k2 43 true _ A62.out).mono ?_);rintro e w71 ⟨rfl,hb⟩;have n0_:=Aside0.mk (Kd.R_below (by (with_reducible repeat (first|apply Kd.R_alloc|apply Kd.R_drewN|apply Kd.R_drew));exact HO_4.out) hb);have n1_:=Aside0.mk (Kd.R_below (by (with_reducible repeat (first|apply Kd.R_alloc|apply Kd.R_drewN|apply Kd.R_drew));exact HO_6.out) hb);have n2_:=Aside0.mk (Kd.R_below (by (with_reducible repeat (first|apply Kd.R_alloc|apply Kd.R_drewN|apply Kd.R_drew));exact HO249.out) hb);have n3_:=Aside0.mk (below_step (by repeat (first|(with_reducible first|exact HB.out|apply below_alloc|apply pw_below_drewN|apply below_drew1)|exact HB.out)) hb);clear HO_4;clear HO_6;clear HO249;clear HB;have HO_4:=n0_;have HO_6:=n1_;have HO249:=n2_;have HB:=n3_;clear n0_ n1_ n2_ n3_;(try clear hb))|(go_at_call 14;(with_reducible refine (impl_SymbolByte.calls k2 97 t256 _ A64.out).mono ?_);rintro e w72 ⟨rfl,hb⟩;have n0_:=Aside0.mk (Kd.R_below (by (with_reducible repeat (first|apply Kd.R_alloc|apply Kd.R_drewN|apply Kd.R_drew));exact HO_4.out) hb);have n1_:=Aside0.mk (Kd.R_below (by (with_reducible repeat (first|apply Kd.R_alloc|apply Kd.R_drewN|apply Kd.R_drew));exact HO_6.out) hb);have n2_:=Aside0.mk (Kd.R_below (by (with_reducible repeat (first|apply Kd.R_alloc|apply Kd.R_drewN|apply Kd.R_drew));exact HO249.out) hb);have n3_:=Aside0.mk (below_step (by repeat (first|(with_reducible first|exact HB.out|apply below_alloc|apply pw_below_drewN|apply below_drew1)|exact HB.out)) hb);clear HO_4;clear HO_6;clear HO249;clear HB;have HO_4:=n0_;have HO_6:=n1_;have HO249:=n2_;have HB:=n3_;clear n0_ n1_ n2_ n3_;(try clear hb))))
            go_ret
            exact ⟨by first|rfl|(simp [errW_none,errW_some] <;> rfl)|(simp [*,errW_none,errW_some] <;> rfl),by repeat (first|(with_reducible first|exact HB.out|apply below_alloc|apply pw_below_drewN|apply below_drew1)|exact HB.out)⟩
           ·replace c63:=Bool.eq_false_iff.mpr c63
            subst c63
            have H1 : (some false) = some r:=by rw [if_neg (show ¬ (false = true) by decide)] at H;exact H
            clear H
            have H:=H1
            clear H1
            obtain rfl:=Option.some.inj H
            obtain ⟨Ao73,co73,eo73⟩:=Kd.R_slice HO_4.out
            subst eo73
            go_wp2_with (first|(go_at_call 32;(with_reducible refine (impl_SignsOf.calls k2 ((⟨#[37,32,115,97,105,100,10]⟩ : ByteArray) ++ t231) t246 t247 _ A39.out).mono ?_);rintro e w74 ⟨v248,rfl,ho0,hb⟩;have n0_:=Aside0.mk (Kd.R_elder' (by (with_reducible repeat (first|apply Kd.R_alloc|apply Kd.R_drewN|apply Kd.R_drew));exact HO_4.out) (Kd.R_base ho0) hb);have n1_:=Aside0.mk (Kd.R_elder' (by (with_reducible repeat (first|apply Kd.R_alloc|apply Kd.R_drewN|apply Kd.R_drew));exact HO_6.out) (Kd.R_base ho0) hb);have n2_:=Aside0.mk (Kd.R_lower (Kd.R_new' (Kd.R_new' ho0 (Kd.R_lt (by (with_reducible repeat (first|apply Kd.R_alloc|apply Kd.R_drewN|apply Kd.R_drew));exact HO_4.out))) (Kd.R_lt (by (with_reducible repeat (first|apply Kd.R_alloc|apply Kd.R_drewN|apply Kd.R_drew));exact HO_6.out))) (below_size (by repeat (first|(with_reducible first|exact HB.out|apply below_alloc|apply pw_below_drewN|apply below_drew1)|exact HB.out))));have n3_:=Aside0.mk (below_step (by repeat (first|(with_reducible first|exact HB.out|apply below_alloc|apply pw_below_drewN|apply below_drew1)|exact HB.out)) hb);clear HO_4;clear HO_6;clear HB;have HO_4:=n0_;have HO_6:=n1_;have HO249:=n2_;have HB:=n3_;clear n0_ n1_ n2_ n3_;(try clear hb);(try clear hb2);(try clear hk);(try clear hi);(try clear ho0))|(go_at_call 39;(with_reducible refine (spec_DrawSymbolByte.calls k2 _ _ l0 t250 _ ?side1 ?side2 A40.out).mono ?_);(case side1 => repeat (first|exact (Kd.C_below HR0.out HB.out)|(with_reducible refine Kd.C_alloc ?_ _)|(with_reducible refine Kd.C_drewN ?_ _)|(with_reducible refine Kd.C_drew ?_)));(case side2 => exact HC0.out);rintro e w75 ⟨rfl,hb⟩;have n0_:=Aside0.mk (Kd.R_below (by (with_reducible repeat (first|apply Kd.R_alloc|apply Kd.R_drewN|apply Kd.R_drew));exact HO_4.out) hb);have n1_:=Aside0.mk (Kd.R_below (by (with_reducible repeat (first|apply Kd.R_alloc|apply Kd.R_drewN|apply Kd.R_drew));exact HO_6.out) hb);have n2_:=Aside0.mk (Kd.R_below (by (with_reducible repeat (first|apply Kd.R_alloc|apply Kd.R_drewN|apply Kd.R_drew));exact HO249.out) hb);have n3_:=Aside0.mk (below_step (by repeat (first|(with_reducible first|exact HB.out|apply below_alloc|apply pw_below_drewN|apply below_drew1)|exact HB.out)) hb);clear HO_4;clear HO_6;clear HO249;clear HB;have HO_4:=n0_;have HO_6:=n1_;have HO249:=n2_;have HB:=n3_;clear n0_ n1_ n2_ n3_;(try clear hb))|(go_at_call 14;(with_reducible refine (impl_SymbolByte.calls k2 t250 t251 _ A41.out).mono ?_);rintro e w76 ⟨rfl,hb⟩;have n0_:=Aside0.mk (Kd.R_below (by (with_reducible repeat (first|apply Kd.R_alloc|apply Kd.R_drewN|apply Kd.R_drew));exact HO_4.out) hb);have n1_:=Aside0.mk (Kd.R_below (by (with_reducible repeat (first|apply Kd.R_alloc|apply Kd.R_drewN|apply Kd.R_drew));exact HO_6.out) hb);have n2_:=Aside0.mk (Kd.R_below (by (with_reducible repeat (first|apply Kd.R_alloc|apply Kd.R_drewN|apply Kd.R_drew));exact HO249.out) hb);have n3_:=Aside0.mk (below_step (by repeat (first|(with_reducible first|exact HB.out|apply below_alloc|apply pw_below_drewN|apply below_drew1)|exact HB.out)) hb);clear HO_4;clear HO_6;clear HO249;clear HB;have HO_4:=n0_;have HO_6:=n1_;have HO249:=n2_;have HB:=n3_;clear n0_ n1_ n2_ n3_;(try clear hb))|(go_at_call 13;(with_reducible refine (fk_spec_SymbolByte.calls k2 t250 t252 _ A42.out).mono ?_);rintro e w77 ⟨rfl,hb⟩;have n0_:=Aside0.mk (Kd.R_below (by (with_reducible repeat (first|apply Kd.R_alloc|apply Kd.R_drewN|apply Kd.R_drew));exact HO_4.out) hb);have n1_:=Aside0.mk (Kd.R_below (by (with_reducible repeat (first|apply Kd.R_alloc|apply Kd.R_drewN|apply Kd.R_drew));exact HO_6.out) hb);have n2_:=Aside0.mk (Kd.R_below (by (with_reducible repeat (first|apply Kd.R_alloc|apply Kd.R_drewN|apply Kd.R_drew));exact HO249.out) hb);have n3_:=Aside0.mk (below_step (by repeat (first|(with_reducible first|exact HB.out|apply below_alloc|apply pw_below_drewN|apply below_drew1)|exact HB.out)) hb);clear HO_4;clear HO_6;clear HO249;clear HB;have HO_4:=n0_;have HO_6:=n1_;have HO249:=n2_;have HB:=n3_;clear n0_ n1_ n2_ n3_;(try clear hb);(try clear hb2);(try clear hk);(try clear hi);obtain ⟨Ao78,co78,eo78⟩:=Kd.R_slice HO249.out;subst eo78)|(go_at_call 14;(with_reducible refine (impl_SymbolByte.calls k2 43 false _ A62.out).mono ?_);rintro e w79 ⟨rfl,hb⟩;have n0_:=Aside0.mk (Kd.R_below (by (with_reducible repeat (first|apply Kd.R_alloc|apply Kd.R_drewN|apply Kd.R_drew));exact HO_4.out) hb);have n1_:=Aside0.mk (Kd.R_below (by (with_reducible repeat (first|apply Kd.R_alloc|apply Kd.R_drewN|apply Kd.R_drew));exact HO_6.out) hb);have n2_:=Aside0.mk (Kd.R_below (by (with_reducible repeat (first|apply Kd.R_alloc|apply Kd.R_drewN|apply Kd.R_drew));exact HO249.out) hb);have n3_:=Aside0.mk (below_step (by repeat (first|(with_reducible first|exact HB.out|apply below_alloc|apply pw_below_drewN|apply below_drew1)|exact HB.out)) hb);clear HO_4;clear HO_6;clear HO249;clear HB;have HO_4:=n0_;have HO_6:=n1_;have HO249:=n2_;have HB:=n3_;clear n0_ n1_ n2_ n3_;(try clear hb)))
            repeat (go_quiet (first|(go_at_call 32;(with_reducible refine (impl_SignsOf.calls k2 ((⟨#[37,32,115,97,105,100,10]⟩ : ByteArray) ++ t231) t246 t247 _ A39.out).mono ?_);rintro e w74 ⟨v248,rfl,ho0,hb⟩;have n0_:=Aside0.mk (Kd.R_elder' (by (with_reducible repeat (first|apply Kd.R_alloc|apply Kd.R_drewN|apply Kd.R_drew));exact HO_4.out) (Kd.R_base ho0) hb);have n1_:=Aside0.mk (Kd.R_elder' (by (with_reducible repeat (first|apply Kd.R_alloc|apply Kd.R_drewN|apply Kd.R_drew));exact HO_6.out) (Kd.R_base ho0) hb);have n2_:=Aside0.mk (Kd.R_lower (Kd.R_new' (Kd.R_new' ho0 (Kd.R_lt (by (with_reducible repeat (first|apply Kd.R_alloc|apply Kd.R_drewN|apply Kd.R_drew));exact HO_4.out))) (Kd.R_lt (by (with_reducible repeat (first|apply Kd.R_alloc|apply Kd.R_drewN|apply Kd.R_drew));exact HO_6.out))) (below_size (by repeat (first|(with_reducible first|exact HB.out|apply below_alloc|apply pw_below_drewN|apply below_drew1)|exact HB.out))));have n3_:=Aside0.mk (below_step (by repeat (first|(with_reducible first|exact HB.out|apply below_alloc|apply pw_below_drewN|apply below_drew1)|exact HB.out)) hb);clear HO_4;clear HO_6;clear HB;have HO_4:=n0_;have HO_6:=n1_;have HO249:=n2_;have HB:=n3_;clear n0_ n1_ n2_ n3_;(try clear hb);(try clear hb2);(try clear hk);(try clear hi);(try clear ho0))|(go_at_call 39;(with_reducible refine (spec_DrawSymbolByte.calls k2 _ _ l0 t250 _ ?side1 ?side2 A40.out).mono ?_);(case side1 => repeat (first|exact (Kd.C_below HR0.out HB.out)|(with_reducible refine Kd.C_alloc ?_ _)|(with_reducible refine Kd.C_drewN ?_ _)|(with_reducible refine Kd.C_drew ?_)));(case side2 => exact HC0.out);rintro e w75 ⟨rfl,hb⟩;have n0_:=Aside0.mk (Kd.R_below (by (with_reducible repeat (first|apply Kd.R_alloc|apply Kd.R_drewN|apply Kd.R_drew));exact HO_4.out) hb);have n1_:=Aside0.mk (Kd.R_below (by (with_reducible repeat (first|apply Kd.R_alloc|apply Kd.R_drewN|apply Kd.R_drew));exact HO_6.out) hb);have n2_:=Aside0.mk (Kd.R_below (by (with_reducible repeat (first|apply Kd.R_alloc|apply Kd.R_drewN|apply Kd.R_drew));exact HO249.out) hb);have n3_:=Aside0.mk (below_step (by repeat (first|(with_reducible first|exact HB.out|apply below_alloc|apply pw_below_drewN|apply below_drew1)|exact HB.out)) hb);clear HO_4;clear HO_6;clear HO249;clear HB;have HO_4:=n0_;have HO_6:=n1_;have HO249:=n2_;have HB:=n3_;clear n0_ n1_ n2_ n3_;(try clear hb))|(go_at_call 14;(with_reducible refine (impl_SymbolByte.calls k2 t250 t251 _ A41.out).mono ?_);rintro e w76 ⟨rfl,hb⟩;have n0_:=Aside0.mk (Kd.R_below (by (with_reducible repeat (first|apply Kd.R_alloc|apply Kd.R_drewN|apply Kd.R_drew));exact HO_4.out) hb);have n1_:=Aside0.mk (Kd.R_below (by (with_reducible repeat (first|apply Kd.R_alloc|apply Kd.R_drewN|apply Kd.R_drew));exact HO_6.out) hb);have n2_:=Aside0.mk (Kd.R_below (by (with_reducible repeat (first|apply Kd.R_alloc|apply Kd.R_drewN|apply Kd.R_drew));exact HO249.out) hb);have n3_:=Aside0.mk (below_step (by repeat (first|(with_reducible first|exact HB.out|apply below_alloc|apply pw_below_drewN|apply below_drew1)|exact HB.out)) hb);clear HO_4;clear HO_6;clear HO249;clear HB;have HO_4:=n0_;have HO_6:=n1_;have HO249:=n2_;have HB:=n3_;clear n0_ n1_ n2_ n3_;(try clear hb))|(go_at_call 13;(with_reducible refine (fk_spec_SymbolByte.calls k2 t250 t252 _ A42.out).mono ?_);rintro e w77 ⟨rfl,hb⟩;have n0_:=Aside0.mk (Kd.R_below (by (with_reducible repeat (first|apply Kd.R_alloc|apply Kd.R_drewN|apply Kd.R_drew));exact HO_4.out) hb);have n1_:=Aside0.mk (Kd.R_below (by (with_reducible repeat (first|apply Kd.R_alloc|apply Kd.R_drewN|apply Kd.R_drew));exact HO_6.out) hb);have n2_:=Aside0.mk (Kd.R_below (by (with_reducible repeat (first|apply Kd.R_alloc|apply Kd.R_drewN|apply Kd.R_drew));exact HO249.out) hb);have n3_:=Aside0.mk (below_step (by repeat (first|(with_reducible first|exact HB.out|apply below_alloc|apply pw_below_drewN|apply below_drew1)|exact HB.out)) hb);clear HO_4;clear HO_6;clear HO249;clear HB;have HO_4:=n0_;have HO_6:=n1_;have HO249:=n2_;have HB:=n3_;clear n0_ n1_ n2_ n3_;(try clear hb);(try clear hb2);(try clear hk);(try clear hi);obtain ⟨Ao78,co78,eo78⟩:=Kd.R_slice HO249.out;subst eo78)|(go_at_call 14;(with_reducible refine (impl_SymbolByte.calls k2 43 false _ A62.out).mono ?_);rintro e w79 ⟨rfl,hb⟩;have n0_:=Aside0.mk (Kd.R_below (by (with_reducible repeat (first|apply Kd.R_alloc|apply Kd.R_drewN|apply Kd.R_drew));exact HO_4.out) hb);have n1_:=Aside0.mk (Kd.R_below (by (with_reducible repeat (first|apply Kd.R_alloc|apply Kd.R_drewN|apply Kd.R_drew));exact HO_6.out) hb);have n2_:=Aside0.mk (Kd.R_below (by (with_reducible repeat (first|apply Kd.R_alloc|apply Kd.R_drewN|apply Kd.R_drew));exact HO249.out) hb);have n3_:=Aside0.mk (below_step (by repeat (first|(with_reducible first|exact HB.out|apply below_alloc|apply pw_below_drewN|apply below_drew1)|exact HB.out)) hb);clear HO_4;clear HO_6;clear HO249;clear HB;have HO_4:=n0_;have HO_6:=n1_;have HO249:=n2_;have HB:=n3_;clear n0_ n1_ n2_ n3_;(try clear hb)));try go_wp2_with (first|(go_at_call 32;(with_reducible refine (impl_SignsOf.calls k2 ((⟨#[37,32,115,97,105,100,10]⟩ : ByteArray) ++ t231) t246 t247 _ A39.out).mono ?_);rintro e w74 ⟨v248,rfl,ho0,hb⟩;have n0_:=Aside0.mk (Kd.R_elder' (by (with_reducible repeat (first|apply Kd.R_alloc|apply Kd.R_drewN|apply Kd.R_drew));exact HO_4.out) (Kd.R_base ho0) hb);have n1_:=Aside0.mk (Kd.R_elder' (by (with_reducible repeat (first|apply Kd.R_alloc|apply Kd.R_drewN|apply Kd.R_drew));exact HO_6.out) (Kd.R_base ho0) hb);have n2_:=Aside0.mk (Kd.R_lower (Kd.R_new' (Kd.R_new' ho0 (Kd.R_lt (by (with_reducible repeat (first|apply Kd.R_alloc|apply Kd.R_drewN|apply Kd.R_drew));exact HO_4.out))) (Kd.R_lt (by (with_reducible repeat (first|apply Kd.R_alloc|apply Kd.R_drewN|apply Kd.R_drew));exact HO_6.out))) (below_size (by repeat (first|(with_reducible first|exact HB.out|apply below_alloc|apply pw_below_drewN|apply below_drew1)|exact HB.out))));have n3_:=Aside0.mk (below_step (by repeat (first|(with_reducible first|exact HB.out|apply below_alloc|apply pw_below_drewN|apply below_drew1)|exact HB.out)) hb);clear HO_4;clear HO_6;clear HB;have HO_4:=n0_;have HO_6:=n1_;have HO249:=n2_;have HB:=n3_;clear n0_ n1_ n2_ n3_;(try clear hb);(try clear hb2);(try clear hk);(try clear hi);(try clear ho0))|(go_at_call 39;(with_reducible refine (spec_DrawSymbolByte.calls k2 _ _ l0 t250 _ ?side1 ?side2 A40.out).mono ?_);(case side1 => repeat (first|exact (Kd.C_below HR0.out HB.out)|(with_reducible refine Kd.C_alloc ?_ _)|(with_reducible refine Kd.C_drewN ?_ _)|(with_reducible refine Kd.C_drew ?_)));(case side2 => exact HC0.out);rintro e w75 ⟨rfl,hb⟩;have n0_:=Aside0.mk (Kd.R_below (by (with_reducible repeat (first|apply Kd.R_alloc|apply Kd.R_drewN|apply Kd.R_drew));exact HO_4.out) hb);have n1_:=Aside0.mk (Kd.R_below (by (with_reducible repeat (first|apply Kd.R_alloc|apply Kd.R_drewN|apply Kd.R_drew));exact HO_6.out) hb);have n2_:=Aside0.mk (Kd.R_below (by (with_reducible repeat (first|apply Kd.R_alloc|apply Kd.R_drewN|apply Kd.R_drew));exact HO249.out) hb);have n3_:=Aside0.mk (below_step (by repeat (first|(with_reducible first|exact HB.out|apply below_alloc|apply pw_below_drewN|apply below_drew1)|exact HB.out)) hb);clear HO_4;clear HO_6;clear HO249;clear HB;have HO_4:=n0_;have HO_6:=n1_;have HO249:=n2_;have HB:=n3_;clear n0_ n1_ n2_ n3_;(try clear hb))|(go_at_call 14;(with_reducible refine (impl_SymbolByte.calls k2 t250 t251 _ A41.out).mono ?_);rintro e w76 ⟨rfl,hb⟩;have n0_:=Aside0.mk (Kd.R_below (by (with_reducible repeat (first|apply Kd.R_alloc|apply Kd.R_drewN|apply Kd.R_drew));exact HO_4.out) hb);have n1_:=Aside0.mk (Kd.R_below (by (with_reducible repeat (first|apply Kd.R_alloc|apply Kd.R_drewN|apply Kd.R_drew));exact HO_6.out) hb);have n2_:=Aside0.mk (Kd.R_below (by (with_reducible repeat (first|apply Kd.R_alloc|apply Kd.R_drewN|apply Kd.R_drew));exact HO249.out) hb);have n3_:=Aside0.mk (below_step (by repeat (first|(with_reducible first|exact HB.out|apply below_alloc|apply pw_below_drewN|apply below_drew1)|exact HB.out)) hb);clear HO_4;clear HO_6;clear HO249;clear HB;have HO_4:=n0_;have HO_6:=n1_;have HO249:=n2_;have HB:=n3_;clear n0_ n1_ n2_ n3_;(try clear hb))|(go_at_call 13;(with_reducible refine (fk_spec_SymbolByte.calls k2 t250 t252 _ A42.out).mono ?_);rintro e w77 ⟨rfl,hb⟩;have n0_:=Aside0.mk (Kd.R_below (by (with_reducible repeat (first|apply Kd.R_alloc|apply Kd.R_drewN|apply Kd.R_drew));exact HO_4.out) hb);have n1_:=Aside0.mk (Kd.R_below (by (with_reducible repeat (first|apply Kd.R_alloc|apply Kd.R_drewN|apply Kd.R_drew));exact HO_6.out) hb);have n2_:=Aside0.mk (Kd.R_below (by (with_reducible repeat (first|apply Kd.R_alloc|apply Kd.R_drewN|apply Kd.R_drew));exact HO249.out) hb);have n3_:=Aside0.mk (below_step (by repeat (first|(with_reducible first|exact HB.out|apply below_alloc|apply pw_below_drewN|apply below_drew1)|exact HB.out)) hb);clear HO_4;clear HO_6;clear HO249;clear HB;have HO_4:=n0_;have HO_6:=n1_;have HO249:=n2_;have HB:=n3_;clear n0_ n1_ n2_ n3_;(try clear hb);(try clear hb2);(try clear hk);(try clear hi);obtain ⟨Ao78,co78,eo78⟩:=Kd.R_slice HO249.out;subst eo78)|(go_at_call 14;(with_reducible refine (impl_SymbolByte.calls k2 43 false _ A62.out).mono ?_);rintro e w79 ⟨rfl,hb⟩;have n0_:=Aside0.mk (Kd.R_below (by (with_reducible repeat (first|apply Kd.R_alloc|apply Kd.R_drewN|apply Kd.R_drew));exact HO_4.out) hb);have n1_:=Aside0.mk (Kd.R_below (by (with_reducible repeat (first|apply Kd.R_alloc|apply Kd.R_drewN|apply Kd.R_drew));exact HO_6.out) hb);have n2_:=Aside0.mk (Kd.R_below (by (with_reducible repeat (first|apply Kd.R_alloc|apply Kd.R_drewN|apply Kd.R_drew));exact HO249.out) hb);have n3_:=Aside0.mk (below_step (by repeat (first|(with_reducible first|exact HB.out|apply below_alloc|apply pw_below_drewN|apply below_drew1)|exact HB.out)) hb);clear HO_4;clear HO_6;clear HO249;clear HB;have HO_4:=n0_;have HO_6:=n1_;have HO249:=n2_;have HB:=n3_;clear n0_ n1_ n2_ n3_;(try clear hb))))
            go_ret
            exact ⟨by first|rfl|(simp [errW_none,errW_some] <;> rfl)|(simp [*,errW_none,errW_some] <;> rfl),by repeat (first|(with_reducible first|exact HB.out|apply below_alloc|apply pw_below_drewN|apply below_drew1)|exact HB.out)⟩
          ·rw [if_neg c61] at H
           have c61b0 : ((t246.length : Int) == (t232.length : Int)) = false:=beq_eq_false_iff_ne.mpr c61
           have c61b1 : ((t246.length : Int) != (t232.length : Int)) = true:=bne_iff_ne.mpr c61
           have c61b2 : (t246.length == t232.length) = false:=by first|simpa using c61|(simp at c61 ⊢;omega)
           obtain rfl:=Option.some.inj H
           obtain ⟨Ao80,co80,eo80⟩:=Kd.R_slice HO_4.out
           subst eo80
           go_wp2_with (first|(go_at_call 32;(with_reducible refine (impl_SignsOf.calls k2 ((⟨#[37,32,115,97,105,100,10]⟩ : ByteArray) ++ t231) t246 t247 _ A39.out).mono ?_);rintro e w81 ⟨v248,rfl,ho0,hb⟩;have n0_:=Aside0.mk (Kd.R_elder' (by (with_reducible repeat (first|apply Kd.R_alloc|apply Kd.R_drewN|apply Kd.R_drew));exact HO_4.out) (Kd.R_base ho0) hb);have n1_:=Aside0.mk (Kd.R_elder' (by (with_reducible repeat (first|apply Kd.R_alloc|apply Kd.R_drewN|apply Kd.R_drew));exact HO_6.out) (Kd.R_base ho0) hb);have n2_:=Aside0.mk (Kd.R_lower (Kd.R_new' (Kd.R_new' ho0 (Kd.R_lt (by (with_reducible repeat (first|apply Kd.R_alloc|apply Kd.R_drewN|apply Kd.R_drew));exact HO_4.out))) (Kd.R_lt (by (with_reducible repeat (first|apply Kd.R_alloc|apply Kd.R_drewN|apply Kd.R_drew));exact HO_6.out))) (below_size (by repeat (first|(with_reducible first|exact HB.out|apply below_alloc|apply pw_below_drewN|apply below_drew1)|exact HB.out))));have n3_:=Aside0.mk (below_step (by repeat (first|(with_reducible first|exact HB.out|apply below_alloc|apply pw_below_drewN|apply below_drew1)|exact HB.out)) hb);clear HO_4;clear HO_6;clear HB;have HO_4:=n0_;have HO_6:=n1_;have HO249:=n2_;have HB:=n3_;clear n0_ n1_ n2_ n3_;(try clear hb);(try clear hb2);(try clear hk);(try clear hi);(try clear ho0))|(go_at_call 39;(with_reducible refine (spec_DrawSymbolByte.calls k2 _ _ l0 t250 _ ?side1 ?side2 A40.out).mono ?_);(case side1 => repeat (first|exact (Kd.C_below HR0.out HB.out)|(with_reducible refine Kd.C_alloc ?_ _)|(with_reducible refine Kd.C_drewN ?_ _)|(with_reducible refine Kd.C_drew ?_)));(case side2 => exact HC0.out);rintro e w82 ⟨rfl,hb⟩;have n0_:=Aside0.mk (Kd.R_below (by (with_reducible repeat (first|apply Kd.R_alloc|apply Kd.R_drewN|apply Kd.R_drew));exact HO_4.out) hb);have n1_:=Aside0.mk (Kd.R_below (by (with_reducible repeat (first|apply Kd.R_alloc|apply Kd.R_drewN|apply Kd.R_drew));exact HO_6.out) hb);have n2_:=Aside0.mk (Kd.R_below (by (with_reducible repeat (first|apply Kd.R_alloc|apply Kd.R_drewN|apply Kd.R_drew));exact HO249.out) hb);have n3_:=Aside0.mk (below_step (by repeat (first|(with_reducible first|exact HB.out|apply below_alloc|apply pw_below_drewN|apply below_drew1)|exact HB.out)) hb);clear HO_4;clear HO_6;clear HO249;clear HB;have HO_4:=n0_;have HO_6:=n1_;have HO249:=n2_;have HB:=n3_;clear n0_ n1_ n2_ n3_;(try clear hb))|(go_at_call 14;(with_reducible refine (impl_SymbolByte.calls k2 t250 t251 _ A41.out).mono ?_);rintro e w83 ⟨rfl,hb⟩;have n0_:=Aside0.mk (Kd.R_below (by (with_reducible repeat (first|apply Kd.R_alloc|apply Kd.R_drewN|apply Kd.R_drew));exact HO_4.out) hb);have n1_:=Aside0.mk (Kd.R_below (by (with_reducible repeat (first|apply Kd.R_alloc|apply Kd.R_drewN|apply Kd.R_drew));exact HO_6.out) hb);have n2_:=Aside0.mk (Kd.R_below (by (with_reducible repeat (first|apply Kd.R_alloc|apply Kd.R_drewN|apply Kd.R_drew));exact HO249.out) hb);have n3_:=Aside0.mk (below_step (by repeat (first|(with_reducible first|exact HB.out|apply below_alloc|apply pw_below_drewN|apply below_drew1)|exact HB.out)) hb);clear HO_4;clear HO_6;clear HO249;clear HB;have HO_4:=n0_;have HO_6:=n1_;have HO249:=n2_;have HB:=n3_;clear n0_ n1_ n2_ n3_;(try clear hb))|(go_at_call 13;(with_reducible refine (fk_spec_SymbolByte.calls k2 t250 t252 _ A42.out).mono ?_);rintro e w84 ⟨rfl,hb⟩;have n0_:=Aside0.mk (Kd.R_below (by (with_reducible repeat (first|apply Kd.R_alloc|apply Kd.R_drewN|apply Kd.R_drew));exact HO_4.out) hb);have n1_:=Aside0.mk (Kd.R_below (by (with_reducible repeat (first|apply Kd.R_alloc|apply Kd.R_drewN|apply Kd.R_drew));exact HO_6.out) hb);have n2_:=Aside0.mk (Kd.R_below (by (with_reducible repeat (first|apply Kd.R_alloc|apply Kd.R_drewN|apply Kd.R_drew));exact HO249.out) hb);have n3_:=Aside0.mk (below_step (by repeat (first|(with_reducible first|exact HB.out|apply below_alloc|apply pw_below_drewN|apply below_drew1)|exact HB.out)) hb);clear HO_4;clear HO_6;clear HO249;clear HB;have HO_4:=n0_;have HO_6:=n1_;have HO249:=n2_;have HB:=n3_;clear n0_ n1_ n2_ n3_;(try clear hb);(try clear hb2);(try clear hk);(try clear hi);obtain ⟨Ao85,co85,eo85⟩:=Kd.R_slice HO249.out;subst eo85))
           repeat (go_quiet (first|(go_at_call 32;(with_reducible refine (impl_SignsOf.calls k2 ((⟨#[37,32,115,97,105,100,10]⟩ : ByteArray) ++ t231) t246 t247 _ A39.out).mono ?_);rintro e w81 ⟨v248,rfl,ho0,hb⟩;have n0_:=Aside0.mk (Kd.R_elder' (by (with_reducible repeat (first|apply Kd.R_alloc|apply Kd.R_drewN|apply Kd.R_drew));exact HO_4.out) (Kd.R_base ho0) hb);have n1_:=Aside0.mk (Kd.R_elder' (by (with_reducible repeat (first|apply Kd.R_alloc|apply Kd.R_drewN|apply Kd.R_drew));exact HO_6.out) (Kd.R_base ho0) hb);have n2_:=Aside0.mk (Kd.R_lower (Kd.R_new' (Kd.R_new' ho0 (Kd.R_lt (by (with_reducible repeat (first|apply Kd.R_alloc|apply Kd.R_drewN|apply Kd.R_drew));exact HO_4.out))) (Kd.R_lt (by (with_reducible repeat (first|apply Kd.R_alloc|apply Kd.R_drewN|apply Kd.R_drew));exact HO_6.out))) (below_size (by repeat (first|(with_reducible first|exact HB.out|apply below_alloc|apply pw_below_drewN|apply below_drew1)|exact HB.out))));have n3_:=Aside0.mk (below_step (by repeat (first|(with_reducible first|exact HB.out|apply below_alloc|apply pw_below_drewN|apply below_drew1)|exact HB.out)) hb);clear HO_4;clear HO_6;clear HB;have HO_4:=n0_;have HO_6:=n1_;have HO249:=n2_;have HB:=n3_;clear n0_ n1_ n2_ n3_;(try clear hb);(try clear hb2);(try clear hk);(try clear hi);(try clear ho0))|(go_at_call 39;(with_reducible refine (spec_DrawSymbolByte.calls k2 _ _ l0 t250 _ ?side1 ?side2 A40.out).mono ?_);(case side1 => repeat (first|exact (Kd.C_below HR0.out HB.out)|(with_reducible refine Kd.C_alloc ?_ _)|(with_reducible refine Kd.C_drewN ?_ _)|(with_reducible refine Kd.C_drew ?_)));(case side2 => exact HC0.out);rintro e w82 ⟨rfl,hb⟩;have n0_:=Aside0.mk (Kd.R_below (by (with_reducible repeat (first|apply Kd.R_alloc|apply Kd.R_drewN|apply Kd.R_drew));exact HO_4.out) hb);have n1_:=Aside0.mk (Kd.R_below (by (with_reducible repeat (first|apply Kd.R_alloc|apply Kd.R_drewN|apply Kd.R_drew));exact HO_6.out) hb);have n2_:=Aside0.mk (Kd.R_below (by (with_reducible repeat (first|apply Kd.R_alloc|apply Kd.R_drewN|apply Kd.R_drew));exact HO249.out) hb);have n3_:=Aside0.mk (below_step (by repeat (first|(with_reducible first|exact HB.out|apply below_alloc|apply pw_below_drewN|apply below_drew1)|exact HB.out)) hb);clear HO_4;clear HO_6;clear HO249;clear HB;have HO_4:=n0_;have HO_6:=n1_;have HO249:=n2_;have HB:=n3_;clear n0_ n1_ n2_ n3_;(try clear hb))|(go_at_call 14;(with_reducible refine (impl_SymbolByte.calls k2 t250 t251 _ A41.out).mono ?_);rintro e w83 ⟨rfl,hb⟩;have n0_:=Aside0.mk (Kd.R_below (by (with_reducible repeat (first|apply Kd.R_alloc|apply Kd.R_drewN|apply Kd.R_drew));exact HO_4.out) hb);have n1_:=Aside0.mk (Kd.R_below (by (with_reducible repeat (first|apply Kd.R_alloc|apply Kd.R_drewN|apply Kd.R_drew));exact HO_6.out) hb);have n2_:=Aside0.mk (Kd.R_below (by (with_reducible repeat (first|apply Kd.R_alloc|apply Kd.R_drewN|apply Kd.R_drew));exact HO249.out) hb);have n3_:=Aside0.mk (below_step (by repeat (first|(with_reducible first|exact HB.out|apply below_alloc|apply pw_below_drewN|apply below_drew1)|exact HB.out)) hb);clear HO_4;clear HO_6;clear HO249;clear HB;have HO_4:=n0_;have HO_6:=n1_;have HO249:=n2_;have HB:=n3_;clear n0_ n1_ n2_ n3_;(try clear hb))|(go_at_call 13;(with_reducible refine (fk_spec_SymbolByte.calls k2 t250 t252 _ A42.out).mono ?_);rintro e w84 ⟨rfl,hb⟩;have n0_:=Aside0.mk (Kd.R_below (by (with_reducible repeat (first|apply Kd.R_alloc|apply Kd.R_drewN|apply Kd.R_drew));exact HO_4.out) hb);have n1_:=Aside0.mk (Kd.R_below (by (with_reducible repeat (first|apply Kd.R_alloc|apply Kd.R_drewN|apply Kd.R_drew));exact HO_6.out) hb);have n2_:=Aside0.mk (Kd.R_below (by (with_reducible repeat (first|apply Kd.R_alloc|apply Kd.R_drewN|apply Kd.R_drew));exact HO249.out) hb);have n3_:=Aside0.mk (below_step (by repeat (first|(with_reducible first|exact HB.out|apply below_alloc|apply pw_below_drewN|apply below_drew1)|exact HB.out)) hb);clear HO_4;clear HO_6;clear HO249;clear HB;have HO_4:=n0_;have HO_6:=n1_;have HO249:=n2_;have HB:=n3_;clear n0_ n1_ n2_ n3_;(try clear hb);(try clear hb2);(try clear hk);(try clear hi);obtain ⟨Ao85,co85,eo85⟩:=Kd.R_slice HO249.out;subst eo85));try go_wp2_with (first|(go_at_call 32;(with_reducible refine (impl_SignsOf.calls k2 ((⟨#[37,32,115,97,105,100,10]⟩ : ByteArray) ++ t231) t246 t247 _ A39.out).mono ?_);rintro e w81 ⟨v248,rfl,ho0,hb⟩;have n0_:=Aside0.mk (Kd.R_elder' (by (with_reducible repeat (first|apply Kd.R_alloc|apply Kd.R_drewN|apply Kd.R_drew));exact HO_4.out) (Kd.R_base ho0) hb);have n1_:=Aside0.mk (Kd.R_elder' (by (with_reducible repeat (first|apply Kd.R_alloc|apply Kd.R_drewN|apply Kd.R_drew));exact HO_6.out) (Kd.R_base ho0) hb);have n2_:=Aside0.mk (Kd.R_lower (Kd.R_new' (Kd.R_new' ho0 (Kd.R_lt (by (with_reducible repeat (first|apply Kd.R_alloc|apply Kd.R_drewN|apply Kd.R_drew));exact HO_4.out))) (Kd.R_lt (by (with_reducible repeat (first|apply Kd.R_alloc|apply Kd.R_drewN|apply Kd.R_drew));exact HO_6.out))) (below_size (by repeat (first|(with_reducible first|exact HB.out|apply below_alloc|apply pw_below_drewN|apply below_drew1)|exact HB.out))));have n3_:=Aside0.mk (below_step (by repeat (first|(with_reducible first|exact HB.out|apply below_alloc|apply pw_below_drewN|apply below_drew1)|exact HB.out)) hb);clear HO_4;clear HO_6;clear HB;have HO_4:=n0_;have HO_6:=n1_;have HO249:=n2_;have HB:=n3_;clear n0_ n1_ n2_ n3_;(try clear hb);(try clear hb2);(try clear hk);(try clear hi);(try clear ho0))|(go_at_call 39;(with_reducible refine (spec_DrawSymbolByte.calls k2 _ _ l0 t250 _ ?side1 ?side2 A40.out).mono ?_);(case side1 => repeat (first|exact (Kd.C_below HR0.out HB.out)|(with_reducible refine Kd.C_alloc ?_ _)|(with_reducible refine Kd.C_drewN ?_ _)|(with_reducible refine Kd.C_drew ?_)));(case side2 => exact HC0.out);rintro e w82 ⟨rfl,hb⟩;have n0_:=Aside0.mk (Kd.R_below (by (with_reducible repeat (first|apply Kd.R_alloc|apply Kd.R_drewN|apply Kd.R_drew));exact HO_4.out) hb);have n1_:=Aside0.mk (Kd.R_below (by (with_reducible repeat (first|apply Kd.R_alloc|apply Kd.R_drewN|apply Kd.R_drew));exact HO_6.out) hb);have n2_:=Aside0.mk (Kd.R_below (by (with_reducible repeat (first|apply Kd.R_alloc|apply Kd.R_drewN|apply Kd.R_drew));exact HO249.out) hb);have n3_:=Aside0.mk (below_step (by repeat (first|(with_reducible first|exact HB.out|apply below_alloc|apply pw_below_drewN|apply below_drew1)|exact HB.out)) hb);clear HO_4;clear HO_6;clear HO249;clear HB;have HO_4:=n0_;have HO_6:=n1_;have HO249:=n2_;have HB:=n3_;clear n0_ n1_ n2_ n3_;(try clear hb))|(go_at_call 14;(with_reducible refine (impl_SymbolByte.calls k2 t250 t251 _ A41.out).mono ?_);rintro e w83 ⟨rfl,hb⟩;have n0_:=Aside0.mk (Kd.R_below (by (with_reducible repeat (first|apply Kd.R_alloc|apply Kd.R_drewN|apply Kd.R_drew));exact HO_4.out) hb);have n1_:=Aside0.mk (Kd.R_below (by (with_reducible repeat (first|apply Kd.R_alloc|apply Kd.R_drewN|apply Kd.R_drew));exact HO_6.out) hb);have n2_:=Aside0.mk (Kd.R_below (by (with_reducible repeat (first|apply Kd.R_alloc|apply Kd.R_drewN|apply Kd.R_drew));exact HO249.out) hb);have n3_:=Aside0.mk (below_step (by repeat (first|(with_reducible first|exact HB.out|apply below_alloc|apply pw_below_drewN|apply below_drew1)|exact HB.out)) hb);clear HO_4;clear HO_6;clear HO249;clear HB;have HO_4:=n0_;have HO_6:=n1_;have HO249:=n2_;have HB:=n3_;clear n0_ n1_ n2_ n3_;(try clear hb))|(go_at_call 13;(with_reducible refine (fk_spec_SymbolByte.calls k2 t250 t252 _ A42.out).mono ?_);rintro e w84 ⟨rfl,hb⟩;have n0_:=Aside0.mk (Kd.R_below (by (with_reducible repeat (first|apply Kd.R_alloc|apply Kd.R_drewN|apply Kd.R_drew));exact HO_4.out) hb);have n1_:=Aside0.mk (Kd.R_below (by (with_reducible repeat (first|apply Kd.R_alloc|apply Kd.R_drewN|apply Kd.R_drew));exact HO_6.out) hb);have n2_:=Aside0.mk (Kd.R_below (by (with_reducible repeat (first|apply Kd.R_alloc|apply Kd.R_drewN|apply Kd.R_drew));exact HO249.out) hb);have n3_:=Aside0.mk (below_step (by repeat (first|(with_reducible first|exact HB.out|apply below_alloc|apply pw_below_drewN|apply below_drew1)|exact HB.out)) hb);clear HO_4;clear HO_6;clear HO249;clear HB;have HO_4:=n0_;have HO_6:=n1_;have HO249:=n2_;have HB:=n3_;clear n0_ n1_ n2_ n3_;(try clear hb);(try clear hb2);(try clear hk);(try clear hi);obtain ⟨Ao85,co85,eo85⟩:=Kd.R_slice HO249.out;subst eo85)))
           go_ret
           exact ⟨by first|rfl|(simp [errW_none,errW_some] <;> rfl)|(simp [*,errW_none,errW_some] <;> rfl),by repeat (first|(with_reducible first|exact HB.out|apply below_alloc|apply pw_below_drewN|apply below_drew1)|exact HB.out)⟩
        ·rw [if_neg c43] at H
         have c43b0 : (t251 == t252) = false:=by simpa using c43
         (try (have c43b1 : decide (t251 = t252) = false:=by simpa using c43))
         (try (have c43b2 : (t251 == t252) = false:=by simpa using c43))
         (try (have c43b3 : ¬ (t251 = t252):=by simpa using c43))
         clear c43
         obtain rfl:=Option.some.inj H
         obtain ⟨Ao86,co86,eo86⟩:=Kd.R_slice HO_4.out
         subst eo86
         go_wp2_with (first|(go_at_call 32;(with_reducible refine (impl_SignsOf.calls k2 ((⟨#[37,32,115,97,105,100,10]⟩ : ByteArray) ++ t231) t246 t247 _ A39.out).mono ?_);rintro e w87 ⟨v248,rfl,ho0,hb⟩;have n0_:=Aside0.mk (Kd.R_elder' (by (with_reducible repeat (first|apply Kd.R_alloc|apply Kd.R_drewN|apply Kd.R_drew));exact HO_4.out) (Kd.R_base ho0) hb);have n1_:=Aside0.mk (Kd.R_elder' (by (with_reducible repeat (first|apply Kd.R_alloc|apply Kd.R_drewN|apply Kd.R_drew));exact HO_6.out) (Kd.R_base ho0) hb);have n2_:=Aside0.mk (Kd.R_lower (Kd.R_new' (Kd.R_new' ho0 (Kd.R_lt (by (with_reducible repeat (first|apply Kd.R_alloc|apply Kd.R_drewN|apply Kd.R_drew));exact HO_4.out))) (Kd.R_lt (by (with_reducible repeat (first|apply Kd.R_alloc|apply Kd.R_drewN|apply Kd.R_drew));exact HO_6.out))) (below_size (by repeat (first|(with_reducible first|exact HB.out|apply below_alloc|apply pw_below_drewN|apply below_drew1)|exact HB.out))));have n3_:=Aside0.mk (below_step (by repeat (first|(with_reducible first|exact HB.out|apply below_alloc|apply pw_below_drewN|apply below_drew1)|exact HB.out)) hb);clear HO_4;clear HO_6;clear HB;have HO_4:=n0_;have HO_6:=n1_;have HO249:=n2_;have HB:=n3_;clear n0_ n1_ n2_ n3_;(try clear hb);(try clear hb2);(try clear hk);(try clear hi);(try clear ho0))|(go_at_call 39;(with_reducible refine (spec_DrawSymbolByte.calls k2 _ _ l0 t250 _ ?side1 ?side2 A40.out).mono ?_);(case side1 => repeat (first|exact (Kd.C_below HR0.out HB.out)|(with_reducible refine Kd.C_alloc ?_ _)|(with_reducible refine Kd.C_drewN ?_ _)|(with_reducible refine Kd.C_drew ?_)));(case side2 => exact HC0.out);rintro e w88 ⟨rfl,hb⟩;have n0_:=Aside0.mk (Kd.R_below (by (with_reducible repeat (first|apply Kd.R_alloc|apply Kd.R_drewN|apply Kd.R_drew));exact HO_4.out) hb);have n1_:=Aside0.mk (Kd.R_below (by (with_reducible repeat (first|apply Kd.R_alloc|apply Kd.R_drewN|apply Kd.R_drew));exact HO_6.out) hb);have n2_:=Aside0.mk (Kd.R_below (by (with_reducible repeat (first|apply Kd.R_alloc|apply Kd.R_drewN|apply Kd.R_drew));exact HO249.out) hb);have n3_:=Aside0.mk (below_step (by repeat (first|(with_reducible first|exact HB.out|apply below_alloc|apply pw_below_drewN|apply below_drew1)|exact HB.out)) hb);clear HO_4;clear HO_6;clear HO249;clear HB;have HO_4:=n0_;have HO_6:=n1_;have HO249:=n2_;have HB:=n3_;clear n0_ n1_ n2_ n3_;(try clear hb))|(go_at_call 14;(with_reducible refine (impl_SymbolByte.calls k2 t250 t251 _ A41.out).mono ?_);rintro e w89 ⟨rfl,hb⟩;have n0_:=Aside0.mk (Kd.R_below (by (with_reducible repeat (first|apply Kd.R_alloc|apply Kd.R_drewN|apply Kd.R_drew));exact HO_4.out) hb);have n1_:=Aside0.mk (Kd.R_below (by (with_reducible repeat (first|apply Kd.R_alloc|apply Kd.R_drewN|apply Kd.R_drew));exact HO_6.out) hb);have n2_:=Aside0.mk (Kd.R_below (by (with_reducible repeat (first|apply Kd.R_alloc|apply Kd.R_drewN|apply Kd.R_drew));exact HO249.out) hb);have n3_:=Aside0.mk (below_step (by repeat (first|(with_reducible first|exact HB.out|apply below_alloc|apply pw_below_drewN|apply below_drew1)|exact HB.out)) hb);clear HO_4;clear HO_6;clear HO249;clear HB;have HO_4:=n0_;have HO_6:=n1_;have HO249:=n2_;have HB:=n3_;clear n0_ n1_ n2_ n3_;(try clear hb))|(go_at_call 13;(with_reducible refine (fk_spec_SymbolByte.calls k2 t250 t252 _ A42.out).mono ?_);rintro e w90 ⟨rfl,hb⟩;have n0_:=Aside0.mk (Kd.R_below (by (with_reducible repeat (first|apply Kd.R_alloc|apply Kd.R_drewN|apply Kd.R_drew));exact HO_4.out) hb);have n1_:=Aside0.mk (Kd.R_below (by (with_reducible repeat (first|apply Kd.R_alloc|apply Kd.R_drewN|apply Kd.R_drew));exact HO_6.out) hb);have n2_:=Aside0.mk (Kd.R_below (by (with_reducible repeat (first|apply Kd.R_alloc|apply Kd.R_drewN|apply Kd.R_drew));exact HO249.out) hb);have n3_:=Aside0.mk (below_step (by repeat (first|(with_reducible first|exact HB.out|apply below_alloc|apply pw_below_drewN|apply below_drew1)|exact HB.out)) hb);clear HO_4;clear HO_6;clear HO249;clear HB;have HO_4:=n0_;have HO_6:=n1_;have HO249:=n2_;have HB:=n3_;clear n0_ n1_ n2_ n3_;(try clear hb)))
         repeat (go_quiet (first|(go_at_call 32;(with_reducible refine (impl_SignsOf.calls k2 ((⟨#[37,32,115,97,105,100,10]⟩ : ByteArray) ++ t231) t246 t247 _ A39.out).mono ?_);rintro e w87 ⟨v248,rfl,ho0,hb⟩;have n0_:=Aside0.mk (Kd.R_elder' (by (with_reducible repeat (first|apply Kd.R_alloc|apply Kd.R_drewN|apply Kd.R_drew));exact HO_4.out) (Kd.R_base ho0) hb);have n1_:=Aside0.mk (Kd.R_elder' (by (with_reducible repeat (first|apply Kd.R_alloc|apply Kd.R_drewN|apply Kd.R_drew));exact HO_6.out) (Kd.R_base ho0) hb);have n2_:=Aside0.mk (Kd.R_lower (Kd.R_new' (Kd.R_new' ho0 (Kd.R_lt (by (with_reducible repeat (first|apply Kd.R_alloc|apply Kd.R_drewN|apply Kd.R_drew));exact HO_4.out))) (Kd.R_lt (by (with_reducible repeat (first|apply Kd.R_alloc|apply Kd.R_drewN|apply Kd.R_drew));exact HO_6.out))) (below_size (by repeat (first|(with_reducible first|exact HB.out|apply below_alloc|apply pw_below_drewN|apply below_drew1)|exact HB.out))));have n3_:=Aside0.mk (below_step (by repeat (first|(with_reducible first|exact HB.out|apply below_alloc|apply pw_below_drewN|apply below_drew1)|exact HB.out)) hb);clear HO_4;clear HO_6;clear HB;have HO_4:=n0_;have HO_6:=n1_;have HO249:=n2_;have HB:=n3_;clear n0_ n1_ n2_ n3_;(try clear hb);(try clear hb2);(try clear hk);(try clear hi);(try clear ho0))|(go_at_call 39;(with_reducible refine (spec_DrawSymbolByte.calls k2 _ _ l0 t250 _ ?side1 ?side2 A40.out).mono ?_);(case side1 => repeat (first|exact (Kd.C_below HR0.out HB.out)|(with_reducible refine Kd.C_alloc ?_ _)|(with_reducible refine Kd.C_drewN ?_ _)|(with_reducible refine Kd.C_drew ?_)));(case side2 => exact HC0.out);rintro e w88 ⟨rfl,hb⟩;have n0_:=Aside0.mk (Kd.R_below (by (with_reducible repeat (first|apply Kd.R_alloc|apply Kd.R_drewN|apply Kd.R_drew));exact HO_4.out) hb);have n1_:=Aside0.mk (Kd.R_below (by (with_reducible repeat (first|apply Kd.R_alloc|apply Kd.R_drewN|apply Kd.R_drew));exact HO_6.out) hb);have n2_:=Aside0.mk (Kd.R_below (by (with_reducible repeat (first|apply Kd.R_alloc|apply Kd.R_drewN|apply Kd.R_drew));exact HO249.out) hb);have n3_:=Aside0.mk (below_step (by repeat (first|(with_reducible first|exact HB.out|apply below_alloc|apply pw_below_drewN|apply below_drew1)|exact HB.out)) hb);clear HO_4;clear HO_6;clear HO249;clear HB;have HO_4:=n0_;have HO_6:=n1_;have HO249:=n2_;have HB:=n3_;clear n0_ n1_ n2_ n3_;(try clear hb))|(go_at_call 14;(with_reducible refine (impl_SymbolByte.calls k2 t250 t251 _ A41.out).mono ?_);rintro e w89 ⟨rfl,hb⟩;have n0_:=Aside0.mk (Kd.R_below (by (with_reducible repeat (first|apply Kd.R_alloc|apply Kd.R_drewN|apply Kd.R_drew));exact HO_4.out) hb);have n1_:=Aside0.mk (Kd.R_below (by (with_reducible repeat (first|apply Kd.R_alloc|apply Kd.R_drewN|apply Kd.R_drew));exact HO_6.out) hb);have n2_:=Aside0.mk (Kd.R_below (by (with_reducible repeat (first|apply Kd.R_alloc|apply Kd.R_drewN|apply Kd.R_drew));exact HO249.out) hb);have n3_:=Aside0.mk (below_step (by repeat (first|(with_reducible first|exact HB.out|apply below_alloc|apply pw_below_drewN|apply below_drew1)|exact HB.out)) hb);clear HO_4;clear HO_6;clear HO249;clear HB;have HO_4:=n0_;have HO_6:=n1_;have HO249:=n2_;have HB:=n3_;clear n0_ n1_ n2_ n3_;(try clear hb))|(go_at_call 13;(with_reducible refine (fk_spec_SymbolByte.calls k2 t250 t252 _ A42.out).mono ?_);rintro e w90 ⟨rfl,hb⟩;have n0_:=Aside0.mk (Kd.R_below (by (with_reducible repeat (first|apply Kd.R_alloc|apply Kd.R_drewN|apply Kd.R_drew));exact HO_4.out) hb);have n1_:=Aside0.mk (Kd.R_below (by (with_reducible repeat (first|apply Kd.R_alloc|apply Kd.R_drewN|apply Kd.R_drew));exact HO_6.out) hb);have n2_:=Aside0.mk (Kd.R_below (by (with_reducible repeat (first|apply Kd.R_alloc|apply Kd.R_drewN|apply Kd.R_drew));exact HO249.out) hb);have n3_:=Aside0.mk (below_step (by repeat (first|(with_reducible first|exact HB.out|apply below_alloc|apply pw_below_drewN|apply below_drew1)|exact HB.out)) hb);clear HO_4;clear HO_6;clear HO249;clear HB;have HO_4:=n0_;have HO_6:=n1_;have HO249:=n2_;have HB:=n3_;clear n0_ n1_ n2_ n3_;(try clear hb)));try go_wp2_with (first|(go_at_call 32;(with_reducible refine (impl_SignsOf.calls k2 ((⟨#[37,32,115,97,105,100,10]⟩ : ByteArray) ++ t231) t246 t247 _ A39.out).mono ?_);rintro e w87 ⟨v248,rfl,ho0,hb⟩;have n0_:=Aside0.mk (Kd.R_elder' (by (with_reducible repeat (first|apply Kd.R_alloc|apply Kd.R_drewN|apply Kd.R_drew));exact HO_4.out) (Kd.R_base ho0) hb);have n1_:=Aside0.mk (Kd.R_elder' (by (with_reducible repeat (first|apply Kd.R_alloc|apply Kd.R_drewN|apply Kd.R_drew));exact HO_6.out) (Kd.R_base ho0) hb);have n2_:=Aside0.mk (Kd.R_lower (Kd.R_new' (Kd.R_new' ho0 (Kd.R_lt (by (with_reducible repeat (first|apply Kd.R_alloc|apply Kd.R_drewN|apply Kd.R_drew));exact HO_4.out))) (Kd.R_lt (by (with_reducible repeat (first|apply Kd.R_alloc|apply Kd.R_drewN|apply Kd.R_drew));exact HO_6.out))) (below_size (by repeat (first|(with_reducible first|exact HB.out|apply below_alloc|apply pw_below_drewN|apply below_drew1)|exact HB.out))));have n3_:=Aside0.mk (below_step (by repeat (first|(with_reducible first|exact HB.out|apply below_alloc|apply pw_below_drewN|apply below_drew1)|exact HB.out)) hb);clear HO_4;clear HO_6;clear HB;have HO_4:=n0_;have HO_6:=n1_;have HO249:=n2_;have HB:=n3_;clear n0_ n1_ n2_ n3_;(try clear hb);(try clear hb2);(try clear hk);(try clear hi);(try clear ho0))|(go_at_call 39;(with_reducible refine (spec_DrawSymbolByte.calls k2 _ _ l0 t250 _ ?side1 ?side2 A40.out).mono ?_);(case side1 => repeat (first|exact (Kd.C_below HR0.out HB.out)|(with_reducible refine Kd.C_alloc ?_ _)|(with_reducible refine Kd.C_drewN ?_ _)|(with_reducible refine Kd.C_drew ?_)));(case side2 => exact HC0.out);rintro e w88 ⟨rfl,hb⟩;have n0_:=Aside0.mk (Kd.R_below (by (with_reducible repeat (first|apply Kd.R_alloc|apply Kd.R_drewN|apply Kd.R_drew));exact HO_4.out) hb);have n1_:=Aside0.mk (Kd.R_below (by (with_reducible repeat (first|apply Kd.R_alloc|apply Kd.R_drewN|apply Kd.R_drew));exact HO_6.out) hb);have n2_:=Aside0.mk (Kd.R_below (by (with_reducible repeat (first|apply Kd.R_alloc|apply Kd.R_drewN|apply Kd.R_drew));exact HO249.out) hb);have n3_:=Aside0.mk (below_step (by repeat (first|(with_reducible first|exact HB.out|apply below_alloc|apply pw_below_drewN|apply below_drew1)|exact HB.out)) hb);clear HO_4;clear HO_6;clear HO249;clear HB;have HO_4:=n0_;have HO_6:=n1_;have HO249:=n2_;have HB:=n3_;clear n0_ n1_ n2_ n3_;(try clear hb))|(go_at_call 14;(with_reducible refine (impl_SymbolByte.calls k2 t250 t251 _ A41.out).mono ?_);rintro e w89 ⟨rfl,hb⟩;have n0_:=Aside0.mk (Kd.R_below (by (with_reducible repeat (first|apply Kd.R_alloc|apply Kd.R_drewN|apply Kd.R_drew));exact HO_4.out) hb);have n1_:=Aside0.mk (Kd.R_below (by (with_reducible repeat (first|apply Kd.R_alloc|apply Kd.R_drewN|apply Kd.R_drew));exact HO_6.out) hb);have n2_:=Aside0.mk (Kd.R_below (by (with_reducible repeat (first|apply Kd.R_alloc|apply Kd.R_drewN|apply Kd.R_drew));exact HO249.out) hb);have n3_:=Aside0.mk (below_step (by repeat (first|(with_reducible first|exact HB.out|apply below_alloc|apply pw_below_drewN|apply below_drew1)|exact HB.out)) hb);clear HO_4;clear HO_6;clear HO249;clear HB;have HO_4:=n0_;have HO_6:=n1_;have HO249:=n2_;have HB:=n3_;clear n0_ n1_ n2_ n3_;(try clear hb))|(go_at_call 13;(with_reducible refine (fk_spec_SymbolByte.calls k2 t250 t252 _ A42.out).mono ?_);rintro e w90 ⟨rfl,hb⟩;have n0_:=Aside0.mk (Kd.R_below (by (with_reducible repeat (first|apply Kd.R_alloc|apply Kd.R_drewN|apply Kd.R_drew));exact HO_4.out) hb);have n1_:=Aside0.mk (Kd.R_below (by (with_reducible repeat (first|apply Kd.R_alloc|apply Kd.R_drewN|apply Kd.R_drew));exact HO_6.out) hb);have n2_:=Aside0.mk (Kd.R_below (by (with_reducible repeat (first|apply Kd.R_alloc|apply Kd.R_drewN|apply Kd.R_drew));exact HO249.out) hb);have n3_:=Aside0.mk (below_step (by repeat (first|(with_reducible first|exact HB.out|apply below_alloc|apply pw_below_drewN|apply below_drew1)|exact HB.out)) hb);clear HO_4;clear HO_6;clear HO249;clear HB;have HO_4:=n0_;have HO_6:=n1_;have HO249:=n2_;have HB:=n3_;clear n0_ n1_ n2_ n3_;(try clear hb))))
         go_ret
         exact ⟨by first|rfl|(simp [errW_none,errW_some] <;> rfl)|(simp [*,errW_none,errW_some] <;> rfl),by repeat (first|(with_reducible first|exact HB.out|apply below_alloc|apply pw_below_drewN|apply below_drew1)|exact HB.out)⟩

/-- THE ONE PURE STATEMENT of laws_FnSigns: yours. -/
def laws_FnSigns.Pure : Prop:=∀ (l0 : List Int),l0.length ≤ maxLen → l0.length * 1 ≤ 140737488351232 → (∀ x ∈ l0,(Lit.int .u8 x).wf = true) → ∃ k,laws_FnSigns.f k l0 = some true
theorem laws_FnSigns.walk (P : laws_FnSigns.Pure) (a0 : Option Addr) (len0 cap0 : Nat) (z0 : List Int) (w : World) (w0 : (a0 = none ∧ len0 = 0 ∧ cap0 = 0 ∧ z0 = []) ∨ ∃ x,a0 = some x ∧ len0 ≤ cap0 ∧ cap0 ≤ maxLen ∧ z0.length = cap0 ∧ (∀ i,i < z0.length → w.cell? (x.add i) = some (.int .u8 (z0.getD i 0))) ∧ ∀ n ∈ z0,(Lit.int .u8 n).wf = true) (y0 : len0 * 1 ≤ 140737488351232) :
  Calls Try.prog 12 #[.slice a0 len0 cap0] w fun e w' => e = .returned (.bool true) ∧ Below w.heap.size w w':=by
 obtain ⟨l0,rfl,hr0,hm0,hw0,hc0⟩:=ReadsInt.ofRowC w0
 obtain ⟨k,h⟩:=P l0 hm0 y0 hw0
 refine (laws_FnSigns.calls k _ _ l0 true w (Kd.C_of_reads (d:=(0 : Int)) (h1:=fun _ => rfl) hr0) hc0 h).mono ?_
 rintro e w' ⟨rfl,hd⟩
 exact ⟨rfl,hd⟩

end Go.Proofs.Ytbkibnjpolnajaa.KSn
