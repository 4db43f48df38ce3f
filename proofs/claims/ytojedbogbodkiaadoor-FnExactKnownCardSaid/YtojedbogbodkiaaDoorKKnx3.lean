/- Contracts of functions of the program and of the reference, each a Lean function and the proof that Go comes to its answer. Written by wip/pp/pp.py out of the kit's print, for this claim; nothing of it is trusted: Lean checks it. -/
import Derived.Test.YtojedbogbodkiaaDoorKKnx0
import Derived.Test.YtojedbogbodkiaaDoorKKnx1
import Derived.Test.YtojedbogbodkiaaDoorKKnx2
namespace Go.Proofs.YtojedbogbodkiaaDoor.KKn
open Go.RowKit Go.Proofs.YtojedbogbodkiaaDoorW.PrintWords Go.Proofs.YtojedbogbodkiaaDoorW.PrintLast Go.Proofs.YtojedbogbodkiaaDoorW.PrintMore
attribute [local go_sem] max2_int min2_int max_two min_two max_three min_three max_four min_four   -- for this text's walks alone
set_option linter.unusedVariables false
set_option linter.unusedSimpArgs false

set_option linter.unusedSectionVars false
variable [fk_laws_szTerm] [fk_laws_toTerm] [fk_laws_eqTerm] [fk_spec_l34Term] [fk_strconv_Itoa] [fk_impl_Known]
/-! ### spec_l34Clauses: function 66 -/
def spec_l34Clauses.l0 : Nat → List (S48) → List (S48) → Int → Option ((List (S48)))
 | 0,_,_,_ => none
 | k + 1,x0,x3,x4 => if x4 < (x0.length : Int) then (if 0 ≤ x4 then ((spec_l34Clause.f k ((rd_T48 x0 x4).f0.f0) ((rd_T48 x0 x4).f0.f1) ((rd_T48 x0 x4).f0.f2) ((rd_T48 x0 x4).f0.f3) ((rd_T48 x0 x4).f1.f0) ((rd_T48 x0 x4).f1.f1) ((rd_T48 x0 x4).f1.f2) ((rd_T48 x0 x4).f1.f3) ((rd_T48 x0 x4).f2)).bind fun bt188 => (if x3.length < 1099511627776 then (spec_l34Clauses.l0 k x0 (x3 ++ [(⟨(⟨bt188.1,bt188.2.1,bt188.2.2.1,bt188.2.2.2.1⟩ : S29),(⟨bt188.2.2.2.2.1,bt188.2.2.2.2.2.1,bt188.2.2.2.2.2.2.1,bt188.2.2.2.2.2.2.2.1⟩ : S29),bt188.2.2.2.2.2.2.2.2⟩ : S48)]) (wrap64 (x4 + 1))) else (none))) else (none)) else (some x3)
def spec_l34Clauses.f (k : Nat) (l0 : List (S48)) : Option ((List (S48))):=spec_l34Clauses.l0 k l0 (([] : List (S48))) 0
theorem spec_l34Clauses.mono_l : ∀ k,(∀ y0 y1 y2,LeO (spec_l34Clauses.l0 k y0 y1 y2) (spec_l34Clauses.l0 (k + 1) y0 y1 y2))
 | 0 => fun _ _ _ r h => by simp [spec_l34Clauses.l0] at h
 | k + 1 => by
  have ih0:=spec_l34Clauses.mono_l k
  ·intro y0 y1 y2
   unfold spec_l34Clauses.l0
   repeat' first
   | (with_reducible exact ih0 _ _ _)
   | (with_reducible exact spec_l34Clause.mono _ _ _ _ _ _ _ _ _ _)
   | (with_reducible exact LeO.refl _)
   | (with_reducible exact LeO.none _)
   | (with_reducible refine LeO.ite ?_ ?_)
   | (with_reducible refine LeO.bind ?_ (fun _ => ?_))
   | exact ih0 _ _ _
   | exact spec_l34Clause.mono _ _ _ _ _ _ _ _ _ _
   | exact LeO.none _
   | refine LeO.ite ?_ ?_
   | refine LeO.bind ?_ (fun _ => ?_)
theorem spec_l34Clauses.mono : ∀ a0 k,LeO (spec_l34Clauses.f k a0) (spec_l34Clauses.f (k + 1) a0):=by
 intro a0 k
 have ih0:=spec_l34Clauses.mono_l k
 unfold spec_l34Clauses.f
 repeat' first
   | (with_reducible exact ih0 _ _ _)
   | (with_reducible exact spec_l34Clause.mono _ _ _ _ _ _ _ _ _ _)
   | (with_reducible exact LeO.refl _)
   | (with_reducible exact LeO.none _)
   | (with_reducible refine LeO.ite ?_ ?_)
   | (with_reducible refine LeO.bind ?_ (fun _ => ?_))
   | exact ih0 _ _ _
   | exact spec_l34Clause.mono _ _ _ _ _ _ _ _ _ _
   | exact LeO.none _
   | refine LeO.ite ?_ ?_
   | refine LeO.bind ?_ (fun _ => ?_)
set_option maxHeartbeats 8000000 in
set_option maxRecDepth 100000 in
theorem spec_l34Clauses.calls (k : Nat) (A0 : Option Addr) (c0 : Nat) (l0 : List (S48)) (r : List (S48)) (w : World) (hr0 : Kd.C k48 w A0 l0.length l0) (hc0 : l0.length ≤ c0) (h : spec_l34Clauses.f k l0 = some r) :
  Calls Tryd.prog 66 #[.slice A0 l0.length c0] w fun e w' => ∃ v0_ : Value,e = .returned (v0_) ∧ Kd.R k48 48 w' w.heap.size (fun _ => True) v0_ r ∧ Below w.heap.size w w':=by
 have hu48:=Tryd.underlying48
 have HR0:=Aside0.mk hr0
 have HC0:=Aside0.mk hc0
 clear hr0 hc0
 have HB:=Aside0.mk (Below.refl w.heap.size w)
 have H : (spec_l34Clauses.l0 k l0 (([] : List (S48))) 0) = some r:=h
 clear h
 obtain ⟨y184,hy184⟩ : ∃ y_ : List (S48),y_ = (([] : List (S48))):=⟨_,rfl⟩
 replace H : (spec_l34Clauses.l0 k l0 y184 0) = some r:=by first|(rw [hy184];with_reducible exact H)|(have H2_:=(Option.bind_some _ _).symm.trans H;rw [hy184];with_reducible exact H2_)|(have H2_:=(Option.bind_some _ _).symm.trans H;with_reducible exact H2_)|with_reducible exact H|(rw [hy184];exact H)|exact H
 have Ny184:=Aside0.mk hy184
 clear hy184
 have H':=Aside0.mk H
 clear H
 go_enter Tryd.func66,Tryd.ntmps66
 go_wp2_with (first|((with_reducible refine gate_dst (N:=5) rfl ?_);refine Kd.R_lit k48 _ 48 ?hg (N:=5) ?hd (xs:=([] : List (S48))) (inner:=[]) (ok:=fun _ => True) (okp:=fun _ => True) ?hr ?hp (fun _ hk => hk) trivial (Below.refl _ _) (Nat.le_refl _) (by simp) ?_;(case hd => rfl);(case hg => rfl);(case hr => first|(go_simp;done)|(go_simp;rfl));(case hp => exact (Reps.none _ _));intro v185 w2 ho3 hb hg_ hnew_;clear hg_ hnew_;(first|rw [← Ny184.out] at ho3|(simp only [Int.reduceToNat] at ho3;rw [← Ny184.out] at ho3));have n0_:=Aside0.mk (Kd.R_lower ho3 (below_size (by repeat (first|(with_reducible first|exact HB.out|apply below_alloc|apply pw_below_drewN|apply below_drew1)|exact HB.out))));have n1_:=Aside0.mk (below_step (by repeat (first|(with_reducible first|exact HB.out|apply below_alloc|apply pw_below_drewN|apply below_drew1)|exact HB.out)) hb);clear HB;have HO186:=n0_;have HB:=n1_;clear n0_ n1_;clear hb ho3))
 go_loopg [3,4] k (fun kq v3 v4 w' => ∃ (x3_1 : List (S48)) (x4_1 : Int),v4 = .int .i64 x4_1 ∧ Aside0 (spec_l34Clauses.l0 kq l0 x3_1 x4_1 = some r) ∧ Aside0 (kq ≤ k) ∧ Aside0 (Kd.R k48 48 w' w.heap.size (fun _ => True) v3 x3_1) ∧ Aside0 (Below w.heap.size w w'))
 case atStart => exact ⟨(y184),(0),(by first|rfl|(simp;done)|(simp [*];done)),H',⟨Nat.le_refl _⟩,⟨by (with_reducible repeat (first|apply Kd.R_alloc|apply Kd.R_drewN|apply Kd.R_drew));exact HO186.out⟩,⟨by repeat (first|(with_reducible first|exact HB.out|apply below_alloc|apply pw_below_drewN|apply below_drew1)|exact HB.out)⟩⟩
 case round =>
  clear H'
  obtain ⟨x3_1,x4_1,rfl,HA,HK1,HO_3,HB⟩:=hrel
  cases gk with
  | zero => exact absurd HA.out (by simp [spec_l34Clauses.l0])
  | succ k1 =>
   have H:=HA.out
   clear HA
   simp only [spec_l34Clauses.l0] at H
   by_cases c4 : x4_1 < (l0.length : Int)
   ·rw [if_pos c4] at H
    have c4b0 : decide (x4_1 < (l0.length : Int)) = true:=decide_eq_true c4
    clear c4
    by_cases c5 : 0 ≤ x4_1
    rotate_left
    ·rw [if_neg c5] at H
     exact absurd H (by simp)
    rw [if_pos c5] at H
    have c5b0 : decide (0 ≤ x4_1) = true:=decide_eq_true c5
    clear c5
    replace H:=Option.bind_eq_some_iff.mp H
    obtain ⟨⟨t188,t189,t190,t191,t194,t195,t196,t197,t200⟩,A60,H⟩:=H
    replace H : (if x3_1.length < 1099511627776 then (spec_l34Clauses.l0 k1 l0 (x3_1 ++ [(⟨(⟨t188,t189,t190,t191⟩ : S29),(⟨t194,t195,t196,t197⟩ : S29),t200⟩ : S48)]) (wrap64 (x4_1 + 1))) else (none)) = some r:=H
    have A6:=Aside0.mk A60
    clear A60
    by_cases c7 : x3_1.length < 1099511627776
    rotate_left
    ·rw [if_neg c7] at H
     exact absurd H (by simp)
    rw [if_pos c7] at H
    have LMc7:=Aside0.mk c7
    clear c7
    obtain ⟨y201,hy201⟩ : ∃ y_ : List (S48),y_ = (x3_1 ++ [(⟨(⟨t188,t189,t190,t191⟩ : S29),(⟨t194,t195,t196,t197⟩ : S29),t200⟩ : S48)]):=⟨_,rfl⟩
    replace H : (spec_l34Clauses.l0 k1 l0 y201 (wrap64 (x4_1 + 1))) = some r:=by first|(rw [hy201];with_reducible exact H)|(have H2_:=(Option.bind_some _ _).symm.trans H;rw [hy201];with_reducible exact H2_)|(have H2_:=(Option.bind_some _ _).symm.trans H;with_reducible exact H2_)|with_reducible exact H|(rw [hy201];exact H)|exact H
    have Ny201:=Aside0.mk hy201
    clear hy201
    have H':=Aside0.mk H
    clear H
    have p187 : 0 ≤ (x4_1 : Int):=of_decide_eq_true (by first|(with_reducible assumption)|assumption)
    have q187 : x4_1 < (l0.length : Int):=of_decide_eq_true (by first|(with_reducible assumption)|assumption)
    obtain ⟨ad187,A187_3,c187_3,A187_7,c187_7,e187,hx187_0,hx187_1,hx187_2,hx187_3,hx187_4,hx187_5,hx187_6,hx187_7,hx187_8,hl187_3,hi187_3,hl187_7,hi187_7⟩:=at_T48 HR0.out x4_1 p187 q187
    cases e187
    replace hx187_0:=(HB.out.cell (World.block_lt_of_cell? w _ hx187_0)).trans hx187_0
    replace hx187_1:=(HB.out.cell (World.block_lt_of_cell? w _ hx187_1)).trans hx187_1
    replace hx187_2:=(HB.out.cell (World.block_lt_of_cell? w _ hx187_2)).trans hx187_2
    replace hx187_3:=(HB.out.cell (World.block_lt_of_cell? w _ hx187_3)).trans hx187_3
    replace hx187_4:=(HB.out.cell (World.block_lt_of_cell? w _ hx187_4)).trans hx187_4
    replace hx187_5:=(HB.out.cell (World.block_lt_of_cell? w _ hx187_5)).trans hx187_5
    replace hx187_6:=(HB.out.cell (World.block_lt_of_cell? w _ hx187_6)).trans hx187_6
    replace hx187_7:=(HB.out.cell (World.block_lt_of_cell? w _ hx187_7)).trans hx187_7
    replace hx187_8:=(HB.out.cell (World.block_lt_of_cell? w _ hx187_8)).trans hx187_8
    have HR187_3:=Aside0.mk hi187_3
    have HC187_3:=Aside0.mk hl187_3
    clear hi187_3 hl187_3
    have HR187_7:=Aside0.mk hi187_7
    have HC187_7:=Aside0.mk hl187_7
    clear hi187_7 hl187_7
    replace p187:=eq_true p187
    replace q187:=eq_true q187
    go_wp2_with (first|((with_reducible refine gate_callee (f:=59) rfl ?_);refine goesL_ (some 17) rfl rfl Tryd.func59 (by kernel_rfl) rfl #[.agg #[.int .i64 ((rd_T48 l0 x4_1).f0.f0),.string ((rd_T48 l0 x4_1).f0.f1),.int .i64 ((rd_T48 l0 x4_1).f0.f2),.slice A187_3 ((rd_T48 l0 x4_1).f0.f3).length c187_3,.int .i64 ((rd_T48 l0 x4_1).f1.f0),.string ((rd_T48 l0 x4_1).f1.f1),.int .i64 ((rd_T48 l0 x4_1).f1.f2),.slice A187_7 ((rd_T48 l0 x4_1).f1.f3).length c187_7,.string ((rd_T48 l0 x4_1).f2)]] rfl (by (try simp only [List.map_toArray,List.map_cons,List.map_nil]);first|done|rfl|(simp only [List.length_drop,List.length_take];rfl)) ?_;(with_reducible refine (spec_l34Clause.calls k1 ((rd_T48 l0 x4_1).f0.f0) ((rd_T48 l0 x4_1).f0.f1) ((rd_T48 l0 x4_1).f0.f2) _ _ ((rd_T48 l0 x4_1).f0.f3) ((rd_T48 l0 x4_1).f1.f0) ((rd_T48 l0 x4_1).f1.f1) ((rd_T48 l0 x4_1).f1.f2) _ _ ((rd_T48 l0 x4_1).f1.f3) ((rd_T48 l0 x4_1).f2) t188 t189 t190 t191 t194 t195 t196 t197 t200 _ ?side1 ?side2 ?side3 ?side4 A6.out).mono ?_);(case side1 => repeat (first|exact (Kd.C_below HR187_3.out HB.out)|(with_reducible refine Kd.C_alloc ?_ _)|(with_reducible refine Kd.C_drewN ?_ _)|(with_reducible refine Kd.C_drew ?_)));(case side2 => exact HC187_3.out);(case side3 => repeat (first|exact (Kd.C_below HR187_7.out HB.out)|(with_reducible refine Kd.C_alloc ?_ _)|(with_reducible refine Kd.C_drewN ?_ _)|(with_reducible refine Kd.C_drew ?_)));(case side4 => exact HC187_7.out);rintro e w8 ⟨v192,v198,rfl,ho0,ho1,hb⟩;refine ⟨_,rfl,?_⟩;have n0_:=Aside0.mk (Kd.R_mono (Kd.R_told (Kd.R_told (Kd.R_old (by (with_reducible repeat (first|apply Kd.R_alloc|apply Kd.R_drewN|apply Kd.R_drew));exact HO_3.out) hb) (Kd.R_base ho0)) (Kd.R_base ho1)) (fun _ h_ => h_.1));have n1_:=Aside0.mk (Kd.R_lower ho0 (below_size (by repeat (first|(with_reducible first|exact HB.out|apply below_alloc|apply pw_below_drewN|apply below_drew1)|exact HB.out))));have n2_:=Aside0.mk (Kd.R_lower ho1 (below_size (by repeat (first|(with_reducible first|exact HB.out|apply below_alloc|apply pw_below_drewN|apply below_drew1)|exact HB.out))));have n3_:=Aside0.mk (below_step (by repeat (first|(with_reducible first|exact HB.out|apply below_alloc|apply pw_below_drewN|apply below_drew1)|exact HB.out)) hb);clear HO_3;clear HB;have HO_3:=n0_;have HO193:=n1_;have HO199:=n2_;have HB:=n3_;clear n0_ n1_ n2_ n3_;(try clear hb);(try clear hb2);(try clear hk);(try clear hi);(try clear ho0);(try clear ho1);obtain ⟨Ao10,co10,eo10⟩:=Kd.R_slice HO193.out;subst eo10;obtain ⟨Ao11,co11,eo11⟩:=Kd.R_slice HO199.out;subst eo11)|((with_reducible refine gate_builtin (b:=.append) (xs:=#[.tmp 12,.tmp 18]) rfl ?_);at_builtin;refine Kd.R_append k48 (w0:=w) w.heap.size rfl (.tmp 12) (.tmp 18) 39 48 (.agg #[(.int .i64 0),(.string ⟨#[]⟩),(.int .i64 0),(.slice none 0 0),(.int .i64 0),(.string ⟨#[]⟩),(.int .i64 0),(.slice none 0 0),(.string ⟨#[]⟩)]) 128 rfl Tryd.underlying39 info48 rfl (by decide) (by omega) u3 x3_1 (⟨(⟨t188,t189,t190,t191⟩ : S29),(⟨t194,t195,t196,t197⟩ : S29),t200⟩ : S48) [.int .i64 t188,.string t189,.int .i64 t190,.slice Ao10 t191.length co10,.int .i64 t194,.string t195,.int .i64 t196,.slice Ao11 t197.length co11,.string t200] (fun _ => True) (fun k_ => ((fun _ => True)) k_ ∧ some k_ ≠ (u3 : Value).ownBlock) rfl rfl ?aP (fun _ hk => hk) ?aF ?aO ?aB ?aS ?aL ?_;(case aP => exact k48_mkM _ _ _ (⟨(⟨t188,t189,t190,t191⟩ : S29),(⟨t194,t195,t196,t197⟩ : S29),t200⟩ : S48) (Kd.R_mono (Kd.R_apart' (HO193.out) (Kd.R_typed HO_3.out) (by decide)) (fun k_ hk => ⟨trivial,hk.2⟩)) (Kd.R_mono (Kd.R_apart' (HO199.out) (Kd.R_typed HO_3.out) (by decide)) (fun k_ hk => ⟨trivial,hk.2⟩)));(case aB => exact (by repeat (first|(with_reducible first|exact HB.out|apply below_alloc|apply pw_below_drewN|apply below_drew1)|exact HB.out)));(case aF => exact (fun _ _ => trivial));(case aO => exact (by (with_reducible repeat (first|apply Kd.R_alloc|apply Kd.R_drewN|apply Kd.R_drew));exact Kd.R_mono HO_3.out (fun _ hk => trivial)));(case aS => exact (below_size (by repeat (first|(with_reducible first|exact HB.out|apply below_alloc|apply pw_below_drewN|apply below_drew1)|exact HB.out))));(case aL => have:=LMc7.out;omega);intro v202 w9 ho hb hg hat;rw [← Ny201.out] at ho;have n0_:=Aside0.mk (hb);have n1_:=Aside0.mk (ho);clear HB;clear HO_3;clear HO193;clear HO199;have HB:=n0_;have HO203:=n1_;clear n0_ n1_;clear ho hb hg hat))
    go_roundg k1
    case measure => have:=HK1.out;omega
    case rel => exact ⟨(y201),(wrap64 (x4_1 + 1)),(by first|rfl|(simp;done)|(simp [*];done)),H',⟨by have:=HK1.out;omega⟩,⟨by (with_reducible repeat (first|apply Kd.R_alloc|apply Kd.R_drewN|apply Kd.R_drew));exact HO203.out⟩,⟨by repeat (first|(with_reducible first|exact HB.out|apply below_alloc|apply pw_below_drewN|apply below_drew1)|exact HB.out)⟩⟩
   ·rw [if_neg c4] at H
    have c4b0 : decide (x4_1 < (l0.length : Int)) = false:=decide_eq_false c4
    clear c4
    obtain rfl:=Option.some.inj H
    go_wp2
    go_ret
    exact ⟨_,by first|rfl|(simp [errW_none,errW_some] <;> rfl)|(simp [*,errW_none,errW_some] <;> rfl),by (with_reducible repeat (first|apply Kd.R_alloc|apply Kd.R_drewN|apply Kd.R_drew));exact HO_3.out,by repeat (first|(with_reducible first|exact HB.out|apply below_alloc|apply pw_below_drewN|apply below_drew1)|exact HB.out)⟩

/-! ### spec_ClausesOf: function 28 -/
def spec_ClausesOf.f (k : Nat) (l0_0 : List (S48)) (l0_1 : List ByteArray) (a1 : ByteArray) : Option ((List (S48))):=(spec_l08ClausesOfRaw.f k l0_0 l0_1 a1).bind fun t205 => ((spec_l34Clauses.f k t205).bind fun t208 => (some t208))
theorem spec_ClausesOf.mono : ∀ a0 a1 a2 k,LeO (spec_ClausesOf.f k a0 a1 a2) (spec_ClausesOf.f (k + 1) a0 a1 a2):=by
 intro a0 a1 a2 k
 unfold spec_ClausesOf.f
 repeat' first
   | (with_reducible exact spec_l08ClausesOfRaw.mono _ _ _ _)
   | (with_reducible exact spec_l34Clauses.mono _ _)
   | (with_reducible exact LeO.refl _)
   | (with_reducible exact LeO.none _)
   | (with_reducible refine LeO.ite ?_ ?_)
   | (with_reducible refine LeO.bind ?_ (fun _ => ?_))
   | exact spec_l08ClausesOfRaw.mono _ _ _ _
   | exact spec_l34Clauses.mono _ _
   | exact LeO.none _
   | refine LeO.ite ?_ ?_
   | refine LeO.bind ?_ (fun _ => ?_)
set_option maxHeartbeats 8000000 in
set_option maxRecDepth 100000 in
theorem spec_ClausesOf.calls (k : Nat) (P0_0_ : Nat → Prop) (A0_0 : Option Addr) (c0_0 : Nat) (l0_0 : List (S48)) (A0_1 : Option Addr) (c0_1 : Nat) (l0_1 : List ByteArray) (a1 : ByteArray) (r : List (S48)) (w : World) (hs0_0 : Kd.V k48 48 w w.heap.size (fun k_ => P0_0_ k_) (.slice A0_0 l0_0.length c0_0) l0_0) (hr0_1 : Kd.C Kd.string w A0_1 l0_1.length l0_1) (hc0_1 : l0_1.length ≤ c0_1) (h : spec_ClausesOf.f k l0_0 l0_1 a1 = some r) :
  Calls Tryd.prog 28 #[.agg #[.slice A0_0 l0_0.length c0_0,.slice A0_1 l0_1.length c0_1],.string a1] w fun e w' => ∃ v0_ : Value,e = .returned (v0_) ∧ Kd.N k48 48 w' w.heap.size (fun k_ => (P0_0_ k_ ∨ w.heap.size ≤ k_)) v0_ r ∧ Below w.heap.size w w':=by
 have hu41:=Tryd.underlying41
 have HO0_0:=Aside0.mk (show Kd.V k48 48 w w.heap.size (fun k_ => (P0_0_ k_ ∨ w.heap.size ≤ k_)) (.slice A0_0 l0_0.length c0_0) l0_0 from Kd.V_mono hs0_0 (fun k_ hk => .inl hk))
 have HR0_1:=Aside0.mk hr0_1
 have HC0_1:=Aside0.mk hc0_1
 clear hr0_1 hc0_1
 have HB:=Aside0.mk (Below.refl w.heap.size w)
 have H : ((spec_l08ClausesOfRaw.f k l0_0 l0_1 a1).bind fun t205 => ((spec_l34Clauses.f k t205).bind fun t208 => (some t208))) = some r:=h
 clear h
 replace H:=Option.bind_eq_some_iff.mp H
 obtain ⟨t205,A30,H⟩:=H
 replace H : ((spec_l34Clauses.f k t205).bind fun t208 => (some t208)) = some r:=H
 have A3:=Aside0.mk A30
 clear A30
 replace H:=Option.bind_eq_some_iff.mp H
 obtain ⟨t208,A40,H⟩:=H
 replace H : (some t208) = some r:=H
 have A4:=Aside0.mk A40
 clear A40
 obtain rfl:=Option.some.inj H
 go_enter Tryd.func28,Tryd.ntmps28
 go_wp2_with (first|((with_reducible refine gate_dst (N:=2) rfl ?_);refine box_event ?hg (N:=2) ?hd (cs:=#[.slice A0_0 l0_0.length c0_0,.slice A0_1 l0_1.length c0_1]) (t:=41) ?hr ?_;(case hd => rfl);(case hg => rfl);(case hr => first|(go_simp;done)|(go_simp;rfl));intro gb204 hg w5 hbox hb;have n0_:=Aside0.mk (Kd.V_below (Kd.V_elderB (by (with_reducible repeat (first|apply Kd.V_alloc|apply Kd.V_drewN|apply Kd.V_drew));exact HO0_0.out) gb204 (Nat.le_of_eq hg.symm)) hb);have n1_:=Aside0.mk (below_step (by repeat (first|(with_reducible first|exact HB.out|apply below_alloc|apply pw_below_drewN|apply below_drew1)|exact HB.out)) hb);have n2_:=Aside0.mk (hbox);have n3_:=Aside0.mk ((by rw [hg];exact (below_size (by repeat (first|(with_reducible first|exact HB.out|apply below_alloc|apply pw_below_drewN|apply below_drew1)|exact HB.out))) : w.heap.size ≤ gb204));have n4_:=Aside0.mk ((by rw [hg];exact (below_size (by repeat (first|(with_reducible first|exact HB.out|apply below_alloc|apply pw_below_drewN|apply below_drew1)|exact HB.out))) : w.heap.size ≤ gb204));clear HO0_0;clear HB;have HO0_0:=n0_;have HB:=n1_;have BK204:=n2_;have GW204:=n3_;have GE204:=n4_;clear n0_ n1_ n2_ n3_ n4_;clear hb hbox hg;have hcz6_0 : w5.cell? ⟨gb204,0,none⟩ = some (.slice A0_0 l0_0.length c0_0):=(blk_cell BK204.out 0).trans rfl;have hcz6_1 : w5.cell? ⟨gb204,1,none⟩ = some (.slice A0_1 l0_1.length c0_1):=(blk_cell BK204.out 1).trans rfl;have hfz6_0:=blk_frozen BK204.out 0;have hfz6_1:=blk_frozen BK204.out 1)|((with_reducible refine gate_callee (f:=65) rfl ?_);refine goesL_ (some 8) rfl rfl Tryd.func65 (by kernel_rfl) rfl #[.agg #[.slice A0_0 l0_0.length c0_0,.slice A0_1 l0_1.length c0_1],.string a1] rfl (by (try simp only [List.map_toArray,List.map_cons,List.map_nil]);first|done|rfl|(simp only [List.length_drop,List.length_take];rfl)) ?_;(with_reducible refine (spec_l08ClausesOfRaw.calls k (fun k_ => ((P0_0_ k_ ∨ w.heap.size ≤ k_) ∧ k_ ≠ gb204)) _ _ l0_0 _ _ l0_1 a1 t205 _ ?side1 ?side2 ?side3 A3.out).mono ?_);(case side1 => exact HO0_0.out);(case side2 => repeat (first|exact (Kd.C_below HR0_1.out HB.out)|(with_reducible refine Kd.C_alloc ?_ _)|(with_reducible refine Kd.C_drewN ?_ _)|(with_reducible refine Kd.C_drew ?_)));(case side3 => exact HC0_1.out);rintro e w7 ⟨v206,rfl,ho0,hb⟩;refine ⟨_,rfl,?_⟩;have n0_:=Aside0.mk (Kd.V_elder' (by (with_reducible repeat (first|apply Kd.V_alloc|apply Kd.V_drewN|apply Kd.V_drew));exact HO0_0.out) (by first|exact Kd.N_base ho0|exact Kd.R_base ho0) hb);have n1_:=Aside0.mk (Kd.N_lower (Kd.N_mono (ok':=fun k_ => (P0_0_ k_ ∨ w.heap.size ≤ k_) ∧ k_ ≠ gb204) ho0 (fun k_ hk_ => ⟨Or.elim hk_ (fun hs_ => hs_.1) (fun hn_ => (.inr (Nat.le_trans (below_size (by repeat (first|(with_reducible first|exact HB.out|apply below_alloc|apply pw_below_drewN|apply below_drew1|refine below_set ?_ GE204.out)|exact HB.out))) hn_))),Or.elim hk_ (fun hs_ => hs_.2) (fun hn_ => (Kd.freshB (g:=gb204) (o:=.cells #[.slice A0_0 l0_0.length c0_0,.slice A0_1 l0_1.length c0_1] 41 (0,0)) (by (with_reducible repeat (first|refine blk_drewN ?_ _|refine blk_drew ?_|refine blk_alloc ?_ _));exact BK204.out) k_ hn_))⟩)) (below_size (by repeat (first|(with_reducible first|exact HB.out|apply below_alloc|apply pw_below_drewN|apply below_drew1|refine below_set ?_ GE204.out)|exact HB.out))));have n2_:=Aside0.mk (blk_below (g:=gb204) (o:=.cells #[.slice A0_0 l0_0.length c0_0,.slice A0_1 l0_1.length c0_1] 41 (0,0)) (by (with_reducible repeat (first|refine blk_drewN ?_ _|refine blk_drew ?_|refine blk_alloc ?_ _));exact BK204.out) hb);have n3_:=Aside0.mk (below_step (by repeat (first|(with_reducible first|exact HB.out|apply below_alloc|apply pw_below_drewN|apply below_drew1|refine below_set ?_ GE204.out)|exact HB.out)) hb);clear HO0_0;clear BK204;clear HB;have HO0_0:=n0_;have HO207:=n1_;have BK204:=n2_;have HB:=n3_;clear n0_ n1_ n2_ n3_;(try clear hb);(try clear hb2);(try clear hk);(try clear hi);(try clear ho0);obtain ⟨Ao8,co8,eo8⟩:=Kd.N_slice HO207.out;subst eo8)|((with_reducible refine gate_callee (f:=66) rfl ?_);refine goesL_ (some 10) rfl rfl Tryd.func66 (by kernel_rfl) rfl #[.slice Ao8 t205.length co8] rfl (by (try simp only [List.map_toArray,List.map_cons,List.map_nil]);first|done|rfl|(simp only [List.length_drop,List.length_take];rfl)) ?_;(with_reducible refine (spec_l34Clauses.calls k _ _ t205 t208 _ ?side1 ?side2 A4.out).mono ?_);(case side1 => repeat (first|exact (Kd.N_reads' HO207.out).2.2|(with_reducible refine Kd.C_alloc ?_ _)|(with_reducible refine Kd.C_drewN ?_ _)|(with_reducible refine Kd.C_drew ?_)));(case side2 => exact (Kd.N_reads' HO207.out).2.1);rintro e w9 ⟨v209,rfl,ho0,hb⟩;refine ⟨_,rfl,?_⟩;have n0_:=Aside0.mk (Kd.V_elder' (by (with_reducible repeat (first|apply Kd.V_alloc|apply Kd.V_drewN|apply Kd.V_drew));exact HO0_0.out) (by first|exact Kd.N_base ho0|exact Kd.R_base ho0) hb);have n1_:=Aside0.mk (Kd.N_elder' (by (with_reducible repeat (first|apply Kd.N_alloc|apply Kd.N_drewN|apply Kd.N_drew));exact HO207.out) (by first|exact Kd.N_base ho0|exact Kd.R_base ho0) hb);have n2_:=Aside0.mk (Kd.N_lower (Kd.N_mono (ok':=fun k_ => (P0_0_ k_ ∨ w.heap.size ≤ k_) ∧ some k_ ≠ (.slice Ao8 t205.length co8 : Value).ownBlock ∧ k_ ≠ gb204) (Kd.R_N (Kd.R_bound ho0)) (fun k_ hk_ => ⟨(.inr (Nat.le_trans (below_size (by repeat (first|(with_reducible first|exact HB.out|apply below_alloc|apply pw_below_drewN|apply below_drew1|refine below_set ?_ GE204.out)|exact HB.out))) hk_.2.1)),(Kd.fresh' (Kd.N_lt (by (with_reducible repeat (first|apply Kd.N_alloc|apply Kd.N_drewN|apply Kd.N_drew));exact HO207.out)) k_ hk_.2.1),(Kd.freshB (g:=gb204) (o:=.cells #[.slice A0_0 l0_0.length c0_0,.slice A0_1 l0_1.length c0_1] 41 (0,0)) (by (with_reducible repeat (first|refine blk_drewN ?_ _|refine blk_drew ?_|refine blk_alloc ?_ _));exact BK204.out) k_ hk_.2.1)⟩)) (below_size (by repeat (first|(with_reducible first|exact HB.out|apply below_alloc|apply pw_below_drewN|apply below_drew1|refine below_set ?_ GE204.out)|exact HB.out))));have n3_:=Aside0.mk (blk_below (g:=gb204) (o:=.cells #[.slice A0_0 l0_0.length c0_0,.slice A0_1 l0_1.length c0_1] 41 (0,0)) (by (with_reducible repeat (first|refine blk_drewN ?_ _|refine blk_drew ?_|refine blk_alloc ?_ _));exact BK204.out) hb);have n4_:=Aside0.mk (below_step (by repeat (first|(with_reducible first|exact HB.out|apply below_alloc|apply pw_below_drewN|apply below_drew1|refine below_set ?_ GE204.out)|exact HB.out)) hb);clear HO0_0;clear HO207;clear BK204;clear HB;have HO0_0:=n0_;have HO207:=n1_;have HO210:=n2_;have BK204:=n3_;have HB:=n4_;clear n0_ n1_ n2_ n3_ n4_;(try clear hb);(try clear hb2);(try clear hk);(try clear hi);(try clear ho0)))
 go_ret
 exact ⟨_,by first|rfl|(simp [errW_none,errW_some] <;> rfl)|(simp [*,errW_none,errW_some] <;> rfl),by (with_reducible repeat (first|apply Kd.N_alloc|apply Kd.N_drewN|apply Kd.N_drew));exact Kd.N_mono HO210.out (fun _ hk => hk.1),by repeat (first|(with_reducible first|exact HB.out|apply below_alloc|apply pw_below_drewN|apply below_drew1|refine below_set ?_ GE204.out)|exact HB.out)⟩

/-! ### spec_Known: function 16 -/
def spec_Known.l0 : Nat → ByteArray → Int → List (S48) → List ByteArray → Option (Bool)
 | 0,_,_,_,_ => none
 | k + 1,x1,x5,x212000,x212001 => if x5 < (x212001.length : Int) then (if 0 ≤ x5 then (if (rdOf ByteArray.empty x212001 x5).toList = x1.toList then (some true) else (spec_Known.l0 k x1 (wrap64 (x5 + 1)) x212000 x212001)) else (none)) else ((spec_ClausesOf.f k x212000 x212001 x1).bind fun t213 => (some (decide ((t213.length : Int) > 0))))
def spec_Known.f (k : Nat) (l0_0 : List (S48)) (l0_1 : List ByteArray) (a1 : ByteArray) : Option (Bool):=spec_Known.l0 k a1 0 l0_0 l0_1
theorem spec_Known.mono_l : ∀ k,(∀ y0 y1 y2 y3,LeO (spec_Known.l0 k y0 y1 y2 y3) (spec_Known.l0 (k + 1) y0 y1 y2 y3))
 | 0 => fun _ _ _ _ r h => by simp [spec_Known.l0] at h
 | k + 1 => by
  have ih0:=spec_Known.mono_l k
  ·intro y0 y1 y2 y3
   unfold spec_Known.l0
   repeat' first
   | (with_reducible exact ih0 _ _ _ _)
   | (with_reducible exact spec_ClausesOf.mono _ _ _ _)
   | (with_reducible exact LeO.refl _)
   | (with_reducible exact LeO.none _)
   | (with_reducible refine LeO.ite ?_ ?_)
   | (with_reducible refine LeO.bind ?_ (fun _ => ?_))
   | exact ih0 _ _ _ _
   | exact spec_ClausesOf.mono _ _ _ _
   | exact LeO.none _
   | refine LeO.ite ?_ ?_
   | refine LeO.bind ?_ (fun _ => ?_)
theorem spec_Known.mono : ∀ a0 a1 a2 k,LeO (spec_Known.f k a0 a1 a2) (spec_Known.f (k + 1) a0 a1 a2):=by
 intro a0 a1 a2 k
 have ih0:=spec_Known.mono_l k
 unfold spec_Known.f
 repeat' first
   | (with_reducible exact ih0 _ _ _ _)
   | (with_reducible exact spec_ClausesOf.mono _ _ _ _)
   | (with_reducible exact LeO.refl _)
   | (with_reducible exact LeO.none _)
   | (with_reducible refine LeO.ite ?_ ?_)
   | (with_reducible refine LeO.bind ?_ (fun _ => ?_))
   | exact ih0 _ _ _ _
   | exact spec_ClausesOf.mono _ _ _ _
   | exact LeO.none _
   | refine LeO.ite ?_ ?_
   | refine LeO.bind ?_ (fun _ => ?_)
set_option maxHeartbeats 8000000 in
set_option maxRecDepth 100000 in
theorem spec_Known.calls (k : Nat) (A0_0 : Option Addr) (c0_0 : Nat) (l0_0 : List (S48)) (A0_1 : Option Addr) (c0_1 : Nat) (l0_1 : List ByteArray) (a1 : ByteArray) (r : Bool) (w : World) (hr0_0 : Kd.C k48 w A0_0 l0_0.length l0_0) (hc0_0 : l0_0.length ≤ c0_0) (hr0_1 : Kd.C Kd.string w A0_1 l0_1.length l0_1) (hc0_1 : l0_1.length ≤ c0_1) (h : spec_Known.f k l0_0 l0_1 a1 = some r) :
  Calls Tryd.prog 16 #[.agg #[.slice A0_0 l0_0.length c0_0,.slice A0_1 l0_1.length c0_1],.string a1] w fun e w' => e = .returned (.bool r) ∧ Below w.heap.size w w':=by
 have hu41:=Tryd.underlying41
 have HR0_0:=Aside0.mk hr0_0
 have HC0_0:=Aside0.mk hc0_0
 clear hr0_0 hc0_0
 have HR0_1:=Aside0.mk hr0_1
 have HC0_1:=Aside0.mk hc0_1
 clear hr0_1 hc0_1
 have HB:=Aside0.mk (Below.refl w.heap.size w)
 have H : (spec_Known.l0 k a1 0 l0_0 l0_1) = some r:=h
 clear h
 have H':=Aside0.mk H
 clear H
 go_enter Tryd.func16,Tryd.ntmps16
 go_wp2_with (first|((with_reducible refine gate_dst (N:=2) rfl ?_);refine box_event ?hg (N:=2) ?hd (cs:=#[.slice A0_0 l0_0.length c0_0,.slice A0_1 l0_1.length c0_1]) (t:=41) ?hr ?_;(case hd => rfl);(case hg => rfl);(case hr => first|(go_simp;done)|(go_simp;rfl));intro gb211 hg w3 hbox hb;have n0_:=Aside0.mk (below_step (by repeat (first|(with_reducible first|exact HB.out|apply below_alloc|apply pw_below_drewN|apply below_drew1)|exact HB.out)) hb);have n1_:=Aside0.mk (hbox);have n2_:=Aside0.mk ((by rw [hg];exact (below_size (by repeat (first|(with_reducible first|exact HB.out|apply below_alloc|apply pw_below_drewN|apply below_drew1)|exact HB.out))) : w.heap.size ≤ gb211));have n3_:=Aside0.mk ((by rw [hg];exact (below_size (by repeat (first|(with_reducible first|exact HB.out|apply below_alloc|apply pw_below_drewN|apply below_drew1)|exact HB.out))) : w.heap.size ≤ gb211));clear HB;have HB:=n0_;have BK211:=n1_;have GW211:=n2_;have GE211:=n3_;clear n0_ n1_ n2_ n3_;clear hb hbox hg))
 go_loopg [5] k (fun kq v5 w' => ∃ (x5_1 : Int),v5 = .int .i64 x5_1 ∧ Aside0 (spec_Known.l0 kq a1 x5_1 l0_0 l0_1 = some r) ∧ Aside0 (kq ≤ k) ∧ Aside0 (w'.heap[gb211]? = some (.cells #[(.slice A0_0 l0_0.length c0_0),(.slice A0_1 l0_1.length c0_1)] 41 (0,0))) ∧ Aside0 (Below w.heap.size w w'))
 case atStart => exact ⟨(0),(by first|rfl|(simp;done)|(simp [*];done)),H',⟨Nat.le_refl _⟩,⟨by (with_reducible repeat (first|refine blk_drewN ?_ _|refine blk_drew ?_|refine blk_alloc ?_ _));exact BK211.out⟩,⟨by repeat (first|(with_reducible first|exact HB.out|apply below_alloc|apply pw_below_drewN|apply below_drew1|refine below_set ?_ GE211.out)|exact HB.out)⟩⟩
 case round =>
  clear H'
  try clear BK211
  obtain ⟨x5_1,rfl,HA,HK1,BK211,HB⟩:=hrel
  cases gk with
  | zero => exact absurd HA.out (by simp [spec_Known.l0])
  | succ k1 =>
   have H:=HA.out
   clear HA
   simp only [spec_Known.l0] at H
   by_cases c4 : x5_1 < (l0_1.length : Int)
   ·rw [if_pos c4] at H
    have c4b0 : decide (x5_1 < (l0_1.length : Int)) = true:=decide_eq_true c4
    clear c4
    by_cases c5 : 0 ≤ x5_1
    rotate_left
    ·rw [if_neg c5] at H
     exact absurd H (by simp)
    rw [if_pos c5] at H
    have c5b0 : decide (0 ≤ x5_1) = true:=decide_eq_true c5
    clear c5
    by_cases c6 : (rdOf ByteArray.empty l0_1 x5_1).toList = a1.toList
    ·rw [if_pos c6] at H
     have c6b0 : ((rdOf ByteArray.empty l0_1 x5_1).toList == a1.toList) = true:=beq_iff_eq.mpr c6
     have c6b1 : ((rdOf ByteArray.empty l0_1 x5_1).toList != a1.toList) = false:=bne_eq_false_iff_eq.mpr c6
     clear c6
     obtain rfl:=Option.some.inj H
     have hcz7_0 : wr.cell? ⟨gb211,0,none⟩ = some (.slice A0_0 l0_0.length c0_0):=(blk_cell BK211.out 0).trans rfl
     have hcz7_1 : wr.cell? ⟨gb211,1,none⟩ = some (.slice A0_1 l0_1.length c0_1):=(blk_cell BK211.out 1).trans rfl
     have hfz7_0:=blk_frozen BK211.out 0
     have hfz7_1:=blk_frozen BK211.out 1
     have p212 : 0 ≤ (x5_1 : Int):=of_decide_eq_true (by first|(with_reducible assumption)|assumption)
     have q212 : x5_1 < (l0_1.length : Int):=of_decide_eq_true (by first|(with_reducible assumption)|assumption)
     obtain ⟨ad212,e212,hx212_0⟩:=Kd.at_string HR0_1.out x5_1 p212 q212
     cases e212
     replace hx212_0:=(HB.out.cell (World.block_lt_of_cell? w _ hx212_0)).trans hx212_0
     replace p212:=eq_true p212
     replace q212:=eq_true q212
     go_wp2
     go_ret
     exact ⟨by first|rfl|(simp [errW_none,errW_some] <;> rfl)|(simp [*,errW_none,errW_some] <;> rfl),by repeat (first|(with_reducible first|exact HB.out|apply below_alloc|apply pw_below_drewN|apply below_drew1|refine below_set ?_ GE211.out)|exact HB.out)⟩
    ·rw [if_neg c6] at H
     have c6b0 : ((rdOf ByteArray.empty l0_1 x5_1).toList == a1.toList) = false:=beq_eq_false_iff_ne.mpr c6
     have c6b1 : ((rdOf ByteArray.empty l0_1 x5_1).toList != a1.toList) = true:=bne_iff_ne.mpr c6
     have H':=Aside0.mk H
     clear H
     have hcz8_0 : wr.cell? ⟨gb211,0,none⟩ = some (.slice A0_0 l0_0.length c0_0):=(blk_cell BK211.out 0).trans rfl
     have hcz8_1 : wr.cell? ⟨gb211,1,none⟩ = some (.slice A0_1 l0_1.length c0_1):=(blk_cell BK211.out 1).trans rfl
     have hfz8_0:=blk_frozen BK211.out 0
     have hfz8_1:=blk_frozen BK211.out 1
     have p212 : 0 ≤ (x5_1 : Int):=of_decide_eq_true (by first|(with_reducible assumption)|assumption)
     have q212 : x5_1 < (l0_1.length : Int):=of_decide_eq_true (by first|(with_reducible assumption)|assumption)
     obtain ⟨ad212,e212,hx212_0⟩:=Kd.at_string HR0_1.out x5_1 p212 q212
     cases e212
     replace hx212_0:=(HB.out.cell (World.block_lt_of_cell? w _ hx212_0)).trans hx212_0
     replace p212:=eq_true p212
     replace q212:=eq_true q212
     go_wp2
     go_roundg k1
     case measure => have:=HK1.out;omega
     case rel => exact ⟨(wrap64 (x5_1 + 1)),(by first|rfl|(simp;done)|(simp [*];done)),H',⟨by have:=HK1.out;omega⟩,⟨by (with_reducible repeat (first|refine blk_drewN ?_ _|refine blk_drew ?_|refine blk_alloc ?_ _));exact BK211.out⟩,⟨by repeat (first|(with_reducible first|exact HB.out|apply below_alloc|apply pw_below_drewN|apply below_drew1|refine below_set ?_ GE211.out)|exact HB.out)⟩⟩
   ·rw [if_neg c4] at H
    have c4b0 : decide (x5_1 < (l0_1.length : Int)) = false:=decide_eq_false c4
    clear c4
    replace H:=Option.bind_eq_some_iff.mp H
    obtain ⟨t213,A90,H⟩:=H
    replace H : (some (decide ((t213.length : Int) > 0))) = some r:=H
    have A9:=Aside0.mk A90
    clear A90
    obtain rfl:=Option.some.inj H
    have hcz10_0 : wr.cell? ⟨gb211,0,none⟩ = some (.slice A0_0 l0_0.length c0_0):=(blk_cell BK211.out 0).trans rfl
    have hcz10_1 : wr.cell? ⟨gb211,1,none⟩ = some (.slice A0_1 l0_1.length c0_1):=(blk_cell BK211.out 1).trans rfl
    have hfz10_0:=blk_frozen BK211.out 0
    have hfz10_1:=blk_frozen BK211.out 1
    go_wp2_with (first|((with_reducible refine gate_callee (f:=28) rfl ?_);refine goesL_ (some 22) rfl rfl Tryd.func28 (by kernel_rfl) rfl #[.agg #[.slice A0_0 l0_0.length c0_0,.slice A0_1 l0_1.length c0_1],.string a1] rfl (by (try simp only [List.map_toArray,List.map_cons,List.map_nil]);first|done|rfl|(simp only [List.length_drop,List.length_take];rfl)) ?_;(with_reducible refine (spec_ClausesOf.calls k1 (fun k_ => k_ < w.heap.size) _ _ l0_0 _ _ l0_1 a1 t213 _ ?side1 ?side2 ?side3 A9.out).mono ?_);(case side1 => exact Kd.V_mk HC0_0.out (Kd.F_below (Kd.C_F k48_heap HR0_0.out) (by repeat (first|(with_reducible first|exact HB.out|apply below_alloc|apply pw_below_drewN|apply below_drew1|refine below_set ?_ GE211.out)|exact HB.out))));(case side2 => repeat (first|exact (Kd.C_below HR0_1.out HB.out)|(with_reducible refine Kd.C_alloc ?_ _)|(with_reducible refine Kd.C_drewN ?_ _)|(with_reducible refine Kd.C_drew ?_)));(case side3 => exact HC0_1.out);rintro e w11 ⟨v214,rfl,ho0,hb⟩;refine ⟨_,rfl,?_⟩;have n0_:=Aside0.mk (Kd.N_lower (Kd.N_mono (ok':=fun k_ => k_ ≠ gb211) ho0 (fun k_ hk_ => Or.elim hk_ (fun hs_ => fun e_ => Nat.not_le.2 hs_ (by rw [e_];exact GW211.out)) (fun hn_ => (Kd.freshB (g:=gb211) (o:=.cells #[.slice A0_0 l0_0.length c0_0,.slice A0_1 l0_1.length c0_1] 41 (0,0)) (by (with_reducible repeat (first|refine blk_drewN ?_ _|refine blk_drew ?_|refine blk_alloc ?_ _));exact BK211.out) k_ hn_)))) (below_size (by repeat (first|(with_reducible first|exact HB.out|apply below_alloc|apply pw_below_drewN|apply below_drew1|refine below_set ?_ GE211.out)|exact HB.out))));have n1_:=Aside0.mk (blk_below (g:=gb211) (o:=.cells #[.slice A0_0 l0_0.length c0_0,.slice A0_1 l0_1.length c0_1] 41 (0,0)) (by (with_reducible repeat (first|refine blk_drewN ?_ _|refine blk_drew ?_|refine blk_alloc ?_ _));exact BK211.out) hb);have n2_:=Aside0.mk (below_step (by repeat (first|(with_reducible first|exact HB.out|apply below_alloc|apply pw_below_drewN|apply below_drew1|refine below_set ?_ GE211.out)|exact HB.out)) hb);clear BK211;clear HB;have HO215:=n0_;have BK211:=n1_;have HB:=n2_;clear n0_ n1_ n2_;(try clear hb);(try clear hb2);(try clear hk);(try clear hi);(try clear ho0);obtain ⟨Ao12,co12,eo12⟩:=Kd.N_slice HO215.out;subst eo12))
    go_ret
    exact ⟨by first|rfl|(simp [errW_none,errW_some] <;> rfl)|(simp [*,errW_none,errW_some] <;> rfl),by repeat (first|(with_reducible first|exact HB.out|apply below_alloc|apply pw_below_drewN|apply below_drew1|refine below_set ?_ GE211.out)|exact HB.out)⟩

/-! ### laws_toClause: function 36 -/
def laws_toClause.f (k : Nat) (a0_0 : Int) (a0_1 : ByteArray) (a0_2 : Int) (l0_3 : List (S24)) (a0_4 : Int) (a0_5 : ByteArray) (a0_6 : Int) (l0_7 : List (S24)) (a0_8 : ByteArray) : Option (Int × ByteArray × Int × (List (S29)) × Int × ByteArray × Int × (List (S29)) × ByteArray):=(laws_toTerm.f k a0_0 a0_1 a0_2 l0_3).bind fun bt219 => ((laws_toTerm.f k a0_4 a0_5 a0_6 l0_7).bind fun bt225 => (some (bt219.1,bt219.2.1,bt219.2.2.1,bt219.2.2.2,bt225.1,bt225.2.1,bt225.2.2.1,bt225.2.2.2,a0_8)))
theorem laws_toClause.mono : ∀ a0 a1 a2 a3 a4 a5 a6 a7 a8 k,LeO (laws_toClause.f k a0 a1 a2 a3 a4 a5 a6 a7 a8) (laws_toClause.f (k + 1) a0 a1 a2 a3 a4 a5 a6 a7 a8):=by
 intro a0 a1 a2 a3 a4 a5 a6 a7 a8 k
 unfold laws_toClause.f
 repeat' first
   | (with_reducible exact laws_toTerm.mono _ _ _ _ _)
   | (with_reducible exact LeO.refl _)
   | (with_reducible exact LeO.none _)
   | (with_reducible refine LeO.ite ?_ ?_)
   | (with_reducible refine LeO.bind ?_ (fun _ => ?_))
   | exact laws_toTerm.mono _ _ _ _ _
   | exact LeO.none _
   | refine LeO.ite ?_ ?_
   | refine LeO.bind ?_ (fun _ => ?_)
set_option maxHeartbeats 8000000 in
set_option maxRecDepth 100000 in
theorem laws_toClause.calls (k : Nat) (a0_0 : Int) (a0_1 : ByteArray) (a0_2 : Int) (A0_3 : Option Addr) (c0_3 : Nat) (l0_3 : List (S24)) (a0_4 : Int) (a0_5 : ByteArray) (a0_6 : Int) (A0_7 : Option Addr) (c0_7 : Nat) (l0_7 : List (S24)) (a0_8 : ByteArray) (r1 : Int) (r2 : ByteArray) (r3 : Int) (r4 : List (S29)) (r5 : Int) (r6 : ByteArray) (r7 : Int) (r8 : List (S29)) (r9 : ByteArray) (w : World) (hr0_3 : Kd.C k24 w A0_3 l0_3.length l0_3) (hc0_3 : l0_3.length ≤ c0_3) (hr0_7 : Kd.C k24 w A0_7 l0_7.length l0_7) (hc0_7 : l0_7.length ≤ c0_7) (h : laws_toClause.f k a0_0 a0_1 a0_2 l0_3 a0_4 a0_5 a0_6 l0_7 a0_8 = some (r1,r2,r3,r4,r5,r6,r7,r8,r9)) :
  Calls Tryd.prog 36 #[.agg #[.int .i64 a0_0,.string a0_1,.int .i64 a0_2,.slice A0_3 l0_3.length c0_3,.int .i64 a0_4,.string a0_5,.int .i64 a0_6,.slice A0_7 l0_7.length c0_7,.string a0_8]] w fun e w' => ∃ v3_ v7_ : Value,e = .returned (.agg #[.int .i64 r1,.string r2,.int .i64 r3,v3_,.int .i64 r5,.string r6,.int .i64 r7,v7_,.string r9]) ∧ Kd.R k29 29 w' w.heap.size (fun k_ => some k_ ≠ (v7_ : Value).ownBlock) v3_ r4 ∧ Kd.R k29 29 w' w.heap.size (fun k_ => some k_ ≠ (v3_ : Value).ownBlock) v7_ r8 ∧ Below w.heap.size w w':=by
 have hu60:=Tryd.underlying60
 have hu48:=Tryd.underlying48
 have hu24:=Tryd.underlying24
 have hu29:=Tryd.underlying29
 have HR0_3:=Aside0.mk hr0_3
 have HC0_3:=Aside0.mk hc0_3
 clear hr0_3 hc0_3
 have HR0_7:=Aside0.mk hr0_7
 have HC0_7:=Aside0.mk hc0_7
 clear hr0_7 hc0_7
 have HB:=Aside0.mk (Below.refl w.heap.size w)
 have H : ((laws_toTerm.f k a0_0 a0_1 a0_2 l0_3).bind fun bt219 => ((laws_toTerm.f k a0_4 a0_5 a0_6 l0_7).bind fun bt225 => (some (bt219.1,bt219.2.1,bt219.2.2.1,bt219.2.2.2,bt225.1,bt225.2.1,bt225.2.2.1,bt225.2.2.2,a0_8)))) = some (r1,r2,r3,r4,r5,r6,r7,r8,r9):=h
 clear h
 replace H:=Option.bind_eq_some_iff.mp H
 obtain ⟨⟨t219,t220,t221,t222⟩,A20,H⟩:=H
 replace H : ((laws_toTerm.f k a0_4 a0_5 a0_6 l0_7).bind fun bt225 => (some (t219,t220,t221,t222,bt225.1,bt225.2.1,bt225.2.2.1,bt225.2.2.2,a0_8))) = some (r1,r2,r3,r4,r5,r6,r7,r8,r9):=H
 have A2:=Aside0.mk A20
 clear A20
 replace H:=Option.bind_eq_some_iff.mp H
 obtain ⟨⟨t225,t226,t227,t228⟩,A30,H⟩:=H
 replace H : (some (t219,t220,t221,t222,t225,t226,t227,t228,a0_8)) = some (r1,r2,r3,r4,r5,r6,r7,r8,r9):=H
 have A3:=Aside0.mk A30
 clear A30
 simp only [Option.some.injEq,Prod.mk.injEq] at H
 obtain ⟨rfl,rfl,rfl,rfl,rfl,rfl,rfl,rfl,rfl⟩:=H
 go_enter Tryd.func36,Tryd.ntmps36
 go_wp2_with (first|((with_reducible refine gate_dst (N:=1) rfl ?_);refine box_event ?hg (N:=1) ?hd (cs:=#[.int .i64 a0_0,.string a0_1,.int .i64 a0_2,.slice A0_3 l0_3.length c0_3,.int .i64 a0_4,.string a0_5,.int .i64 a0_6,.slice A0_7 l0_7.length c0_7,.string a0_8]) (t:=60) ?hr ?_;(case hd => rfl);(case hg => rfl);(case hr => first|(go_simp;done)|(go_simp;rfl));intro gb216 hg w4 hbox hb;have n0_:=Aside0.mk (below_step (by repeat (first|(with_reducible first|exact HB.out|apply below_alloc|apply pw_below_drewN|apply below_drew1)|exact HB.out)) hb);have n1_:=Aside0.mk (hbox);have n2_:=Aside0.mk ((by rw [hg];exact (below_size (by repeat (first|(with_reducible first|exact HB.out|apply below_alloc|apply pw_below_drewN|apply below_drew1)|exact HB.out))) : w.heap.size ≤ gb216));have n3_:=Aside0.mk ((by rw [hg];exact (below_size (by repeat (first|(with_reducible first|exact HB.out|apply below_alloc|apply pw_below_drewN|apply below_drew1)|exact HB.out))) : w.heap.size ≤ gb216));clear HB;have HB:=n0_;have BK216:=n1_;have GW216:=n2_;have GE216:=n3_;clear n0_ n1_ n2_ n3_;clear hb hbox hg)|((with_reducible refine gate_dst (N:=2) rfl ?_);refine box_event ?hg (N:=2) ?hd (cs:=#[.int .i64 0,.string (⟨#[]⟩ : ByteArray),.int .i64 0,.slice none 0 0,.int .i64 0,.string (⟨#[]⟩ : ByteArray),.int .i64 0,.slice none 0 0,.string (⟨#[]⟩ : ByteArray)]) (t:=48) ?hr ?_;(case hd => rfl);(case hg => rfl);(case hr => first|(go_simp;done)|(go_simp;rfl));intro gb217 hg w5 hbox hb;have n0_:=Aside0.mk (blk_below (g:=gb216) (o:=.cells #[.int .i64 a0_0,.string a0_1,.int .i64 a0_2,.slice A0_3 l0_3.length c0_3,.int .i64 a0_4,.string a0_5,.int .i64 a0_6,.slice A0_7 l0_7.length c0_7,.string a0_8] 60 (0,0)) (by (with_reducible repeat (first|refine blk_drewN ?_ _|refine blk_drew ?_|refine blk_alloc ?_ _));exact BK216.out) hb);have n1_:=Aside0.mk (below_step (by repeat (first|(with_reducible first|exact HB.out|apply below_alloc|apply pw_below_drewN|apply below_drew1|refine below_set ?_ GE216.out)|exact HB.out)) hb);have n2_:=Aside0.mk (hbox);have n3_:=Aside0.mk ((by rw [hg];exact (below_size (by repeat (first|(with_reducible first|exact HB.out|apply below_alloc|apply pw_below_drewN|apply below_drew1|refine below_set ?_ GE216.out)|exact HB.out))) : w.heap.size ≤ gb217));have n4_:=Aside0.mk ((by rw [hg];exact (below_size (by repeat (first|(with_reducible first|exact HB.out|apply below_alloc|apply pw_below_drewN|apply below_drew1|refine below_set ?_ GE216.out)|exact HB.out))) : w.heap.size ≤ gb217));have n5_:=Aside0.mk ((by rw [hg];exact Nat.ne_of_lt (blk_lt (g:=gb216) (o:=.cells #[.int .i64 a0_0,.string a0_1,.int .i64 a0_2,.slice A0_3 l0_3.length c0_3,.int .i64 a0_4,.string a0_5,.int .i64 a0_6,.slice A0_7 l0_7.length c0_7,.string a0_8] 60 (0,0)) (by (with_reducible repeat (first|refine blk_drewN ?_ _|refine blk_drew ?_|refine blk_alloc ?_ _));exact BK216.out)) : gb216 ≠ gb217));have n6_:=Aside0.mk ((by rw [hg];exact Nat.ne_of_gt (blk_lt (g:=gb216) (o:=.cells #[.int .i64 a0_0,.string a0_1,.int .i64 a0_2,.slice A0_3 l0_3.length c0_3,.int .i64 a0_4,.string a0_5,.int .i64 a0_6,.slice A0_7 l0_7.length c0_7,.string a0_8] 60 (0,0)) (by (with_reducible repeat (first|refine blk_drewN ?_ _|refine blk_drew ?_|refine blk_alloc ?_ _));exact BK216.out)) : gb217 ≠ gb216));clear BK216;clear HB;have BK216:=n0_;have HB:=n1_;have BK217:=n2_;have GW217:=n3_;have GE217:=n4_;have NB216_217:=n5_;have NB217_216:=n6_;clear n0_ n1_ n2_ n3_ n4_ n5_ n6_;clear hb hbox hg)|((with_reducible refine gate_dst (N:=3) rfl ?_);refine box_event ?hg (N:=3) ?hd (cs:=#[.int .i64 0,.string (⟨#[]⟩ : ByteArray),.int .i64 0,.slice none 0 0,.int .i64 0,.string (⟨#[]⟩ : ByteArray),.int .i64 0,.slice none 0 0,.string (⟨#[]⟩ : ByteArray)]) (t:=48) ?hr ?_;(case hd => rfl);(case hg => rfl);(case hr => first|(go_simp;done)|(go_simp;rfl));intro gb218 hg w6 hbox hb;have n0_:=Aside0.mk (blk_below (g:=gb216) (o:=.cells #[.int .i64 a0_0,.string a0_1,.int .i64 a0_2,.slice A0_3 l0_3.length c0_3,.int .i64 a0_4,.string a0_5,.int .i64 a0_6,.slice A0_7 l0_7.length c0_7,.string a0_8] 60 (0,0)) (by (with_reducible repeat (first|refine blk_drewN ?_ _|refine blk_drew ?_|refine blk_alloc ?_ _));exact BK216.out) hb);have n1_:=Aside0.mk (blk_below (g:=gb217) (o:=.cells #[.int .i64 0,.string (⟨#[]⟩ : ByteArray),.int .i64 0,.slice none 0 0,.int .i64 0,.string (⟨#[]⟩ : ByteArray),.int .i64 0,.slice none 0 0,.string (⟨#[]⟩ : ByteArray)] 48 (0,0)) (by (with_reducible repeat (first|refine blk_drewN ?_ _|refine blk_drew ?_|refine blk_alloc ?_ _));exact BK217.out) hb);have n2_:=Aside0.mk (below_step (by repeat (first|(with_reducible first|exact HB.out|apply below_alloc|apply pw_below_drewN|apply below_drew1|refine below_set ?_ GE216.out|refine below_set ?_ GE217.out)|exact HB.out)) hb);have n3_:=Aside0.mk (hbox);have n4_:=Aside0.mk ((by rw [hg];exact (below_size (by repeat (first|(with_reducible first|exact HB.out|apply below_alloc|apply pw_below_drewN|apply below_drew1|refine below_set ?_ GE216.out|refine below_set ?_ GE217.out)|exact HB.out))) : w.heap.size ≤ gb218));have n5_:=Aside0.mk ((by rw [hg];exact (below_size (by repeat (first|(with_reducible first|exact HB.out|apply below_alloc|apply pw_below_drewN|apply below_drew1|refine below_set ?_ GE216.out|refine below_set ?_ GE217.out)|exact HB.out))) : w.heap.size ≤ gb218));have n6_:=Aside0.mk ((by rw [hg];exact Nat.ne_of_lt (blk_lt (g:=gb216) (o:=.cells #[.int .i64 a0_0,.string a0_1,.int .i64 a0_2,.slice A0_3 l0_3.length c0_3,.int .i64 a0_4,.string a0_5,.int .i64 a0_6,.slice A0_7 l0_7.length c0_7,.string a0_8] 60 (0,0)) (by (with_reducible repeat (first|refine blk_drewN ?_ _|refine blk_drew ?_|refine blk_alloc ?_ _));exact BK216.out)) : gb216 ≠ gb218));have n7_:=Aside0.mk ((by rw [hg];exact Nat.ne_of_gt (blk_lt (g:=gb216) (o:=.cells #[.int .i64 a0_0,.string a0_1,.int .i64 a0_2,.slice A0_3 l0_3.length c0_3,.int .i64 a0_4,.string a0_5,.int .i64 a0_6,.slice A0_7 l0_7.length c0_7,.string a0_8] 60 (0,0)) (by (with_reducible repeat (first|refine blk_drewN ?_ _|refine blk_drew ?_|refine blk_alloc ?_ _));exact BK216.out)) : gb218 ≠ gb216));have n8_:=Aside0.mk ((by rw [hg];exact Nat.ne_of_lt (blk_lt (g:=gb217) (o:=.cells #[.int .i64 0,.string (⟨#[]⟩ : ByteArray),.int .i64 0,.slice none 0 0,.int .i64 0,.string (⟨#[]⟩ : ByteArray),.int .i64 0,.slice none 0 0,.string (⟨#[]⟩ : ByteArray)] 48 (0,0)) (by (with_reducible repeat (first|refine blk_drewN ?_ _|refine blk_drew ?_|refine blk_alloc ?_ _));exact BK217.out)) : gb217 ≠ gb218));have n9_:=Aside0.mk ((by rw [hg];exact Nat.ne_of_gt (blk_lt (g:=gb217) (o:=.cells #[.int .i64 0,.string (⟨#[]⟩ : ByteArray),.int .i64 0,.slice none 0 0,.int .i64 0,.string (⟨#[]⟩ : ByteArray),.int .i64 0,.slice none 0 0,.string (⟨#[]⟩ : ByteArray)] 48 (0,0)) (by (with_reducible repeat (first|refine blk_drewN ?_ _|refine blk_drew ?_|refine blk_alloc ?_ _));exact BK217.out)) : gb218 ≠ gb217));clear BK216;clear BK217;clear HB;have BK216:=n0_;have BK217:=n1_;have HB:=n2_;have BK218:=n3_;have GW218:=n4_;have GE218:=n5_;have NB216_218:=n6_;have NB218_216:=n7_;have NB217_218:=n8_;have NB218_217:=n9_;clear n0_ n1_ n2_ n3_ n4_ n5_ n6_ n7_ n8_ n9_;clear hb hbox hg;have hnb7:=NB216_217.out;have hnc7:=NB217_216.out;have hnb8:=NB216_218.out;have hnc8:=NB218_216.out;have hcz9_0 : w6.cell? ⟨gb216,0,none⟩ = some (.int .i64 a0_0):=(blk_cell BK216.out 0).trans rfl;have hcz9_1 : w6.cell? ⟨gb216,1,none⟩ = some (.string a0_1):=(blk_cell BK216.out 1).trans rfl;have hcz9_2 : w6.cell? ⟨gb216,2,none⟩ = some (.int .i64 a0_2):=(blk_cell BK216.out 2).trans rfl;have hcz9_3 : w6.cell? ⟨gb216,3,none⟩ = some (.slice A0_3 l0_3.length c0_3):=(blk_cell BK216.out 3).trans rfl;have hcz9_4 : w6.cell? ⟨gb216,4,none⟩ = some (.int .i64 a0_4):=(blk_cell BK216.out 4).trans rfl;have hcz9_5 : w6.cell? ⟨gb216,5,none⟩ = some (.string a0_5):=(blk_cell BK216.out 5).trans rfl;have hcz9_6 : w6.cell? ⟨gb216,6,none⟩ = some (.int .i64 a0_6):=(blk_cell BK216.out 6).trans rfl;have hcz9_7 : w6.cell? ⟨gb216,7,none⟩ = some (.slice A0_7 l0_7.length c0_7):=(blk_cell BK216.out 7).trans rfl;have hcz9_8 : w6.cell? ⟨gb216,8,none⟩ = some (.string a0_8):=(blk_cell BK216.out 8).trans rfl;have hfz9_0:=blk_frozen BK216.out 0;have hfz9_1:=blk_frozen BK216.out 1;have hfz9_2:=blk_frozen BK216.out 2;have hfz9_3:=blk_frozen BK216.out 3;have hfz9_4:=blk_frozen BK216.out 4;have hfz9_5:=blk_frozen BK216.out 5;have hfz9_6:=blk_frozen BK216.out 6;have hfz9_7:=blk_frozen BK216.out 7;have hfz9_8:=blk_frozen BK216.out 8)|((with_reducible refine gate_callee (f:=12) rfl ?_);refine goesL_ (some 6) rfl rfl Tryd.func12 (by kernel_rfl) rfl #[.agg #[.int .i64 a0_0,.string a0_1,.int .i64 a0_2,.slice A0_3 l0_3.length c0_3]] rfl (by (try simp only [List.map_toArray,List.map_cons,List.map_nil]);first|done|rfl|(simp only [List.length_drop,List.length_take];rfl)) ?_;(with_reducible refine (laws_toTerm.calls k a0_0 a0_1 a0_2 _ _ l0_3 t219 t220 t221 t222 _ ?side1 ?side2 A2.out).mono ?_);(case side1 => repeat (first|exact (Kd.C_below HR0_3.out HB.out)|(with_reducible refine Kd.C_alloc ?_ _)|(with_reducible refine Kd.C_drewN ?_ _)|(with_reducible refine Kd.C_drew ?_)));(case side2 => exact HC0_3.out);rintro e w10 ⟨v223,rfl,ho0,hb⟩;refine ⟨_,rfl,?_⟩;have n0_:=Aside0.mk (Kd.R_lower ho0 (below_size (by repeat (first|(with_reducible first|exact HB.out|apply below_alloc|apply pw_below_drewN|apply below_drew1|refine below_set ?_ GE216.out|refine below_set ?_ GE217.out|refine below_set ?_ GE218.out)|exact HB.out))));have n1_:=Aside0.mk (blk_below (g:=gb216) (o:=.cells #[.int .i64 a0_0,.string a0_1,.int .i64 a0_2,.slice A0_3 l0_3.length c0_3,.int .i64 a0_4,.string a0_5,.int .i64 a0_6,.slice A0_7 l0_7.length c0_7,.string a0_8] 60 (0,0)) (by (with_reducible repeat (first|refine blk_drewN ?_ _|refine blk_drew ?_|refine blk_alloc ?_ _));exact BK216.out) hb);have n2_:=Aside0.mk (blk_below (g:=gb217) (o:=.cells #[.int .i64 0,.string (⟨#[]⟩ : ByteArray),.int .i64 0,.slice none 0 0,.int .i64 0,.string (⟨#[]⟩ : ByteArray),.int .i64 0,.slice none 0 0,.string (⟨#[]⟩ : ByteArray)] 48 (0,0)) (by (with_reducible repeat (first|refine blk_drewN ?_ _|refine blk_drew ?_|refine blk_alloc ?_ _));exact BK217.out) hb);have n3_:=Aside0.mk (blk_below (g:=gb218) (o:=.cells #[.int .i64 0,.string (⟨#[]⟩ : ByteArray),.int .i64 0,.slice none 0 0,.int .i64 0,.string (⟨#[]⟩ : ByteArray),.int .i64 0,.slice none 0 0,.string (⟨#[]⟩ : ByteArray)] 48 (0,0)) (by (with_reducible repeat (first|refine blk_drewN ?_ _|refine blk_drew ?_|refine blk_alloc ?_ _));exact BK218.out) hb);have n4_:=Aside0.mk (below_step (by repeat (first|(with_reducible first|exact HB.out|apply below_alloc|apply pw_below_drewN|apply below_drew1|refine below_set ?_ GE216.out|refine below_set ?_ GE217.out|refine below_set ?_ GE218.out)|exact HB.out)) hb);clear BK216;clear BK217;clear BK218;clear HB;have HO224:=n0_;have BK216:=n1_;have BK217:=n2_;have BK218:=n3_;have HB:=n4_;clear n0_ n1_ n2_ n3_ n4_;(try clear hb);(try clear hb2);(try clear hk);(try clear hi);(try clear ho0);have hnb11:=NB218_217.out;have hnc11:=NB217_218.out;have hcz12_0 : w10.cell? ⟨gb218,0,none⟩ = some (.int .i64 0):=(blk_cell BK218.out 0).trans rfl;have hcz12_1 : w10.cell? ⟨gb218,1,none⟩ = some (.string (⟨#[]⟩ : ByteArray)):=(blk_cell BK218.out 1).trans rfl;have hcz12_2 : w10.cell? ⟨gb218,2,none⟩ = some (.int .i64 0):=(blk_cell BK218.out 2).trans rfl;have hcz12_3 : w10.cell? ⟨gb218,3,none⟩ = some (.slice none 0 0):=(blk_cell BK218.out 3).trans rfl;have hcz12_4 : w10.cell? ⟨gb218,4,none⟩ = some (.int .i64 0):=(blk_cell BK218.out 4).trans rfl;have hcz12_5 : w10.cell? ⟨gb218,5,none⟩ = some (.string (⟨#[]⟩ : ByteArray)):=(blk_cell BK218.out 5).trans rfl;have hcz12_6 : w10.cell? ⟨gb218,6,none⟩ = some (.int .i64 0):=(blk_cell BK218.out 6).trans rfl;have hcz12_7 : w10.cell? ⟨gb218,7,none⟩ = some (.slice none 0 0):=(blk_cell BK218.out 7).trans rfl;have hcz12_8 : w10.cell? ⟨gb218,8,none⟩ = some (.string (⟨#[]⟩ : ByteArray)):=(blk_cell BK218.out 8).trans rfl;have hfz12_0:=blk_frozen BK218.out 0;have hfz12_1:=blk_frozen BK218.out 1;have hfz12_2:=blk_frozen BK218.out 2;have hfz12_3:=blk_frozen BK218.out 3;have hfz12_4:=blk_frozen BK218.out 4;have hfz12_5:=blk_frozen BK218.out 5;have hfz12_6:=blk_frozen BK218.out 6;have hfz12_7:=blk_frozen BK218.out 7;have hfz12_8:=blk_frozen BK218.out 8;obtain ⟨Ao13,co13,eo13⟩:=Kd.R_slice HO224.out;subst eo13;have hcz14_0 : w10.cell? ⟨gb216,0,none⟩ = some (.int .i64 a0_0):=(blk_cell BK216.out 0).trans rfl;have hcz14_1 : w10.cell? ⟨gb216,1,none⟩ = some (.string a0_1):=(blk_cell BK216.out 1).trans rfl;have hcz14_2 : w10.cell? ⟨gb216,2,none⟩ = some (.int .i64 a0_2):=(blk_cell BK216.out 2).trans rfl;have hcz14_3 : w10.cell? ⟨gb216,3,none⟩ = some (.slice A0_3 l0_3.length c0_3):=(blk_cell BK216.out 3).trans rfl;have hcz14_4 : w10.cell? ⟨gb216,4,none⟩ = some (.int .i64 a0_4):=(blk_cell BK216.out 4).trans rfl;have hcz14_5 : w10.cell? ⟨gb216,5,none⟩ = some (.string a0_5):=(blk_cell BK216.out 5).trans rfl;have hcz14_6 : w10.cell? ⟨gb216,6,none⟩ = some (.int .i64 a0_6):=(blk_cell BK216.out 6).trans rfl;have hcz14_7 : w10.cell? ⟨gb216,7,none⟩ = some (.slice A0_7 l0_7.length c0_7):=(blk_cell BK216.out 7).trans rfl;have hcz14_8 : w10.cell? ⟨gb216,8,none⟩ = some (.string a0_8):=(blk_cell BK216.out 8).trans rfl;have hfz14_0:=blk_frozen BK216.out 0;have hfz14_1:=blk_frozen BK216.out 1;have hfz14_2:=blk_frozen BK216.out 2;have hfz14_3:=blk_frozen BK216.out 3;have hfz14_4:=blk_frozen BK216.out 4;have hfz14_5:=blk_frozen BK216.out 5;have hfz14_6:=blk_frozen BK216.out 6;have hfz14_7:=blk_frozen BK216.out 7;have hfz14_8:=blk_frozen BK216.out 8)|((with_reducible refine gate_callee (f:=12) rfl ?_);refine goesL_ (some 10) rfl rfl Tryd.func12 (by kernel_rfl) rfl #[.agg #[.int .i64 a0_4,.string a0_5,.int .i64 a0_6,.slice A0_7 l0_7.length c0_7]] rfl (by (try simp only [List.map_toArray,List.map_cons,List.map_nil]);first|done|rfl|(simp only [List.length_drop,List.length_take];rfl)) ?_;(with_reducible refine (laws_toTerm.calls k a0_4 a0_5 a0_6 _ _ l0_7 t225 t226 t227 t228 _ ?side1 ?side2 A3.out).mono ?_);(case side1 => exact Kd.C_below HR0_7.out (by repeat (first|(with_reducible first|exact HB.out|apply below_alloc|apply pw_below_drewN|apply below_drew1|refine below_set ?_ GE216.out|refine below_set ?_ GE217.out|refine below_set ?_ GE218.out)|exact HB.out)));(case side2 => exact HC0_7.out);rintro e w15 ⟨v229,rfl,ho0,hb⟩;refine ⟨_,rfl,?_⟩;have n0_:=Aside0.mk (Kd.R_elder' (by (with_reducible repeat (first|apply Kd.R_alloc|apply Kd.R_drewN|apply Kd.R_drew));exact (Kd.R_mono (Kd.R_far (p:=⟨gb218,3,none⟩) (Kd.R_far (p:=⟨gb218,2,none⟩) (Kd.R_far (p:=⟨gb218,1,none⟩) (Kd.R_far (p:=⟨gb218,0,none⟩) (Kd.R_types HO224.out BK218.out (by decide)) (fun _ hk => hk.2) (.int .i64 t219)) (fun _ hk => hk.2) (.string t220)) (fun _ hk => hk.2) (.int .i64 t221)) (fun _ hk => hk.2) (.slice Ao13 t222.length co13)) (fun _ h_ => h_.1))) (Kd.R_base ho0) hb);have n1_:=Aside0.mk (Kd.R_lower (Kd.R_new' ho0 (Kd.R_lt (by (with_reducible repeat (first|apply Kd.R_alloc|apply Kd.R_drewN|apply Kd.R_drew));exact (Kd.R_mono (Kd.R_far (p:=⟨gb218,3,none⟩) (Kd.R_far (p:=⟨gb218,2,none⟩) (Kd.R_far (p:=⟨gb218,1,none⟩) (Kd.R_far (p:=⟨gb218,0,none⟩) (Kd.R_types HO224.out BK218.out (by decide)) (fun _ hk => hk.2) (.int .i64 t219)) (fun _ hk => hk.2) (.string t220)) (fun _ hk => hk.2) (.int .i64 t221)) (fun _ hk => hk.2) (.slice Ao13 t222.length co13)) (fun _ h_ => h_.1))))) (below_size (by repeat (first|(with_reducible first|exact HB.out|apply below_alloc|apply pw_below_drewN|apply below_drew1|refine below_set ?_ GE216.out|refine below_set ?_ GE217.out|refine below_set ?_ GE218.out)|exact HB.out))));have n2_:=Aside0.mk (blk_below (g:=gb216) (o:=.cells #[.int .i64 a0_0,.string a0_1,.int .i64 a0_2,.slice A0_3 l0_3.length c0_3,.int .i64 a0_4,.string a0_5,.int .i64 a0_6,.slice A0_7 l0_7.length c0_7,.string a0_8] 60 (0,0)) (by (with_reducible repeat (first|refine blk_drewN ?_ _|refine blk_drew ?_|refine blk_alloc ?_ _));refine blk_far ?_ NB216_218.out _;(with_reducible repeat (first|refine blk_drewN ?_ _|refine blk_drew ?_|refine blk_alloc ?_ _));refine blk_far ?_ NB216_218.out _;(with_reducible repeat (first|refine blk_drewN ?_ _|refine blk_drew ?_|refine blk_alloc ?_ _));refine blk_far ?_ NB216_218.out _;(with_reducible repeat (first|refine blk_drewN ?_ _|refine blk_drew ?_|refine blk_alloc ?_ _));refine blk_far ?_ NB216_218.out _;(with_reducible repeat (first|refine blk_drewN ?_ _|refine blk_drew ?_|refine blk_alloc ?_ _));exact BK216.out) hb);have n3_:=Aside0.mk (blk_below (g:=gb217) (o:=.cells #[.int .i64 0,.string (⟨#[]⟩ : ByteArray),.int .i64 0,.slice none 0 0,.int .i64 0,.string (⟨#[]⟩ : ByteArray),.int .i64 0,.slice none 0 0,.string (⟨#[]⟩ : ByteArray)] 48 (0,0)) (by (with_reducible repeat (first|refine blk_drewN ?_ _|refine blk_drew ?_|refine blk_alloc ?_ _));refine blk_far ?_ NB217_218.out _;(with_reducible repeat (first|refine blk_drewN ?_ _|refine blk_drew ?_|refine blk_alloc ?_ _));refine blk_far ?_ NB217_218.out _;(with_reducible repeat (first|refine blk_drewN ?_ _|refine blk_drew ?_|refine blk_alloc ?_ _));refine blk_far ?_ NB217_218.out _;(with_reducible repeat (first|refine blk_drewN ?_ _|refine blk_drew ?_|refine blk_alloc ?_ _));refine blk_far ?_ NB217_218.out _;(with_reducible repeat (first|refine blk_drewN ?_ _|refine blk_drew ?_|refine blk_alloc ?_ _));exact BK217.out) hb);have n4_:=Aside0.mk (blk_below (g:=gb218) (o:=.cells #[.int .i64 t219,.string t220,.int .i64 t221,.slice Ao13 t222.length co13,.int .i64 0,.string (⟨#[]⟩ : ByteArray),.int .i64 0,.slice none 0 0,.string (⟨#[]⟩ : ByteArray)] 48 (0,0)) (by (with_reducible repeat (first|refine blk_drewN ?_ _|refine blk_drew ?_|refine blk_alloc ?_ _));refine blk_put (cs:=#[.int .i64 t219,.string t220,.int .i64 t221,.slice none 0 0,.int .i64 0,.string (⟨#[]⟩ : ByteArray),.int .i64 0,.slice none 0 0,.string (⟨#[]⟩ : ByteArray)]) ?_ 3 _ rfl;(with_reducible repeat (first|refine blk_drewN ?_ _|refine blk_drew ?_|refine blk_alloc ?_ _));refine blk_put (cs:=#[.int .i64 t219,.string t220,.int .i64 0,.slice none 0 0,.int .i64 0,.string (⟨#[]⟩ : ByteArray),.int .i64 0,.slice none 0 0,.string (⟨#[]⟩ : ByteArray)]) ?_ 2 _ rfl;(with_reducible repeat (first|refine blk_drewN ?_ _|refine blk_drew ?_|refine blk_alloc ?_ _));refine blk_put (cs:=#[.int .i64 t219,.string (⟨#[]⟩ : ByteArray),.int .i64 0,.slice none 0 0,.int .i64 0,.string (⟨#[]⟩ : ByteArray),.int .i64 0,.slice none 0 0,.string (⟨#[]⟩ : ByteArray)]) ?_ 1 _ rfl;(with_reducible repeat (first|refine blk_drewN ?_ _|refine blk_drew ?_|refine blk_alloc ?_ _));refine blk_put (cs:=#[.int .i64 0,.string (⟨#[]⟩ : ByteArray),.int .i64 0,.slice none 0 0,.int .i64 0,.string (⟨#[]⟩ : ByteArray),.int .i64 0,.slice none 0 0,.string (⟨#[]⟩ : ByteArray)]) ?_ 0 _ rfl;(with_reducible repeat (first|refine blk_drewN ?_ _|refine blk_drew ?_|refine blk_alloc ?_ _));exact BK218.out) hb);have n5_:=Aside0.mk (below_step (by repeat (first|(with_reducible first|exact HB.out|apply below_alloc|apply pw_below_drewN|apply below_drew1|refine below_set ?_ GE216.out|refine below_set ?_ GE217.out|refine below_set ?_ GE218.out)|exact HB.out)) hb);clear HO224;clear BK216;clear BK217;clear BK218;clear HB;have HO224:=n0_;have HO230:=n1_;have BK216:=n2_;have BK217:=n3_;have BK218:=n4_;have HB:=n5_;clear n0_ n1_ n2_ n3_ n4_ n5_;(try clear hb);(try clear hb2);(try clear hk);(try clear hi);(try clear ho0);have hcz16_0 : w15.cell? ⟨gb218,0,none⟩ = some (.int .i64 t219):=(blk_cell BK218.out 0).trans rfl;have hcz16_1 : w15.cell? ⟨gb218,1,none⟩ = some (.string t220):=(blk_cell BK218.out 1).trans rfl;have hcz16_2 : w15.cell? ⟨gb218,2,none⟩ = some (.int .i64 t221):=(blk_cell BK218.out 2).trans rfl;have hcz16_3 : w15.cell? ⟨gb218,3,none⟩ = some (.slice Ao13 t222.length co13):=(blk_cell BK218.out 3).trans rfl;have hcz16_4 : w15.cell? ⟨gb218,4,none⟩ = some (.int .i64 0):=(blk_cell BK218.out 4).trans rfl;have hcz16_5 : w15.cell? ⟨gb218,5,none⟩ = some (.string (⟨#[]⟩ : ByteArray)):=(blk_cell BK218.out 5).trans rfl;have hcz16_6 : w15.cell? ⟨gb218,6,none⟩ = some (.int .i64 0):=(blk_cell BK218.out 6).trans rfl;have hcz16_7 : w15.cell? ⟨gb218,7,none⟩ = some (.slice none 0 0):=(blk_cell BK218.out 7).trans rfl;have hcz16_8 : w15.cell? ⟨gb218,8,none⟩ = some (.string (⟨#[]⟩ : ByteArray)):=(blk_cell BK218.out 8).trans rfl;have hfz16_0:=blk_frozen BK218.out 0;have hfz16_1:=blk_frozen BK218.out 1;have hfz16_2:=blk_frozen BK218.out 2;have hfz16_3:=blk_frozen BK218.out 3;have hfz16_4:=blk_frozen BK218.out 4;have hfz16_5:=blk_frozen BK218.out 5;have hfz16_6:=blk_frozen BK218.out 6;have hfz16_7:=blk_frozen BK218.out 7;have hfz16_8:=blk_frozen BK218.out 8;obtain ⟨Ao17,co17,eo17⟩:=Kd.R_slice HO230.out;subst eo17;have hcz18_0 : w15.cell? ⟨gb216,0,none⟩ = some (.int .i64 a0_0):=(blk_cell BK216.out 0).trans rfl;have hcz18_1 : w15.cell? ⟨gb216,1,none⟩ = some (.string a0_1):=(blk_cell BK216.out 1).trans rfl;have hcz18_2 : w15.cell? ⟨gb216,2,none⟩ = some (.int .i64 a0_2):=(blk_cell BK216.out 2).trans rfl;have hcz18_3 : w15.cell? ⟨gb216,3,none⟩ = some (.slice A0_3 l0_3.length c0_3):=(blk_cell BK216.out 3).trans rfl;have hcz18_4 : w15.cell? ⟨gb216,4,none⟩ = some (.int .i64 a0_4):=(blk_cell BK216.out 4).trans rfl;have hcz18_5 : w15.cell? ⟨gb216,5,none⟩ = some (.string a0_5):=(blk_cell BK216.out 5).trans rfl;have hcz18_6 : w15.cell? ⟨gb216,6,none⟩ = some (.int .i64 a0_6):=(blk_cell BK216.out 6).trans rfl;have hcz18_7 : w15.cell? ⟨gb216,7,none⟩ = some (.slice A0_7 l0_7.length c0_7):=(blk_cell BK216.out 7).trans rfl;have hcz18_8 : w15.cell? ⟨gb216,8,none⟩ = some (.string a0_8):=(blk_cell BK216.out 8).trans rfl;have hfz18_0:=blk_frozen BK216.out 0;have hfz18_1:=blk_frozen BK216.out 1;have hfz18_2:=blk_frozen BK216.out 2;have hfz18_3:=blk_frozen BK216.out 3;have hfz18_4:=blk_frozen BK216.out 4;have hfz18_5:=blk_frozen BK216.out 5;have hfz18_6:=blk_frozen BK216.out 6;have hfz18_7:=blk_frozen BK216.out 7;have hfz18_8:=blk_frozen BK216.out 8;have hcz19_0 : w15.cell? ⟨gb217,0,none⟩ = some (.int .i64 0):=(blk_cell BK217.out 0).trans rfl;have hcz19_1 : w15.cell? ⟨gb217,1,none⟩ = some (.string (⟨#[]⟩ : ByteArray)):=(blk_cell BK217.out 1).trans rfl;have hcz19_2 : w15.cell? ⟨gb217,2,none⟩ = some (.int .i64 0):=(blk_cell BK217.out 2).trans rfl;have hcz19_3 : w15.cell? ⟨gb217,3,none⟩ = some (.slice none 0 0):=(blk_cell BK217.out 3).trans rfl;have hcz19_4 : w15.cell? ⟨gb217,4,none⟩ = some (.int .i64 0):=(blk_cell BK217.out 4).trans rfl;have hcz19_5 : w15.cell? ⟨gb217,5,none⟩ = some (.string (⟨#[]⟩ : ByteArray)):=(blk_cell BK217.out 5).trans rfl;have hcz19_6 : w15.cell? ⟨gb217,6,none⟩ = some (.int .i64 0):=(blk_cell BK217.out 6).trans rfl;have hcz19_7 : w15.cell? ⟨gb217,7,none⟩ = some (.slice none 0 0):=(blk_cell BK217.out 7).trans rfl;have hcz19_8 : w15.cell? ⟨gb217,8,none⟩ = some (.string (⟨#[]⟩ : ByteArray)):=(blk_cell BK217.out 8).trans rfl;have hfz19_0:=blk_frozen BK217.out 0;have hfz19_1:=blk_frozen BK217.out 1;have hfz19_2:=blk_frozen BK217.out 2;have hfz19_3:=blk_frozen BK217.out 3;have hfz19_4:=blk_frozen BK217.out 4;have hfz19_5:=blk_frozen BK217.out 5;have hfz19_6:=blk_frozen BK217.out 6;have hfz19_7:=blk_frozen BK217.out 7;have hfz19_8:=blk_frozen BK217.out 8))
 refine bodyPost_ret (results_cell_row rfl _ _ gb217 48 #[.int .i64 t219,.string t220,.int .i64 t221,.slice Ao13 t222.length co13,.int .i64 t225,.string t226,.int .i64 t227,.slice Ao17 t228.length co17,.string a0_8] (0,0) _ rfl (by (with_reducible repeat (first|refine blk_drewN ?_ _|refine blk_drew ?_|refine blk_alloc ?_ _));refine blk_put (cs:=#[.int .i64 t219,.string t220,.int .i64 t221,.slice Ao13 t222.length co13,.int .i64 t225,.string t226,.int .i64 t227,.slice Ao17 t228.length co17,.string (⟨#[]⟩ : ByteArray)]) ?_ 8 _ rfl;(with_reducible repeat (first|refine blk_drewN ?_ _|refine blk_drew ?_|refine blk_alloc ?_ _));refine blk_put (cs:=#[.int .i64 t219,.string t220,.int .i64 t221,.slice Ao13 t222.length co13,.int .i64 t225,.string t226,.int .i64 t227,.slice none 0 0,.string (⟨#[]⟩ : ByteArray)]) ?_ 7 _ rfl;(with_reducible repeat (first|refine blk_drewN ?_ _|refine blk_drew ?_|refine blk_alloc ?_ _));refine blk_put (cs:=#[.int .i64 t219,.string t220,.int .i64 t221,.slice Ao13 t222.length co13,.int .i64 t225,.string t226,.int .i64 0,.slice none 0 0,.string (⟨#[]⟩ : ByteArray)]) ?_ 6 _ rfl;(with_reducible repeat (first|refine blk_drewN ?_ _|refine blk_drew ?_|refine blk_alloc ?_ _));refine blk_put (cs:=#[.int .i64 t219,.string t220,.int .i64 t221,.slice Ao13 t222.length co13,.int .i64 t225,.string (⟨#[]⟩ : ByteArray),.int .i64 0,.slice none 0 0,.string (⟨#[]⟩ : ByteArray)]) ?_ 5 _ rfl;(with_reducible repeat (first|refine blk_drewN ?_ _|refine blk_drew ?_|refine blk_alloc ?_ _));refine blk_put (cs:=#[.int .i64 t219,.string t220,.int .i64 t221,.slice Ao13 t222.length co13,.int .i64 0,.string (⟨#[]⟩ : ByteArray),.int .i64 0,.slice none 0 0,.string (⟨#[]⟩ : ByteArray)]) ?_ 4 _ rfl;(with_reducible repeat (first|refine blk_drewN ?_ _|refine blk_drew ?_|refine blk_alloc ?_ _));refine blk_put (cs:=#[.int .i64 t219,.string t220,.int .i64 t221,.slice none 0 0,.int .i64 0,.string (⟨#[]⟩ : ByteArray),.int .i64 0,.slice none 0 0,.string (⟨#[]⟩ : ByteArray)]) ?_ 3 _ rfl;(with_reducible repeat (first|refine blk_drewN ?_ _|refine blk_drew ?_|refine blk_alloc ?_ _));refine blk_put (cs:=#[.int .i64 t219,.string t220,.int .i64 0,.slice none 0 0,.int .i64 0,.string (⟨#[]⟩ : ByteArray),.int .i64 0,.slice none 0 0,.string (⟨#[]⟩ : ByteArray)]) ?_ 2 _ rfl;(with_reducible repeat (first|refine blk_drewN ?_ _|refine blk_drew ?_|refine blk_alloc ?_ _));refine blk_put (cs:=#[.int .i64 t219,.string (⟨#[]⟩ : ByteArray),.int .i64 0,.slice none 0 0,.int .i64 0,.string (⟨#[]⟩ : ByteArray),.int .i64 0,.slice none 0 0,.string (⟨#[]⟩ : ByteArray)]) ?_ 1 _ rfl;(with_reducible repeat (first|refine blk_drewN ?_ _|refine blk_drew ?_|refine blk_alloc ?_ _));refine blk_put (cs:=#[.int .i64 0,.string (⟨#[]⟩ : ByteArray),.int .i64 0,.slice none 0 0,.int .i64 0,.string (⟨#[]⟩ : ByteArray),.int .i64 0,.slice none 0 0,.string (⟨#[]⟩ : ByteArray)]) ?_ 0 _ rfl;(with_reducible repeat (first|refine blk_drewN ?_ _|refine blk_drew ?_|refine blk_alloc ?_ _));refine blk_far ?_ NB217_218.out _;(with_reducible repeat (first|refine blk_drewN ?_ _|refine blk_drew ?_|refine blk_alloc ?_ _));refine blk_far ?_ NB217_218.out _;(with_reducible repeat (first|refine blk_drewN ?_ _|refine blk_drew ?_|refine blk_alloc ?_ _));refine blk_far ?_ NB217_218.out _;(with_reducible repeat (first|refine blk_drewN ?_ _|refine blk_drew ?_|refine blk_alloc ?_ _));refine blk_far ?_ NB217_218.out _;(with_reducible repeat (first|refine blk_drewN ?_ _|refine blk_drew ?_|refine blk_alloc ?_ _));refine blk_far ?_ NB217_218.out _;(with_reducible repeat (first|refine blk_drewN ?_ _|refine blk_drew ?_|refine blk_alloc ?_ _));exact BK217.out) Tryd.underlying48 rfl (by kernel_rfl)) rfl ?_
 exact ⟨_,_,by first|rfl|(simp [errW_none,errW_some] <;> rfl)|(simp [*,errW_none,errW_some] <;> rfl),by (with_reducible repeat (first|apply Kd.R_alloc|apply Kd.R_drewN|apply Kd.R_drew));exact Kd.R_mono (Kd.R_far (p:=⟨gb217,8,none⟩) (Kd.R_far (p:=⟨gb217,7,none⟩) (Kd.R_far (p:=⟨gb217,6,none⟩) (Kd.R_far (p:=⟨gb217,5,none⟩) (Kd.R_far (p:=⟨gb217,4,none⟩) (Kd.R_far (p:=⟨gb217,3,none⟩) (Kd.R_far (p:=⟨gb217,2,none⟩) (Kd.R_far (p:=⟨gb217,1,none⟩) (Kd.R_far (p:=⟨gb217,0,none⟩) (Kd.R_far (p:=⟨gb218,8,none⟩) (Kd.R_far (p:=⟨gb218,7,none⟩) (Kd.R_far (p:=⟨gb218,6,none⟩) (Kd.R_far (p:=⟨gb218,5,none⟩) (Kd.R_far (p:=⟨gb218,4,none⟩) (Kd.R_types (Kd.R_types HO224.out BK218.out (by decide)) BK217.out (by decide)) (fun _ hk => hk.1.2) (.int .i64 t225)) (fun _ hk => hk.1.2) (.string t226)) (fun _ hk => hk.1.2) (.int .i64 t227)) (fun _ hk => hk.1.2) (.slice Ao17 t228.length co17)) (fun _ hk => hk.1.2) (.string a0_8)) (fun _ hk => hk.2) (.int .i64 t219)) (fun _ hk => hk.2) (.string t220)) (fun _ hk => hk.2) (.int .i64 t221)) (fun _ hk => hk.2) (.slice Ao13 t222.length co13)) (fun _ hk => hk.2) (.int .i64 t225)) (fun _ hk => hk.2) (.string t226)) (fun _ hk => hk.2) (.int .i64 t227)) (fun _ hk => hk.2) (.slice Ao17 t228.length co17)) (fun _ hk => hk.2) (.string a0_8)) (fun _ hk => hk.1.1.2),by (with_reducible repeat (first|apply Kd.R_alloc|apply Kd.R_drewN|apply Kd.R_drew));exact Kd.R_mono (Kd.R_far (p:=⟨gb217,8,none⟩) (Kd.R_far (p:=⟨gb217,7,none⟩) (Kd.R_far (p:=⟨gb217,6,none⟩) (Kd.R_far (p:=⟨gb217,5,none⟩) (Kd.R_far (p:=⟨gb217,4,none⟩) (Kd.R_far (p:=⟨gb217,3,none⟩) (Kd.R_far (p:=⟨gb217,2,none⟩) (Kd.R_far (p:=⟨gb217,1,none⟩) (Kd.R_far (p:=⟨gb217,0,none⟩) (Kd.R_far (p:=⟨gb218,8,none⟩) (Kd.R_far (p:=⟨gb218,7,none⟩) (Kd.R_far (p:=⟨gb218,6,none⟩) (Kd.R_far (p:=⟨gb218,5,none⟩) (Kd.R_far (p:=⟨gb218,4,none⟩) (Kd.R_types (Kd.R_types HO230.out BK218.out (by decide)) BK217.out (by decide)) (fun _ hk => hk.1.2) (.int .i64 t225)) (fun _ hk => hk.1.2) (.string t226)) (fun _ hk => hk.1.2) (.int .i64 t227)) (fun _ hk => hk.1.2) (.slice Ao17 t228.length co17)) (fun _ hk => hk.1.2) (.string a0_8)) (fun _ hk => hk.2) (.int .i64 t219)) (fun _ hk => hk.2) (.string t220)) (fun _ hk => hk.2) (.int .i64 t221)) (fun _ hk => hk.2) (.slice Ao13 t222.length co13)) (fun _ hk => hk.2) (.int .i64 t225)) (fun _ hk => hk.2) (.string t226)) (fun _ hk => hk.2) (.int .i64 t227)) (fun _ hk => hk.2) (.slice Ao17 t228.length co17)) (fun _ hk => hk.2) (.string a0_8)) (fun _ hk => hk.1.1.2),by repeat (first|(with_reducible first|exact HB.out|apply below_alloc|apply pw_below_drewN|apply below_drew1|refine below_set ?_ GE216.out|refine below_set ?_ GE217.out|refine below_set ?_ GE218.out)|exact HB.out)⟩

/-! ### laws_toClauseS: function 49 -/
def laws_toClauseS.l0 : Nat → List (S60) → List (S48) → Int → Option ((List (S48)))
 | 0,_,_,_ => none
 | k + 1,x0,x3,x4 => if x4 < (x0.length : Int) then (if 0 ≤ x4 then ((laws_toClause.f k ((rd_T60 x0 x4).f0.f0) ((rd_T60 x0 x4).f0.f1) ((rd_T60 x0 x4).f0.f2) ((rd_T60 x0 x4).f0.f3) ((rd_T60 x0 x4).f1.f0) ((rd_T60 x0 x4).f1.f1) ((rd_T60 x0 x4).f1.f2) ((rd_T60 x0 x4).f1.f3) ((rd_T60 x0 x4).f2)).bind fun bt235 => (if x4 < (x3.length : Int) then (laws_toClauseS.l0 k x0 (x3.set (x4 : Int).toNat (⟨(⟨bt235.1,bt235.2.1,bt235.2.2.1,bt235.2.2.2.1⟩ : S29),(⟨bt235.2.2.2.2.1,bt235.2.2.2.2.2.1,bt235.2.2.2.2.2.2.1,bt235.2.2.2.2.2.2.2.1⟩ : S29),bt235.2.2.2.2.2.2.2.2⟩ : S48)) (wrap64 (x4 + 1))) else (none))) else (none)) else (some x3)
def laws_toClauseS.f (k : Nat) (l0 : List (S60)) : Option ((List (S48))):=if 0 ≤ (l0.length : Int) then (if ((l0.length : Int) : Int).toNat ≤ 2199023255552 then (laws_toClauseS.l0 k l0 (List.replicate ((l0.length : Int) : Int).toNat z48) 0) else (none)) else (none)
theorem laws_toClauseS.mono_l : ∀ k,(∀ y0 y1 y2,LeO (laws_toClauseS.l0 k y0 y1 y2) (laws_toClauseS.l0 (k + 1) y0 y1 y2))
 | 0 => fun _ _ _ r h => by simp [laws_toClauseS.l0] at h
 | k + 1 => by
  have ih0:=laws_toClauseS.mono_l k
  ·intro y0 y1 y2
   unfold laws_toClauseS.l0
   repeat' first
   | (with_reducible exact ih0 _ _ _)
   | (with_reducible exact laws_toClause.mono _ _ _ _ _ _ _ _ _ _)
   | (with_reducible exact LeO.refl _)
   | (with_reducible exact LeO.none _)
   | (with_reducible refine LeO.ite ?_ ?_)
   | (with_reducible refine LeO.bind ?_ (fun _ => ?_))
   | exact ih0 _ _ _
   | exact laws_toClause.mono _ _ _ _ _ _ _ _ _ _
   | exact LeO.none _
   | refine LeO.ite ?_ ?_
   | refine LeO.bind ?_ (fun _ => ?_)
theorem laws_toClauseS.mono : ∀ a0 k,LeO (laws_toClauseS.f k a0) (laws_toClauseS.f (k + 1) a0):=by
 intro a0 k
 have ih0:=laws_toClauseS.mono_l k
 unfold laws_toClauseS.f
 repeat' first
   | (with_reducible exact ih0 _ _ _)
   | (with_reducible exact laws_toClause.mono _ _ _ _ _ _ _ _ _ _)
   | (with_reducible exact LeO.refl _)
   | (with_reducible exact LeO.none _)
   | (with_reducible refine LeO.ite ?_ ?_)
   | (with_reducible refine LeO.bind ?_ (fun _ => ?_))
   | exact ih0 _ _ _
   | exact laws_toClause.mono _ _ _ _ _ _ _ _ _ _
   | exact LeO.none _
   | refine LeO.ite ?_ ?_
   | refine LeO.bind ?_ (fun _ => ?_)
set_option maxHeartbeats 8000000 in
set_option maxRecDepth 100000 in
theorem laws_toClauseS.calls (k : Nat) (A0 : Option Addr) (c0 : Nat) (l0 : List (S60)) (r : List (S48)) (w : World) (hr0 : Kd.C k60 w A0 l0.length l0) (hc0 : l0.length ≤ c0) (h : laws_toClauseS.f k l0 = some r) :
  Calls Tryd.prog 49 #[.slice A0 l0.length c0] w fun e w' => ∃ v0_ : Value,e = .returned (v0_) ∧ Kd.R k48 48 w' w.heap.size (fun _ => True) v0_ r ∧ Below w.heap.size w w':=by
 have hu60:=Tryd.underlying60
 have hu48:=Tryd.underlying48
 have HR0:=Aside0.mk hr0
 have HC0:=Aside0.mk hc0
 clear hr0 hc0
 have HB:=Aside0.mk (Below.refl w.heap.size w)
 have H : (if 0 ≤ (l0.length : Int) then (if ((l0.length : Int) : Int).toNat ≤ 2199023255552 then (laws_toClauseS.l0 k l0 (List.replicate ((l0.length : Int) : Int).toNat z48) 0) else (none)) else (none)) = some r:=h
 clear h
 by_cases c2 : 0 ≤ (l0.length : Int)
 rotate_left
 ·rw [if_neg c2] at H
  exact absurd H (by simp)
 rw [if_pos c2] at H
 have c2b0:=eq_true c2
 have c2b1 : decide (0 ≤ (l0.length : Int)) = true:=decide_eq_true c2
 clear c2
 by_cases c3 : ((l0.length : Int) : Int).toNat ≤ 2199023255552
 rotate_left
 ·rw [if_neg c3] at H
  exact absurd H (by simp)
 rw [if_pos c3] at H
 have c3b0:=eq_true c3
 have c3b1 : decide (((l0.length : Int) : Int).toNat ≤ 2199023255552) = true:=decide_eq_true c3
 clear c3
 obtain ⟨y231,hy231⟩ : ∃ y_ : List (S48),y_ = (List.replicate ((l0.length : Int) : Int).toNat z48):=⟨_,rfl⟩
 replace H : (laws_toClauseS.l0 k l0 y231 0) = some r:=by first|(rw [hy231];with_reducible exact H)|(have H2_:=(Option.bind_some _ _).symm.trans H;rw [hy231];with_reducible exact H2_)|(have H2_:=(Option.bind_some _ _).symm.trans H;with_reducible exact H2_)|with_reducible exact H|(rw [hy231];exact H)|exact H
 have Ny231:=Aside0.mk hy231
 clear hy231
 have H':=Aside0.mk H
 clear H
 go_enter Tryd.func49,Tryd.ntmps49
 go_wp2_with (first|((with_reducible refine gate_dst (N:=7) rfl ?_);refine Kd.R_make k48 _ 48 rfl (N:=7) rfl 39 _ _ rfl (l0.length : Int) rfl rfl Tryd.underlying39 (.agg #[(.int .i64 0),(.string ⟨#[]⟩),(.int .i64 0),(.slice none 0 0),(.int .i64 0),(.string ⟨#[]⟩),(.int .i64 0),(.slice none 0 0),(.string ⟨#[]⟩)]) 128 info48 rfl (by decide) (by omega) z48 (ok:=fun _ => True) (okp:=fun _ => True) (k48_mkM _ _ _ z48 (Kd.R_nil _ _ _ _ _) (Kd.R_nil _ _ _ _ _)) (fun _ hk => hk) trivial (of_decide_eq_true (by first|(with_reducible assumption)|assumption)) (Nat.le_trans (Nat.mul_le_mul_right _ (of_decide_eq_true (by first|(with_reducible assumption)|assumption) : (l0.length : Int).toNat ≤ 2199023255552)) (by omega)) (Below.refl _ _) (Nat.le_refl _) ?_;intro v232 w4 ho5 hb hg_ hnew_;clear hg_ hnew_;(first|rw [← Ny231.out] at ho5|(simp only [Int.reduceToNat] at ho5;rw [← Ny231.out] at ho5));have n0_:=Aside0.mk (Kd.R_lower ho5 (below_size (by repeat (first|(with_reducible first|exact HB.out|apply below_alloc|apply pw_below_drewN|apply below_drew1)|exact HB.out))));have n1_:=Aside0.mk (below_step (by repeat (first|(with_reducible first|exact HB.out|apply below_alloc|apply pw_below_drewN|apply below_drew1)|exact HB.out)) hb);clear HB;have HO233:=n0_;have HB:=n1_;clear n0_ n1_;clear hb ho5))
 go_loopg [4] k (fun kq v4 w' => ∃ (x3_1 : List (S48)) (x4_1 : Int),v4 = .int .i64 x4_1 ∧ Aside0 (laws_toClauseS.l0 kq l0 x3_1 x4_1 = some r) ∧ Aside0 (kq ≤ k) ∧ Aside0 (Kd.R k48 48 w' w.heap.size (fun _ => True) v232 x3_1) ∧ Aside0 (Below w.heap.size w w'))
 case atStart => exact ⟨(y231),(0),(by first|rfl|(simp;done)|(simp [*];done)),H',⟨Nat.le_refl _⟩,⟨by (with_reducible repeat (first|apply Kd.R_alloc|apply Kd.R_drewN|apply Kd.R_drew));exact HO233.out⟩,⟨by repeat (first|(with_reducible first|exact HB.out|apply below_alloc|apply pw_below_drewN|apply below_drew1)|exact HB.out)⟩⟩
 case round =>
  clear H'
  try clear c2
  try clear c2b0
  try clear c2b1
  try clear c3
  try clear c3b0
  try clear c3b1
  obtain ⟨x3_1,x4_1,rfl,HA,HK1,HO_3,HB⟩:=hrel
  cases gk with
  | zero => exact absurd HA.out (by simp [laws_toClauseS.l0])
  | succ k1 =>
   have H:=HA.out
   clear HA
   simp only [laws_toClauseS.l0] at H
   by_cases c6 : x4_1 < (l0.length : Int)
   ·rw [if_pos c6] at H
    have c6b0 : decide (x4_1 < (l0.length : Int)) = true:=decide_eq_true c6
    clear c6
    by_cases c7 : 0 ≤ x4_1
    rotate_left
    ·rw [if_neg c7] at H
     exact absurd H (by simp)
    rw [if_pos c7] at H
    have c7b0 : decide (0 ≤ x4_1) = true:=decide_eq_true c7
    clear c7
    replace H:=Option.bind_eq_some_iff.mp H
    obtain ⟨⟨t235,t236,t237,t238,t241,t242,t243,t244,t247⟩,A80,H⟩:=H
    replace H : (if x4_1 < (x3_1.length : Int) then (laws_toClauseS.l0 k1 l0 (x3_1.set (x4_1 : Int).toNat (⟨(⟨t235,t236,t237,t238⟩ : S29),(⟨t241,t242,t243,t244⟩ : S29),t247⟩ : S48)) (wrap64 (x4_1 + 1))) else (none)) = some r:=H
    have A8:=Aside0.mk A80
    clear A80
    by_cases c9 : x4_1 < (x3_1.length : Int)
    rotate_left
    ·rw [if_neg c9] at H
     exact absurd H (by simp)
    rw [if_pos c9] at H
    have c9b0 : decide (x4_1 < (x3_1.length : Int)) = true:=decide_eq_true c9
    clear c9
    obtain ⟨y248,hy248⟩ : ∃ y_ : List (S48),y_ = (x3_1.set (x4_1 : Int).toNat (⟨(⟨t235,t236,t237,t238⟩ : S29),(⟨t241,t242,t243,t244⟩ : S29),t247⟩ : S48)):=⟨_,rfl⟩
    replace H : (laws_toClauseS.l0 k1 l0 y248 (wrap64 (x4_1 + 1))) = some r:=by first|(rw [hy248];with_reducible exact H)|(have H2_:=(Option.bind_some _ _).symm.trans H;rw [hy248];with_reducible exact H2_)|(have H2_:=(Option.bind_some _ _).symm.trans H;with_reducible exact H2_)|with_reducible exact H|(rw [hy248];exact H)|exact H
    have Ny248:=Aside0.mk hy248
    clear hy248
    have H':=Aside0.mk H
    clear H
    have p234 : 0 ≤ (x4_1 : Int):=of_decide_eq_true (by first|(with_reducible assumption)|assumption)
    have q234 : x4_1 < (l0.length : Int):=of_decide_eq_true (by first|(with_reducible assumption)|assumption)
    obtain ⟨ad234,A234_3,c234_3,A234_7,c234_7,e234,hx234_0,hx234_1,hx234_2,hx234_3,hx234_4,hx234_5,hx234_6,hx234_7,hx234_8,hl234_3,hi234_3,hl234_7,hi234_7⟩:=at_T60 HR0.out x4_1 p234 q234
    cases e234
    replace hx234_0:=(HB.out.cell (World.block_lt_of_cell? w _ hx234_0)).trans hx234_0
    replace hx234_1:=(HB.out.cell (World.block_lt_of_cell? w _ hx234_1)).trans hx234_1
    replace hx234_2:=(HB.out.cell (World.block_lt_of_cell? w _ hx234_2)).trans hx234_2
    replace hx234_3:=(HB.out.cell (World.block_lt_of_cell? w _ hx234_3)).trans hx234_3
    replace hx234_4:=(HB.out.cell (World.block_lt_of_cell? w _ hx234_4)).trans hx234_4
    replace hx234_5:=(HB.out.cell (World.block_lt_of_cell? w _ hx234_5)).trans hx234_5
    replace hx234_6:=(HB.out.cell (World.block_lt_of_cell? w _ hx234_6)).trans hx234_6
    replace hx234_7:=(HB.out.cell (World.block_lt_of_cell? w _ hx234_7)).trans hx234_7
    replace hx234_8:=(HB.out.cell (World.block_lt_of_cell? w _ hx234_8)).trans hx234_8
    have HR234_3:=Aside0.mk hi234_3
    have HC234_3:=Aside0.mk hl234_3
    clear hi234_3 hl234_3
    have HR234_7:=Aside0.mk hi234_7
    have HC234_7:=Aside0.mk hl234_7
    clear hi234_7 hl234_7
    replace p234:=eq_true p234
    replace q234:=eq_true q234
    go_wp2_with (first|((with_reducible refine gate_callee (f:=36) rfl ?_);refine goesL_ (some 20) rfl rfl Tryd.func36 (by kernel_rfl) rfl #[.agg #[.int .i64 ((rd_T60 l0 x4_1).f0.f0),.string ((rd_T60 l0 x4_1).f0.f1),.int .i64 ((rd_T60 l0 x4_1).f0.f2),.slice A234_3 ((rd_T60 l0 x4_1).f0.f3).length c234_3,.int .i64 ((rd_T60 l0 x4_1).f1.f0),.string ((rd_T60 l0 x4_1).f1.f1),.int .i64 ((rd_T60 l0 x4_1).f1.f2),.slice A234_7 ((rd_T60 l0 x4_1).f1.f3).length c234_7,.string ((rd_T60 l0 x4_1).f2)]] rfl (by (try simp only [List.map_toArray,List.map_cons,List.map_nil]);first|done|rfl|(simp only [List.length_drop,List.length_take];rfl)) ?_;(with_reducible refine (laws_toClause.calls k1 ((rd_T60 l0 x4_1).f0.f0) ((rd_T60 l0 x4_1).f0.f1) ((rd_T60 l0 x4_1).f0.f2) _ _ ((rd_T60 l0 x4_1).f0.f3) ((rd_T60 l0 x4_1).f1.f0) ((rd_T60 l0 x4_1).f1.f1) ((rd_T60 l0 x4_1).f1.f2) _ _ ((rd_T60 l0 x4_1).f1.f3) ((rd_T60 l0 x4_1).f2) t235 t236 t237 t238 t241 t242 t243 t244 t247 _ ?side1 ?side2 ?side3 ?side4 A8.out).mono ?_);(case side1 => repeat (first|exact (Kd.C_below HR234_3.out HB.out)|(with_reducible refine Kd.C_alloc ?_ _)|(with_reducible refine Kd.C_drewN ?_ _)|(with_reducible refine Kd.C_drew ?_)));(case side2 => exact HC234_3.out);(case side3 => repeat (first|exact (Kd.C_below HR234_7.out HB.out)|(with_reducible refine Kd.C_alloc ?_ _)|(with_reducible refine Kd.C_drewN ?_ _)|(with_reducible refine Kd.C_drew ?_)));(case side4 => exact HC234_7.out);rintro e w11 ⟨v239,v245,rfl,ho0,ho1,hb⟩;refine ⟨_,rfl,?_⟩;have hst_v239 : ∀ a_ m_ w_,(store a_ v239 m_).run Tryd.prog w_ = stored Tryd.prog w_ a_ v239 m_:=fun a_ m_ w_ => run_store Tryd.prog w_ a_ v239 m_ (by obtain ⟨A_,c_,e_⟩:=Kd.R_slice ho0;rw [e_];rfl);have hst_v245 : ∀ a_ m_ w_,(store a_ v245 m_).run Tryd.prog w_ = stored Tryd.prog w_ a_ v245 m_:=fun a_ m_ w_ => run_store Tryd.prog w_ a_ v245 m_ (by obtain ⟨A_,c_,e_⟩:=Kd.R_slice ho1;rw [e_];rfl);have n0_:=Aside0.mk (Kd.R_mono (Kd.R_told (Kd.R_told (Kd.R_old (by (with_reducible repeat (first|apply Kd.R_alloc|apply Kd.R_drewN|apply Kd.R_drew));exact HO_3.out) hb) (Kd.R_base ho0)) (Kd.R_base ho1)) (fun _ h_ => h_.1));have n1_:=Aside0.mk (Kd.R_lower ho0 (below_size (by repeat (first|(with_reducible first|exact HB.out|apply below_alloc|apply pw_below_drewN|apply below_drew1)|exact HB.out))));have n2_:=Aside0.mk (Kd.R_lower ho1 (below_size (by repeat (first|(with_reducible first|exact HB.out|apply below_alloc|apply pw_below_drewN|apply below_drew1)|exact HB.out))));have n3_:=Aside0.mk (below_step (by repeat (first|(with_reducible first|exact HB.out|apply below_alloc|apply pw_below_drewN|apply below_drew1)|exact HB.out)) hb);clear HO_3;clear HB;have HO_3:=n0_;have HO240:=n1_;have HO246:=n2_;have HB:=n3_;clear n0_ n1_ n2_ n3_;(try clear hb);(try clear hb2);(try clear hk);(try clear hi);(try clear ho0);(try clear ho1);have p10 : 0 ≤ (x4_1 : Int):=of_decide_eq_true (by first|(with_reducible assumption)|assumption);have q10 : (x4_1 : Int) < ((x3_1.length : Int) : Int):=of_decide_eq_true (by first|(with_reducible assumption)|assumption);obtain ⟨go10,co10,eo10,gb10,gl10,cl10,HG10⟩:=Kd.R_form HO_3.out (by omega);(first|cases eo10|(injection eo10 with ea_ en_ ec_;(first|subst ea_|(injection ea_ with ea_;subst ea_));subst ec_;clear en_));have GB10:=Aside0.mk gb10;have GG10:=Aside0.mk HG10;clear gb10 gl10 HG10;obtain ⟨ce10,hcl10,hM10,hcc10,hfr10⟩:=Kd.R_elem HO_3.out z48 (x4_1 : Int) p10 q10;obtain ⟨ve10_3,ve10_7,rfl,ge10_3,ge10_7⟩:=k48_openM hM10;have hx10_0 : w11.cell? ⟨go10,(x4_1 : Int).toNat * 9,none⟩ = some (.int .i64 ((rd_T48 x3_1 x4_1).f0.f0)):=hcc10 0 _ rfl;have hx10_1 : w11.cell? ⟨go10,(x4_1 : Int).toNat * 9 + 1,none⟩ = some (.string ((rd_T48 x3_1 x4_1).f0.f1)):=hcc10 1 _ rfl;have hx10_2 : w11.cell? ⟨go10,(x4_1 : Int).toNat * 9 + 2,none⟩ = some (.int .i64 ((rd_T48 x3_1 x4_1).f0.f2)):=hcc10 2 _ rfl;have hx10_3 : w11.cell? ⟨go10,(x4_1 : Int).toNat * 9 + 3,none⟩ = some (ve10_3):=hcc10 3 _ rfl;have hx10_4 : w11.cell? ⟨go10,(x4_1 : Int).toNat * 9 + 4,none⟩ = some (.int .i64 ((rd_T48 x3_1 x4_1).f1.f0)):=hcc10 4 _ rfl;have hx10_5 : w11.cell? ⟨go10,(x4_1 : Int).toNat * 9 + 5,none⟩ = some (.string ((rd_T48 x3_1 x4_1).f1.f1)):=hcc10 5 _ rfl;have hx10_6 : w11.cell? ⟨go10,(x4_1 : Int).toNat * 9 + 6,none⟩ = some (.int .i64 ((rd_T48 x3_1 x4_1).f1.f2)):=hcc10 6 _ rfl;have hx10_7 : w11.cell? ⟨go10,(x4_1 : Int).toNat * 9 + 7,none⟩ = some (ve10_7):=hcc10 7 _ rfl;have hx10_8 : w11.cell? ⟨go10,(x4_1 : Int).toNat * 9 + 8,none⟩ = some (.string ((rd_T48 x3_1 x4_1).f2)):=hcc10 8 _ rfl;have hf10_0 : w11.frozen? ⟨go10,(x4_1 : Int).toNat * 9,none⟩ = false:=hfr10 0;have hf10_1 : w11.frozen? ⟨go10,(x4_1 : Int).toNat * 9 + 1,none⟩ = false:=hfr10 1;have hf10_2 : w11.frozen? ⟨go10,(x4_1 : Int).toNat * 9 + 2,none⟩ = false:=hfr10 2;have hf10_3 : w11.frozen? ⟨go10,(x4_1 : Int).toNat * 9 + 3,none⟩ = false:=hfr10 3;have hf10_4 : w11.frozen? ⟨go10,(x4_1 : Int).toNat * 9 + 4,none⟩ = false:=hfr10 4;have hf10_5 : w11.frozen? ⟨go10,(x4_1 : Int).toNat * 9 + 5,none⟩ = false:=hfr10 5;have hf10_6 : w11.frozen? ⟨go10,(x4_1 : Int).toNat * 9 + 6,none⟩ = false:=hfr10 6;have hf10_7 : w11.frozen? ⟨go10,(x4_1 : Int).toNat * 9 + 7,none⟩ = false:=hfr10 7;have hf10_8 : w11.frozen? ⟨go10,(x4_1 : Int).toNat * 9 + 8,none⟩ = false:=hfr10 8;clear hcl10 hcc10 hfr10 hM10;replace p10:=eq_true p10;replace q10:=eq_true q10;have n_:=Aside0.mk (Kd.R_mono (ok':=(fun k_ => some k_ ≠ (v239 : Value).ownBlock ∧ some k_ ≠ (v245 : Value).ownBlock)) HO_3.out (fun k_ hk => ⟨hk.1.2,hk.2⟩));clear HO_3;have HO_3:=n_;clear n_;have HX12:=Aside0.mk (show Kd.R k48 48 w11 w.heap.size (fun _ => True) (.slice (some ⟨go10,0,none⟩) x3_1.length co10) x3_1 from (by (with_reducible repeat (first|apply Kd.R_alloc|apply Kd.R_drewN|apply Kd.R_drew));exact Kd.R_mono HO_3.out (fun _ hk => trivial)));obtain ⟨ce12,hcl12,hM12,hcc12,hfr12⟩:=Kd.R_elem HX12.out z48 (x4_1 : Int) (of_decide_eq_true (by first|(with_reducible assumption)|assumption)) (by have h_ : (x4_1 : Int) < ((x3_1.length : Int) : Int):=of_decide_eq_true (by first|(with_reducible assumption)|assumption);first|exact h_|(have e_:=(Kd.R_reads' HO_3.out).1;omega)|simpa using h_);obtain ⟨ve12_3,ve12_7,rfl,ge12_3,ge12_7⟩:=k48_openM hM12;have HP12:=Kd.R_seg HX12.out (x4_1 : Int) (of_decide_eq_true (by first|(with_reducible assumption)|assumption)) (by have h_ : (x4_1 : Int) < ((x3_1.length : Int) : Int):=of_decide_eq_true (by first|(with_reducible assumption)|assumption);first|exact h_|(have e_:=(Kd.R_reads' HO_3.out).1;omega)|simpa using h_) (seg:=[.int .i64 t235,.string t236,.int .i64 t237,v239,.int .i64 t241,.string t242,.int .i64 t243,v245,.string t247]) (j:=0) hcl12 hcc12 (show 9 ≤ 9 from by decide) (x':=(⟨(⟨t235,t236,t237,t238⟩ : S29),(⟨t241,t242,t243,t244⟩ : S29),t247⟩ : S48)) (k48_mkM _ _ _ (⟨(⟨t235,t236,t237,t238⟩ : S29),(⟨t241,t242,t243,t244⟩ : S29),t247⟩ : S48) (Kd.R_mono (Kd.R_apart' (HO240.out) (Kd.R_typed HO_3.out) (by decide)) (fun k_ hk => ⟨trivial,fun e_ => (hk.2) (by rw [e_];rfl)⟩)) (Kd.R_mono (Kd.R_apart' (HO246.out) (Kd.R_typed HO_3.out) (by decide)) (fun k_ hk => ⟨trivial,fun e_ => (hk.2) (by rw [e_];rfl)⟩))) (fun _ hk => hk);have hx12_0:=hcc12 0 _ rfl;(try simp only [show (k48).sz = 9 from rfl,Nat.mul_one,Nat.add_zero] at hx12_0);have hf12_0:=hfr12 0;(try simp only [show (k48).sz = 9 from rfl,Nat.mul_one,Nat.add_zero] at hf12_0);have hx12_1:=hcc12 1 _ rfl;(try simp only [show (k48).sz = 9 from rfl,Nat.mul_one,Nat.add_zero] at hx12_1);have hf12_1:=hfr12 1;(try simp only [show (k48).sz = 9 from rfl,Nat.mul_one,Nat.add_zero] at hf12_1);have hx12_2:=hcc12 2 _ rfl;(try simp only [show (k48).sz = 9 from rfl,Nat.mul_one,Nat.add_zero] at hx12_2);have hf12_2:=hfr12 2;(try simp only [show (k48).sz = 9 from rfl,Nat.mul_one,Nat.add_zero] at hf12_2);have hx12_3:=hcc12 3 _ rfl;(try simp only [show (k48).sz = 9 from rfl,Nat.mul_one,Nat.add_zero] at hx12_3);have hf12_3:=hfr12 3;(try simp only [show (k48).sz = 9 from rfl,Nat.mul_one,Nat.add_zero] at hf12_3);have hx12_4:=hcc12 4 _ rfl;(try simp only [show (k48).sz = 9 from rfl,Nat.mul_one,Nat.add_zero] at hx12_4);have hf12_4:=hfr12 4;(try simp only [show (k48).sz = 9 from rfl,Nat.mul_one,Nat.add_zero] at hf12_4);have hx12_5:=hcc12 5 _ rfl;(try simp only [show (k48).sz = 9 from rfl,Nat.mul_one,Nat.add_zero] at hx12_5);have hf12_5:=hfr12 5;(try simp only [show (k48).sz = 9 from rfl,Nat.mul_one,Nat.add_zero] at hf12_5);have hx12_6:=hcc12 6 _ rfl;(try simp only [show (k48).sz = 9 from rfl,Nat.mul_one,Nat.add_zero] at hx12_6);have hf12_6:=hfr12 6;(try simp only [show (k48).sz = 9 from rfl,Nat.mul_one,Nat.add_zero] at hf12_6);have hx12_7:=hcc12 7 _ rfl;(try simp only [show (k48).sz = 9 from rfl,Nat.mul_one,Nat.add_zero] at hx12_7);have hf12_7:=hfr12 7;(try simp only [show (k48).sz = 9 from rfl,Nat.mul_one,Nat.add_zero] at hf12_7);have hx12_8:=hcc12 8 _ rfl;(try simp only [show (k48).sz = 9 from rfl,Nat.mul_one,Nat.add_zero] at hx12_8);have hf12_8:=hfr12 8;(try simp only [show (k48).sz = 9 from rfl,Nat.mul_one,Nat.add_zero] at hf12_8);clear hcl12 hcc12 hfr12 hM12)|((with_reducible refine gate_store (t:=48) (p:=21) rfl ?_);refine store_event (t:=48) (p:=21) (v:=?vo_w13) (w1:=(((((((((w11.setCell ⟨go10,(x4_1 : Int).toNat * 9,none⟩ (.int .i64 t235)).setCell ⟨go10,(x4_1 : Int).toNat * 9 + 1,none⟩ (.string t236)).setCell ⟨go10,(x4_1 : Int).toNat * 9 + 2,none⟩ (.int .i64 t237)).setCell ⟨go10,(x4_1 : Int).toNat * 9 + 3,none⟩ (v239)).setCell ⟨go10,(x4_1 : Int).toNat * 9 + 4,none⟩ (.int .i64 t241)).setCell ⟨go10,(x4_1 : Int).toNat * 9 + 5,none⟩ (.string t242)).setCell ⟨go10,(x4_1 : Int).toNat * 9 + 6,none⟩ (.int .i64 t243)).setCell ⟨go10,(x4_1 : Int).toNat * 9 + 7,none⟩ (v245)).setCell ⟨go10,(x4_1 : Int).toNat * 9 + 8,none⟩ (.string t247))) ?hg ?ho ?hn ?hr ?_;(case ho => rfl);(case hg => rfl);(case hn => rfl);(case hr => first|(go_simp;done)|(go_simp;rfl));intro w13 hw;have hg : w11.grownBy w13 (some go10):=(by rw [hw];exact HP12.2);have hp_ : Kd.R k48 48 w13 w.heap.size (fun _ => True) (.slice (some ⟨go10,0,none⟩) x3_1.length co10) y248:=(by rw [hw,Ny248.out];exact HP12.1);clear HP12;have n0_:=Aside0.mk (hp_);have n1_:=Aside0.mk ((by rw [hw];exact below_set (below_set (below_set (below_set (below_set (below_set (below_set (below_set (below_set (HB.out) GB10.out) GB10.out) GB10.out) GB10.out) GB10.out) GB10.out) GB10.out) GB10.out) GB10.out : Below w.heap.size w w13));clear HO_3;clear HB;clear HO240;clear HO246;have HO_3:=n0_;have HB:=n1_;clear n0_ n1_;clear hg hw hp_))
    go_roundg k1
    case measure => have:=HK1.out;omega
    case rel => exact ⟨(y248),(wrap64 (x4_1 + 1)),(by first|rfl|(simp;done)|(simp [*];done)),H',⟨by have:=HK1.out;omega⟩,⟨by (with_reducible repeat (first|apply Kd.R_alloc|apply Kd.R_drewN|apply Kd.R_drew));exact HO_3.out⟩,⟨by repeat (first|(with_reducible first|exact HB.out|apply below_alloc|apply pw_below_drewN|apply below_drew1)|exact HB.out)⟩⟩
   ·rw [if_neg c6] at H
    have c6b0 : decide (x4_1 < (l0.length : Int)) = false:=decide_eq_false c6
    clear c6
    obtain rfl:=Option.some.inj H
    go_wp2
    go_ret
    exact ⟨_,by first|rfl|(simp [errW_none,errW_some] <;> rfl)|(simp [*,errW_none,errW_some] <;> rfl),by (with_reducible repeat (first|apply Kd.R_alloc|apply Kd.R_drewN|apply Kd.R_drew));exact HO_3.out,by repeat (first|(with_reducible first|exact HB.out|apply below_alloc|apply pw_below_drewN|apply below_drew1)|exact HB.out)⟩

/-! ### laws_toStringS: function 50 -/
def laws_toStringS.l0 : Nat → List ByteArray → List ByteArray → Int → Option (List ByteArray)
 | 0,_,_,_ => none
 | k + 1,x0,x3,x4 => if x4 < (x0.length : Int) then (if 0 ≤ x4 then (if x4 < (x3.length : Int) then (laws_toStringS.l0 k x0 (x3.set (x4 : Int).toNat (rdOf ByteArray.empty x0 x4)) (wrap64 (x4 + 1))) else (none)) else (none)) else (some x3)
def laws_toStringS.f (k : Nat) (l0 : List ByteArray) : Option (List ByteArray):=if 0 ≤ (l0.length : Int) then (if ((l0.length : Int) : Int).toNat ≤ 17592186044416 then (laws_toStringS.l0 k l0 (List.replicate ((l0.length : Int) : Int).toNat (⟨#[]⟩ : ByteArray)) 0) else (none)) else (none)
theorem laws_toStringS.mono_l : ∀ k,(∀ y0 y1 y2,LeO (laws_toStringS.l0 k y0 y1 y2) (laws_toStringS.l0 (k + 1) y0 y1 y2))
 | 0 => fun _ _ _ r h => by simp [laws_toStringS.l0] at h
 | k + 1 => by
  have ih0:=laws_toStringS.mono_l k
  ·intro y0 y1 y2
   unfold laws_toStringS.l0
   repeat' first
   | (with_reducible exact ih0 _ _ _)
   | (with_reducible exact LeO.refl _)
   | (with_reducible exact LeO.none _)
   | (with_reducible refine LeO.ite ?_ ?_)
   | (with_reducible refine LeO.bind ?_ (fun _ => ?_))
   | exact ih0 _ _ _
   | exact LeO.none _
   | refine LeO.ite ?_ ?_
   | refine LeO.bind ?_ (fun _ => ?_)
theorem laws_toStringS.mono : ∀ a0 k,LeO (laws_toStringS.f k a0) (laws_toStringS.f (k + 1) a0):=by
 intro a0 k
 have ih0:=laws_toStringS.mono_l k
 unfold laws_toStringS.f
 repeat' first
   | (with_reducible exact ih0 _ _ _)
   | (with_reducible exact LeO.refl _)
   | (with_reducible exact LeO.none _)
   | (with_reducible refine LeO.ite ?_ ?_)
   | (with_reducible refine LeO.bind ?_ (fun _ => ?_))
   | exact ih0 _ _ _
   | exact LeO.none _
   | refine LeO.ite ?_ ?_
   | refine LeO.bind ?_ (fun _ => ?_)
set_option maxHeartbeats 8000000 in
set_option maxRecDepth 100000 in
theorem laws_toStringS.calls (k : Nat) (A0 : Option Addr) (c0 : Nat) (l0 : List ByteArray) (r : List ByteArray) (w : World) (hr0 : Kd.C Kd.string w A0 l0.length l0) (hc0 : l0.length ≤ c0) (h : laws_toStringS.f k l0 = some r) :
  Calls Tryd.prog 50 #[.slice A0 l0.length c0] w fun e w' => ∃ v0_ : Value,e = .returned (v0_) ∧ Kd.R Kd.string 9 w' w.heap.size (fun _ => True) v0_ r ∧ Below w.heap.size w w':=by
 have HR0:=Aside0.mk hr0
 have HC0:=Aside0.mk hc0
 clear hr0 hc0
 have HB:=Aside0.mk (Below.refl w.heap.size w)
 have H : (if 0 ≤ (l0.length : Int) then (if ((l0.length : Int) : Int).toNat ≤ 17592186044416 then (laws_toStringS.l0 k l0 (List.replicate ((l0.length : Int) : Int).toNat (⟨#[]⟩ : ByteArray)) 0) else (none)) else (none)) = some r:=h
 clear h
 by_cases c2 : 0 ≤ (l0.length : Int)
 rotate_left
 ·rw [if_neg c2] at H
  exact absurd H (by simp)
 rw [if_pos c2] at H
 have c2b0:=eq_true c2
 have c2b1 : decide (0 ≤ (l0.length : Int)) = true:=decide_eq_true c2
 clear c2
 by_cases c3 : ((l0.length : Int) : Int).toNat ≤ 17592186044416
 rotate_left
 ·rw [if_neg c3] at H
  exact absurd H (by simp)
 rw [if_pos c3] at H
 have c3b0:=eq_true c3
 have c3b1 : decide (((l0.length : Int) : Int).toNat ≤ 17592186044416) = true:=decide_eq_true c3
 clear c3
 obtain ⟨y249,hy249⟩ : ∃ y_ : List ByteArray,y_ = (List.replicate ((l0.length : Int) : Int).toNat (⟨#[]⟩ : ByteArray)):=⟨_,rfl⟩
 replace H : (laws_toStringS.l0 k l0 y249 0) = some r:=by first|(rw [hy249];with_reducible exact H)|(have H2_:=(Option.bind_some _ _).symm.trans H;rw [hy249];with_reducible exact H2_)|(have H2_:=(Option.bind_some _ _).symm.trans H;with_reducible exact H2_)|with_reducible exact H|(rw [hy249];exact H)|exact H
 have Ny249:=Aside0.mk hy249
 clear hy249
 have H':=Aside0.mk H
 clear H
 go_enter Tryd.func50,Tryd.ntmps50
 go_wp2_with (first|((with_reducible refine gate_dst (N:=7) rfl ?_);refine Kd.R_make Kd.string _ 9 rfl (N:=7) rfl 34 _ _ rfl (l0.length : Int) rfl rfl Tryd.underlying34 (.string ⟨#[]⟩) 16 info9 rfl (by decide) (by omega) (⟨#[]⟩ : ByteArray) (ok:=fun _ => True) (okp:=fun _ => True) rfl (fun _ hk => hk) trivial (of_decide_eq_true (by first|(with_reducible assumption)|assumption)) (Nat.le_trans (Nat.mul_le_mul_right _ (of_decide_eq_true (by first|(with_reducible assumption)|assumption) : (l0.length : Int).toNat ≤ 17592186044416)) (by omega)) (Below.refl _ _) (Nat.le_refl _) ?_;intro v250 w4 ho5 hb hg_ hnew_;clear hg_ hnew_;(first|rw [← Ny249.out] at ho5|(simp only [Int.reduceToNat] at ho5;rw [← Ny249.out] at ho5));have n0_:=Aside0.mk (Kd.R_lower ho5 (below_size (by repeat (first|(with_reducible first|exact HB.out|apply below_alloc|apply pw_below_drewN|apply below_drew1)|exact HB.out))));have n1_:=Aside0.mk (below_step (by repeat (first|(with_reducible first|exact HB.out|apply below_alloc|apply pw_below_drewN|apply below_drew1)|exact HB.out)) hb);clear HB;have HO251:=n0_;have HB:=n1_;clear n0_ n1_;clear hb ho5))
 go_loopg [4] k (fun kq v4 w' => ∃ (x3_1 : List ByteArray) (x4_1 : Int),v4 = .int .i64 x4_1 ∧ Aside0 (laws_toStringS.l0 kq l0 x3_1 x4_1 = some r) ∧ Aside0 (kq ≤ k) ∧ Aside0 (Kd.R Kd.string 9 w' w.heap.size (fun _ => True) v250 x3_1) ∧ Aside0 (Below w.heap.size w w'))
 case atStart => exact ⟨(y249),(0),(by first|rfl|(simp;done)|(simp [*];done)),H',⟨Nat.le_refl _⟩,⟨by (with_reducible repeat (first|apply Kd.R_alloc|apply Kd.R_drewN|apply Kd.R_drew));exact HO251.out⟩,⟨by repeat (first|(with_reducible first|exact HB.out|apply below_alloc|apply pw_below_drewN|apply below_drew1)|exact HB.out)⟩⟩
 case round =>
  clear H'
  try clear c2
  try clear c2b0
  try clear c2b1
  try clear c3
  try clear c3b0
  try clear c3b1
  obtain ⟨x3_1,x4_1,rfl,HA,HK1,HO_3,HB⟩:=hrel
  cases gk with
  | zero => exact absurd HA.out (by simp [laws_toStringS.l0])
  | succ k1 =>
   have H:=HA.out
   clear HA
   simp only [laws_toStringS.l0] at H
   by_cases c6 : x4_1 < (l0.length : Int)
   ·rw [if_pos c6] at H
    have c6b0 : decide (x4_1 < (l0.length : Int)) = true:=decide_eq_true c6
    clear c6
    by_cases c7 : 0 ≤ x4_1
    rotate_left
    ·rw [if_neg c7] at H
     exact absurd H (by simp)
    rw [if_pos c7] at H
    have c7b0 : decide (0 ≤ x4_1) = true:=decide_eq_true c7
    clear c7
    by_cases c8 : x4_1 < (x3_1.length : Int)
    rotate_left
    ·rw [if_neg c8] at H
     exact absurd H (by simp)
    rw [if_pos c8] at H
    have c8b0 : decide (x4_1 < (x3_1.length : Int)) = true:=decide_eq_true c8
    clear c8
    obtain ⟨y253,hy253⟩ : ∃ y_ : List ByteArray,y_ = (x3_1.set (x4_1 : Int).toNat (rdOf ByteArray.empty l0 x4_1)):=⟨_,rfl⟩
    replace H : (laws_toStringS.l0 k1 l0 y253 (wrap64 (x4_1 + 1))) = some r:=by first|(rw [hy253];with_reducible exact H)|(have H2_:=(Option.bind_some _ _).symm.trans H;rw [hy253];with_reducible exact H2_)|(have H2_:=(Option.bind_some _ _).symm.trans H;with_reducible exact H2_)|with_reducible exact H|(rw [hy253];exact H)|exact H
    have Ny253:=Aside0.mk hy253
    clear hy253
    have H':=Aside0.mk H
    clear H
    have p252 : 0 ≤ (x4_1 : Int):=of_decide_eq_true (by first|(with_reducible assumption)|assumption)
    have q252 : x4_1 < (l0.length : Int):=of_decide_eq_true (by first|(with_reducible assumption)|assumption)
    obtain ⟨ad252,e252,hx252_0⟩:=Kd.at_string HR0.out x4_1 p252 q252
    cases e252
    replace hx252_0:=(HB.out.cell (World.block_lt_of_cell? w _ hx252_0)).trans hx252_0
    replace p252:=eq_true p252
    replace q252:=eq_true q252
    have p9 : 0 ≤ (x4_1 : Int):=of_decide_eq_true (by first|(with_reducible assumption)|assumption)
    have q9 : (x4_1 : Int) < ((x3_1.length : Int) : Int):=of_decide_eq_true (by first|(with_reducible assumption)|assumption)
    obtain ⟨go9,co9,eo9,gb9,gl9,cl9,HG9⟩:=Kd.R_form HO_3.out (by omega)
    (first|cases eo9|(injection eo9 with ea_ en_ ec_;(first|subst ea_|(injection ea_ with ea_;subst ea_));subst ec_;clear en_))
    have GB9:=Aside0.mk gb9
    have GG9:=Aside0.mk HG9
    clear gb9 gl9 HG9
    obtain ⟨hx9_0,hf9_0⟩:=Kd.R_celln (⟨#[]⟩ : ByteArray) HO_3.out (x4_1 : Int) p9 q9
    replace p9:=eq_true p9
    replace q9:=eq_true q9
    have HP10:=Kd.R_putg HO_3.out (x4_1 : Int) (rdOf ByteArray.empty l0 x4_1)
    go_wp2_with (first|((with_reducible refine gate_store (t:=9) (p:=20) rfl ?_);refine store_event (t:=9) (p:=20) (v:=?vo_w11) (w1:=(wr.setCell ⟨go9,(x4_1 : Int).toNat,none⟩ (.string (rdOf ByteArray.empty l0 x4_1)))) ?hg ?ho ?hn ?hr ?_;(case ho => rfl);(case hg => rfl);(case hn => rfl);(case hr => first|(go_simp;done)|(go_simp;rfl));intro w11 hw;have hg : wr.grownBy w11 (some go9):=(by rw [hw];exact HP10.2);have hp_ : Kd.R Kd.string 9 w11 w.heap.size (fun _ => True) (.slice (some ⟨go9,0,none⟩) x3_1.length co9) y253:=(by rw [hw,Ny253.out];exact HP10.1);clear HP10;have n0_:=Aside0.mk (hp_);have n1_:=Aside0.mk ((by rw [hw];exact below_set (HB.out) GB9.out : Below w.heap.size w w11));clear HO_3;clear HB;have HO_3:=n0_;have HB:=n1_;clear n0_ n1_;clear hg hw hp_))
    go_roundg k1
    case measure => have:=HK1.out;omega
    case rel => exact ⟨(y253),(wrap64 (x4_1 + 1)),(by first|rfl|(simp;done)|(simp [*];done)),H',⟨by have:=HK1.out;omega⟩,⟨by (with_reducible repeat (first|apply Kd.R_alloc|apply Kd.R_drewN|apply Kd.R_drew));exact HO_3.out⟩,⟨by repeat (first|(with_reducible first|exact HB.out|apply below_alloc|apply pw_below_drewN|apply below_drew1)|exact HB.out)⟩⟩
   ·rw [if_neg c6] at H
    have c6b0 : decide (x4_1 < (l0.length : Int)) = false:=decide_eq_false c6
    clear c6
    obtain rfl:=Option.some.inj H
    go_wp2
    go_ret
    exact ⟨_,by first|rfl|(simp [errW_none,errW_some] <;> rfl)|(simp [*,errW_none,errW_some] <;> rfl),by (with_reducible repeat (first|apply Kd.R_alloc|apply Kd.R_drewN|apply Kd.R_drew));exact HO_3.out,by repeat (first|(with_reducible first|exact HB.out|apply below_alloc|apply pw_below_drewN|apply below_drew1)|exact HB.out)⟩

/-! ### laws_toDb: function 17 -/
def laws_toDb.f (k : Nat) (l0_0 : List (S60)) (l0_1 : List ByteArray) : Option ((List (S48)) × List ByteArray):=(laws_toClauseS.f k l0_0).bind fun t257 => ((laws_toStringS.f k l0_1).bind fun t260 => (some (t257,t260)))
theorem laws_toDb.mono : ∀ a0 a1 k,LeO (laws_toDb.f k a0 a1) (laws_toDb.f (k + 1) a0 a1):=by
 intro a0 a1 k
 unfold laws_toDb.f
 repeat' first
   | (with_reducible exact laws_toClauseS.mono _ _)
   | (with_reducible exact laws_toStringS.mono _ _)
   | (with_reducible exact LeO.refl _)
   | (with_reducible exact LeO.none _)
   | (with_reducible refine LeO.ite ?_ ?_)
   | (with_reducible refine LeO.bind ?_ (fun _ => ?_))
   | exact laws_toClauseS.mono _ _
   | exact laws_toStringS.mono _ _
   | exact LeO.none _
   | refine LeO.ite ?_ ?_
   | refine LeO.bind ?_ (fun _ => ?_)
set_option maxHeartbeats 8000000 in
set_option maxRecDepth 100000 in
theorem laws_toDb.calls (k : Nat) (A0_0 : Option Addr) (c0_0 : Nat) (l0_0 : List (S60)) (A0_1 : Option Addr) (c0_1 : Nat) (l0_1 : List ByteArray) (r1 : List (S48)) (r2 : List ByteArray) (w : World) (hr0_0 : Kd.C k60 w A0_0 l0_0.length l0_0) (hc0_0 : l0_0.length ≤ c0_0) (hr0_1 : Kd.C Kd.string w A0_1 l0_1.length l0_1) (hc0_1 : l0_1.length ≤ c0_1) (h : laws_toDb.f k l0_0 l0_1 = some (r1,r2)) :
  Calls Tryd.prog 17 #[.agg #[.slice A0_0 l0_0.length c0_0,.slice A0_1 l0_1.length c0_1]] w fun e w' => ∃ v0_ v1_ : Value,e = .returned (.agg #[v0_,v1_]) ∧ Kd.R k48 48 w' w.heap.size (fun _ => True) v0_ r1 ∧ Kd.R Kd.string 9 w' w.heap.size (fun _ => True) v1_ r2 ∧ Below w.heap.size w w':=by
 have hu36:=Tryd.underlying36
 have hu41:=Tryd.underlying41
 have HR0_0:=Aside0.mk hr0_0
 have HC0_0:=Aside0.mk hc0_0
 clear hr0_0 hc0_0
 have HR0_1:=Aside0.mk hr0_1
 have HC0_1:=Aside0.mk hc0_1
 clear hr0_1 hc0_1
 have HB:=Aside0.mk (Below.refl w.heap.size w)
 have H : ((laws_toClauseS.f k l0_0).bind fun t257 => ((laws_toStringS.f k l0_1).bind fun t260 => (some (t257,t260)))) = some (r1,r2):=h
 clear h
 replace H:=Option.bind_eq_some_iff.mp H
 obtain ⟨t257,A20,H⟩:=H
 replace H : ((laws_toStringS.f k l0_1).bind fun t260 => (some (t257,t260))) = some (r1,r2):=H
 have A2:=Aside0.mk A20
 clear A20
 replace H:=Option.bind_eq_some_iff.mp H
 obtain ⟨t260,A30,H⟩:=H
 replace H : (some (t257,t260)) = some (r1,r2):=H
 have A3:=Aside0.mk A30
 clear A30
 simp only [Option.some.injEq,Prod.mk.injEq] at H
 obtain ⟨rfl,rfl⟩:=H
 go_enter Tryd.func17,Tryd.ntmps17
 go_wp2_with (first|((with_reducible refine gate_dst (N:=1) rfl ?_);refine box_event ?hg (N:=1) ?hd (cs:=#[.slice A0_0 l0_0.length c0_0,.slice A0_1 l0_1.length c0_1]) (t:=36) ?hr ?_;(case hd => rfl);(case hg => rfl);(case hr => first|(go_simp;done)|(go_simp;rfl));intro gb254 hg w4 hbox hb;have n0_:=Aside0.mk (below_step (by repeat (first|(with_reducible first|exact HB.out|apply below_alloc|apply pw_below_drewN|apply below_drew1)|exact HB.out)) hb);have n1_:=Aside0.mk (hbox);have n2_:=Aside0.mk ((by rw [hg];exact (below_size (by repeat (first|(with_reducible first|exact HB.out|apply below_alloc|apply pw_below_drewN|apply below_drew1)|exact HB.out))) : w.heap.size ≤ gb254));have n3_:=Aside0.mk ((by rw [hg];exact (below_size (by repeat (first|(with_reducible first|exact HB.out|apply below_alloc|apply pw_below_drewN|apply below_drew1)|exact HB.out))) : w.heap.size ≤ gb254));clear HB;have HB:=n0_;have BK254:=n1_;have GW254:=n2_;have GE254:=n3_;clear n0_ n1_ n2_ n3_;clear hb hbox hg)|((with_reducible refine gate_dst (N:=2) rfl ?_);refine box_event ?hg (N:=2) ?hd (cs:=#[.slice none 0 0,.slice none 0 0]) (t:=41) ?hr ?_;(case hd => rfl);(case hg => rfl);(case hr => first|(go_simp;done)|(go_simp;rfl));intro gb255 hg w5 hbox hb;have n0_:=Aside0.mk (blk_below (g:=gb254) (o:=.cells #[.slice A0_0 l0_0.length c0_0,.slice A0_1 l0_1.length c0_1] 36 (0,0)) (by (with_reducible repeat (first|refine blk_drewN ?_ _|refine blk_drew ?_|refine blk_alloc ?_ _));exact BK254.out) hb);have n1_:=Aside0.mk (below_step (by repeat (first|(with_reducible first|exact HB.out|apply below_alloc|apply pw_below_drewN|apply below_drew1|refine below_set ?_ GE254.out)|exact HB.out)) hb);have n2_:=Aside0.mk (hbox);have n3_:=Aside0.mk ((by rw [hg];exact (below_size (by repeat (first|(with_reducible first|exact HB.out|apply below_alloc|apply pw_below_drewN|apply below_drew1|refine below_set ?_ GE254.out)|exact HB.out))) : w.heap.size ≤ gb255));have n4_:=Aside0.mk ((by rw [hg];exact (below_size (by repeat (first|(with_reducible first|exact HB.out|apply below_alloc|apply pw_below_drewN|apply below_drew1|refine below_set ?_ GE254.out)|exact HB.out))) : w.heap.size ≤ gb255));have n5_:=Aside0.mk ((by rw [hg];exact Nat.ne_of_lt (blk_lt (g:=gb254) (o:=.cells #[.slice A0_0 l0_0.length c0_0,.slice A0_1 l0_1.length c0_1] 36 (0,0)) (by (with_reducible repeat (first|refine blk_drewN ?_ _|refine blk_drew ?_|refine blk_alloc ?_ _));exact BK254.out)) : gb254 ≠ gb255));have n6_:=Aside0.mk ((by rw [hg];exact Nat.ne_of_gt (blk_lt (g:=gb254) (o:=.cells #[.slice A0_0 l0_0.length c0_0,.slice A0_1 l0_1.length c0_1] 36 (0,0)) (by (with_reducible repeat (first|refine blk_drewN ?_ _|refine blk_drew ?_|refine blk_alloc ?_ _));exact BK254.out)) : gb255 ≠ gb254));clear BK254;clear HB;have BK254:=n0_;have HB:=n1_;have BK255:=n2_;have GW255:=n3_;have GE255:=n4_;have NB254_255:=n5_;have NB255_254:=n6_;clear n0_ n1_ n2_ n3_ n4_ n5_ n6_;clear hb hbox hg)|((with_reducible refine gate_dst (N:=3) rfl ?_);refine box_event ?hg (N:=3) ?hd (cs:=#[.slice none 0 0,.slice none 0 0]) (t:=41) ?hr ?_;(case hd => rfl);(case hg => rfl);(case hr => first|(go_simp;done)|(go_simp;rfl));intro gb256 hg w6 hbox hb;have n0_:=Aside0.mk (blk_below (g:=gb254) (o:=.cells #[.slice A0_0 l0_0.length c0_0,.slice A0_1 l0_1.length c0_1] 36 (0,0)) (by (with_reducible repeat (first|refine blk_drewN ?_ _|refine blk_drew ?_|refine blk_alloc ?_ _));exact BK254.out) hb);have n1_:=Aside0.mk (blk_below (g:=gb255) (o:=.cells #[.slice none 0 0,.slice none 0 0] 41 (0,0)) (by (with_reducible repeat (first|refine blk_drewN ?_ _|refine blk_drew ?_|refine blk_alloc ?_ _));exact BK255.out) hb);have n2_:=Aside0.mk (below_step (by repeat (first|(with_reducible first|exact HB.out|apply below_alloc|apply pw_below_drewN|apply below_drew1|refine below_set ?_ GE254.out|refine below_set ?_ GE255.out)|exact HB.out)) hb);have n3_:=Aside0.mk (hbox);have n4_:=Aside0.mk ((by rw [hg];exact (below_size (by repeat (first|(with_reducible first|exact HB.out|apply below_alloc|apply pw_below_drewN|apply below_drew1|refine below_set ?_ GE254.out|refine below_set ?_ GE255.out)|exact HB.out))) : w.heap.size ≤ gb256));have n5_:=Aside0.mk ((by rw [hg];exact (below_size (by repeat (first|(with_reducible first|exact HB.out|apply below_alloc|apply pw_below_drewN|apply below_drew1|refine below_set ?_ GE254.out|refine below_set ?_ GE255.out)|exact HB.out))) : w.heap.size ≤ gb256));have n6_:=Aside0.mk ((by rw [hg];exact Nat.ne_of_lt (blk_lt (g:=gb254) (o:=.cells #[.slice A0_0 l0_0.length c0_0,.slice A0_1 l0_1.length c0_1] 36 (0,0)) (by (with_reducible repeat (first|refine blk_drewN ?_ _|refine blk_drew ?_|refine blk_alloc ?_ _));exact BK254.out)) : gb254 ≠ gb256));have n7_:=Aside0.mk ((by rw [hg];exact Nat.ne_of_gt (blk_lt (g:=gb254) (o:=.cells #[.slice A0_0 l0_0.length c0_0,.slice A0_1 l0_1.length c0_1] 36 (0,0)) (by (with_reducible repeat (first|refine blk_drewN ?_ _|refine blk_drew ?_|refine blk_alloc ?_ _));exact BK254.out)) : gb256 ≠ gb254));have n8_:=Aside0.mk ((by rw [hg];exact Nat.ne_of_lt (blk_lt (g:=gb255) (o:=.cells #[.slice none 0 0,.slice none 0 0] 41 (0,0)) (by (with_reducible repeat (first|refine blk_drewN ?_ _|refine blk_drew ?_|refine blk_alloc ?_ _));exact BK255.out)) : gb255 ≠ gb256));have n9_:=Aside0.mk ((by rw [hg];exact Nat.ne_of_gt (blk_lt (g:=gb255) (o:=.cells #[.slice none 0 0,.slice none 0 0] 41 (0,0)) (by (with_reducible repeat (first|refine blk_drewN ?_ _|refine blk_drew ?_|refine blk_alloc ?_ _));exact BK255.out)) : gb256 ≠ gb255));clear BK254;clear BK255;clear HB;have BK254:=n0_;have BK255:=n1_;have HB:=n2_;have BK256:=n3_;have GW256:=n4_;have GE256:=n5_;have NB254_256:=n6_;have NB256_254:=n7_;have NB255_256:=n8_;have NB256_255:=n9_;clear n0_ n1_ n2_ n3_ n4_ n5_ n6_ n7_ n8_ n9_;clear hb hbox hg;have hnb7:=NB254_255.out;have hnc7:=NB255_254.out;have hnb8:=NB254_256.out;have hnc8:=NB256_254.out;have hcz9_0 : w6.cell? ⟨gb254,0,none⟩ = some (.slice A0_0 l0_0.length c0_0):=(blk_cell BK254.out 0).trans rfl;have hcz9_1 : w6.cell? ⟨gb254,1,none⟩ = some (.slice A0_1 l0_1.length c0_1):=(blk_cell BK254.out 1).trans rfl;have hfz9_0:=blk_frozen BK254.out 0;have hfz9_1:=blk_frozen BK254.out 1)|((with_reducible refine gate_callee (f:=49) rfl ?_);refine goesL_ (some 6) rfl rfl Tryd.func49 (by kernel_rfl) rfl #[.slice A0_0 l0_0.length c0_0] rfl (by (try simp only [List.map_toArray,List.map_cons,List.map_nil]);first|done|rfl|(simp only [List.length_drop,List.length_take];rfl)) ?_;(with_reducible refine (laws_toClauseS.calls k _ _ l0_0 t257 _ ?side1 ?side2 A2.out).mono ?_);(case side1 => repeat (first|exact (Kd.C_below HR0_0.out HB.out)|(with_reducible refine Kd.C_alloc ?_ _)|(with_reducible refine Kd.C_drewN ?_ _)|(with_reducible refine Kd.C_drew ?_)));(case side2 => exact HC0_0.out);rintro e w10 ⟨v258,rfl,ho0,hb⟩;refine ⟨_,rfl,?_⟩;have n0_:=Aside0.mk (Kd.R_lower ho0 (below_size (by repeat (first|(with_reducible first|exact HB.out|apply below_alloc|apply pw_below_drewN|apply below_drew1|refine below_set ?_ GE254.out|refine below_set ?_ GE255.out|refine below_set ?_ GE256.out)|exact HB.out))));have n1_:=Aside0.mk (blk_below (g:=gb254) (o:=.cells #[.slice A0_0 l0_0.length c0_0,.slice A0_1 l0_1.length c0_1] 36 (0,0)) (by (with_reducible repeat (first|refine blk_drewN ?_ _|refine blk_drew ?_|refine blk_alloc ?_ _));exact BK254.out) hb);have n2_:=Aside0.mk (blk_below (g:=gb255) (o:=.cells #[.slice none 0 0,.slice none 0 0] 41 (0,0)) (by (with_reducible repeat (first|refine blk_drewN ?_ _|refine blk_drew ?_|refine blk_alloc ?_ _));exact BK255.out) hb);have n3_:=Aside0.mk (blk_below (g:=gb256) (o:=.cells #[.slice none 0 0,.slice none 0 0] 41 (0,0)) (by (with_reducible repeat (first|refine blk_drewN ?_ _|refine blk_drew ?_|refine blk_alloc ?_ _));exact BK256.out) hb);have n4_:=Aside0.mk (below_step (by repeat (first|(with_reducible first|exact HB.out|apply below_alloc|apply pw_below_drewN|apply below_drew1|refine below_set ?_ GE254.out|refine below_set ?_ GE255.out|refine below_set ?_ GE256.out)|exact HB.out)) hb);clear BK254;clear BK255;clear BK256;clear HB;have HO259:=n0_;have BK254:=n1_;have BK255:=n2_;have BK256:=n3_;have HB:=n4_;clear n0_ n1_ n2_ n3_ n4_;(try clear hb);(try clear hb2);(try clear hk);(try clear hi);(try clear ho0);obtain ⟨Ao11,co11,eo11⟩:=Kd.R_slice HO259.out;subst eo11;have hnb12:=NB256_255.out;have hnc12:=NB255_256.out;have hcz13_0 : w10.cell? ⟨gb256,0,none⟩ = some (.slice none 0 0):=(blk_cell BK256.out 0).trans rfl;have hcz13_1 : w10.cell? ⟨gb256,1,none⟩ = some (.slice none 0 0):=(blk_cell BK256.out 1).trans rfl;have hfz13_0:=blk_frozen BK256.out 0;have hfz13_1:=blk_frozen BK256.out 1;have hcz14_0 : w10.cell? ⟨gb254,0,none⟩ = some (.slice A0_0 l0_0.length c0_0):=(blk_cell BK254.out 0).trans rfl;have hcz14_1 : w10.cell? ⟨gb254,1,none⟩ = some (.slice A0_1 l0_1.length c0_1):=(blk_cell BK254.out 1).trans rfl;have hfz14_0:=blk_frozen BK254.out 0;have hfz14_1:=blk_frozen BK254.out 1)|((with_reducible refine gate_callee (f:=50) rfl ?_);refine goesL_ (some 10) rfl rfl Tryd.func50 (by kernel_rfl) rfl #[.slice A0_1 l0_1.length c0_1] rfl (by (try simp only [List.map_toArray,List.map_cons,List.map_nil]);first|done|rfl|(simp only [List.length_drop,List.length_take];rfl)) ?_;(with_reducible refine (laws_toStringS.calls k _ _ l0_1 t260 _ ?side1 ?side2 A3.out).mono ?_);(case side1 => exact Kd.C_below HR0_1.out (by repeat (first|(with_reducible first|exact HB.out|apply below_alloc|apply pw_below_drewN|apply below_drew1|refine below_set ?_ GE254.out|refine below_set ?_ GE255.out|refine below_set ?_ GE256.out)|exact HB.out)));(case side2 => exact HC0_1.out);rintro e w15 ⟨v261,rfl,ho0,hb⟩;refine ⟨_,rfl,?_⟩;have n0_:=Aside0.mk (Kd.R_below (by (with_reducible repeat (first|apply Kd.R_alloc|apply Kd.R_drewN|apply Kd.R_drew));exact (Kd.R_mono (Kd.R_far (p:=⟨gb256,0,none⟩) (Kd.R_types HO259.out BK256.out (by decide)) (fun _ hk => hk.2) (.slice Ao11 t257.length co11)) (fun _ h_ => h_.1))) hb);have n1_:=Aside0.mk (Kd.R_lower ho0 (below_size (by repeat (first|(with_reducible first|exact HB.out|apply below_alloc|apply pw_below_drewN|apply below_drew1|refine below_set ?_ GE254.out|refine below_set ?_ GE255.out|refine below_set ?_ GE256.out)|exact HB.out))));have n2_:=Aside0.mk (blk_below (g:=gb254) (o:=.cells #[.slice A0_0 l0_0.length c0_0,.slice A0_1 l0_1.length c0_1] 36 (0,0)) (by (with_reducible repeat (first|refine blk_drewN ?_ _|refine blk_drew ?_|refine blk_alloc ?_ _));refine blk_far ?_ NB254_256.out _;(with_reducible repeat (first|refine blk_drewN ?_ _|refine blk_drew ?_|refine blk_alloc ?_ _));exact BK254.out) hb);have n3_:=Aside0.mk (blk_below (g:=gb255) (o:=.cells #[.slice none 0 0,.slice none 0 0] 41 (0,0)) (by (with_reducible repeat (first|refine blk_drewN ?_ _|refine blk_drew ?_|refine blk_alloc ?_ _));refine blk_far ?_ NB255_256.out _;(with_reducible repeat (first|refine blk_drewN ?_ _|refine blk_drew ?_|refine blk_alloc ?_ _));exact BK255.out) hb);have n4_:=Aside0.mk (blk_below (g:=gb256) (o:=.cells #[.slice Ao11 t257.length co11,.slice none 0 0] 41 (0,0)) (by (with_reducible repeat (first|refine blk_drewN ?_ _|refine blk_drew ?_|refine blk_alloc ?_ _));refine blk_put (cs:=#[.slice none 0 0,.slice none 0 0]) ?_ 0 _ rfl;(with_reducible repeat (first|refine blk_drewN ?_ _|refine blk_drew ?_|refine blk_alloc ?_ _));exact BK256.out) hb);have n5_:=Aside0.mk (below_step (by repeat (first|(with_reducible first|exact HB.out|apply below_alloc|apply pw_below_drewN|apply below_drew1|refine below_set ?_ GE254.out|refine below_set ?_ GE255.out|refine below_set ?_ GE256.out)|exact HB.out)) hb);clear HO259;clear BK254;clear BK255;clear BK256;clear HB;have HO259:=n0_;have HO262:=n1_;have BK254:=n2_;have BK255:=n3_;have BK256:=n4_;have HB:=n5_;clear n0_ n1_ n2_ n3_ n4_ n5_;(try clear hb);(try clear hb2);(try clear hk);(try clear hi);(try clear ho0);obtain ⟨Ao16,co16,eo16⟩:=Kd.R_slice HO262.out;subst eo16;have hcz17_0 : w15.cell? ⟨gb256,0,none⟩ = some (.slice Ao11 t257.length co11):=(blk_cell BK256.out 0).trans rfl;have hcz17_1 : w15.cell? ⟨gb256,1,none⟩ = some (.slice none 0 0):=(blk_cell BK256.out 1).trans rfl;have hfz17_0:=blk_frozen BK256.out 0;have hfz17_1:=blk_frozen BK256.out 1;have hcz18_0 : w15.cell? ⟨gb255,0,none⟩ = some (.slice none 0 0):=(blk_cell BK255.out 0).trans rfl;have hcz18_1 : w15.cell? ⟨gb255,1,none⟩ = some (.slice none 0 0):=(blk_cell BK255.out 1).trans rfl;have hfz18_0:=blk_frozen BK255.out 0;have hfz18_1:=blk_frozen BK255.out 1))
 refine bodyPost_ret (results_cell_row rfl _ _ gb255 41 #[.slice Ao11 t257.length co11,.slice Ao16 t260.length co16] (0,0) _ rfl (by (with_reducible repeat (first|refine blk_drewN ?_ _|refine blk_drew ?_|refine blk_alloc ?_ _));refine blk_put (cs:=#[.slice Ao11 t257.length co11,.slice none 0 0]) ?_ 1 _ rfl;(with_reducible repeat (first|refine blk_drewN ?_ _|refine blk_drew ?_|refine blk_alloc ?_ _));refine blk_put (cs:=#[.slice none 0 0,.slice none 0 0]) ?_ 0 _ rfl;(with_reducible repeat (first|refine blk_drewN ?_ _|refine blk_drew ?_|refine blk_alloc ?_ _));refine blk_far ?_ NB255_256.out _;(with_reducible repeat (first|refine blk_drewN ?_ _|refine blk_drew ?_|refine blk_alloc ?_ _));exact BK255.out) Tryd.underlying41 rfl (by kernel_rfl)) rfl ?_
 exact ⟨_,_,by first|rfl|(simp [errW_none,errW_some] <;> rfl)|(simp [*,errW_none,errW_some] <;> rfl),by (with_reducible repeat (first|apply Kd.R_alloc|apply Kd.R_drewN|apply Kd.R_drew));exact Kd.R_mono (Kd.R_far (p:=⟨gb255,1,none⟩) (Kd.R_far (p:=⟨gb255,0,none⟩) (Kd.R_far (p:=⟨gb256,1,none⟩) (Kd.R_types (Kd.R_types HO259.out BK256.out (by decide)) BK255.out (by decide)) (fun _ hk => hk.1.2) (.slice Ao16 t260.length co16)) (fun _ hk => hk.2) (.slice Ao11 t257.length co11)) (fun _ hk => hk.2) (.slice Ao16 t260.length co16)) (fun _ hk => trivial),by (with_reducible repeat (first|apply Kd.R_alloc|apply Kd.R_drewN|apply Kd.R_drew));exact Kd.R_mono (Kd.R_far (p:=⟨gb255,1,none⟩) (Kd.R_far (p:=⟨gb255,0,none⟩) (Kd.R_far (p:=⟨gb256,1,none⟩) (Kd.R_types (Kd.R_types HO262.out BK256.out (by decide)) BK255.out (by decide)) (fun _ hk => hk.1.2) (.slice Ao16 t260.length co16)) (fun _ hk => hk.2) (.slice Ao11 t257.length co11)) (fun _ hk => hk.2) (.slice Ao16 t260.length co16)) (fun _ hk => trivial),by repeat (first|(with_reducible first|exact HB.out|apply below_alloc|apply pw_below_drewN|apply below_drew1|refine below_set ?_ GE254.out|refine below_set ?_ GE255.out|refine below_set ?_ GE256.out)|exact HB.out)⟩

/-! ### slices_Index_string_string: function 84 -/
def slices_Index_string_string.l0 : Nat → List ByteArray → ByteArray → Int → Int → Option (Int)
 | 0,_,_,_,_ => none
 | k + 1,x0,x1,x7,x8 => if x8 < x7 then (if 0 ≤ x8 then (if x8 < (x0.length : Int) then (if x1.toList = (rdOf ByteArray.empty x0 x8).toList then (some x8) else (slices_Index_string_string.l0 k x0 x1 x7 (wrap64 (x8 + 1)))) else (none)) else (none)) else (some (-1))
def slices_Index_string_string.f (k : Nat) (l0 : List ByteArray) (a1 : ByteArray) : Option (Int):=slices_Index_string_string.l0 k l0 a1 (l0.length : Int) 0
theorem slices_Index_string_string.mono_l : ∀ k,(∀ y0 y1 y2 y3,LeO (slices_Index_string_string.l0 k y0 y1 y2 y3) (slices_Index_string_string.l0 (k + 1) y0 y1 y2 y3))
 | 0 => fun _ _ _ _ r h => by simp [slices_Index_string_string.l0] at h
 | k + 1 => by
  have ih0:=slices_Index_string_string.mono_l k
  ·intro y0 y1 y2 y3
   unfold slices_Index_string_string.l0
   repeat' first
   | (with_reducible exact ih0 _ _ _ _)
   | (with_reducible exact LeO.refl _)
   | (with_reducible exact LeO.none _)
   | (with_reducible refine LeO.ite ?_ ?_)
   | (with_reducible refine LeO.bind ?_ (fun _ => ?_))
   | exact ih0 _ _ _ _
   | exact LeO.none _
   | refine LeO.ite ?_ ?_
   | refine LeO.bind ?_ (fun _ => ?_)
theorem slices_Index_string_string.mono : ∀ a0 a1 k,LeO (slices_Index_string_string.f k a0 a1) (slices_Index_string_string.f (k + 1) a0 a1):=by
 intro a0 a1 k
 have ih0:=slices_Index_string_string.mono_l k
 unfold slices_Index_string_string.f
 repeat' first
   | (with_reducible exact ih0 _ _ _ _)
   | (with_reducible exact LeO.refl _)
   | (with_reducible exact LeO.none _)
   | (with_reducible refine LeO.ite ?_ ?_)
   | (with_reducible refine LeO.bind ?_ (fun _ => ?_))
   | exact ih0 _ _ _ _
   | exact LeO.none _
   | refine LeO.ite ?_ ?_
   | refine LeO.bind ?_ (fun _ => ?_)
set_option maxHeartbeats 8000000 in
set_option maxRecDepth 100000 in
theorem slices_Index_string_string.calls (k : Nat) (A0 : Option Addr) (c0 : Nat) (l0 : List ByteArray) (a1 : ByteArray) (r : Int) (w : World) (hr0 : Kd.C Kd.string w A0 l0.length l0) (hc0 : l0.length ≤ c0) (h : slices_Index_string_string.f k l0 a1 = some r) :
  Calls Tryd.prog 84 #[.slice A0 l0.length c0,.string a1] w fun e w' => e = .returned (.int .i64 r) ∧ Drawn0 w w':=by
 have HR0:=Aside0.mk hr0
 have HC0:=Aside0.mk hc0
 clear hr0 hc0
 have H : (slices_Index_string_string.l0 k l0 a1 (l0.length : Int) 0) = some r:=h
 clear h
 have H':=Aside0.mk H
 clear H
 go_enter Tryd.func84,Tryd.ntmps84
 go_wp2
 go_loopg [8] k (fun kq v8 w' => ∃ (x8_1 : Int),v8 = .int .i64 x8_1 ∧ Aside0 (slices_Index_string_string.l0 kq l0 a1 (l0.length : Int) x8_1 = some r) ∧ Aside0 (kq ≤ k) ∧ Drawn0 w w')
 case atStart => exact ⟨(0),(by first|rfl|(simp;done)|(simp [*];done)),H',⟨Nat.le_refl _⟩,by repeat (first|exact Drawn0.refl _|apply Drawn0.step)⟩
 case round =>
  clear H'
  obtain ⟨x8_1,rfl,HA,HK1,⟨m1,rfl⟩⟩:=hrel
  cases gk with
  | zero => exact absurd HA.out (by simp [slices_Index_string_string.l0])
  | succ k1 =>
   have H:=HA.out
   clear HA
   simp only [slices_Index_string_string.l0] at H
   by_cases c3 : x8_1 < (l0.length : Int)
   ·rw [if_pos c3] at H
    have c3b0 : decide (x8_1 < (l0.length : Int)) = true:=decide_eq_true c3
    clear c3
    by_cases c4 : 0 ≤ x8_1
    rotate_left
    ·rw [if_neg c4] at H
     exact absurd H (by simp)
    rw [if_pos c4] at H
    have c4b0 : decide (0 ≤ x8_1) = true:=decide_eq_true c4
    clear c4
    by_cases c5 : x8_1 < (l0.length : Int)
    rotate_left
    ·rw [if_neg c5] at H
     exact absurd H (by simp)
    rw [if_pos c5] at H
    have c5b0 : decide (x8_1 < (l0.length : Int)) = true:=decide_eq_true c5
    clear c5
    by_cases c6 : a1.toList = (rdOf ByteArray.empty l0 x8_1).toList
    ·rw [if_pos c6] at H
     have c6b0 : (a1.toList == (rdOf ByteArray.empty l0 x8_1).toList) = true:=beq_iff_eq.mpr c6
     have c6b1 : (a1.toList != (rdOf ByteArray.empty l0 x8_1).toList) = false:=bne_eq_false_iff_eq.mpr c6
     clear c6
     obtain rfl:=Option.some.inj H
     have p263 : 0 ≤ (x8_1 : Int):=of_decide_eq_true (by first|(with_reducible assumption)|assumption)
     have q263 : x8_1 < (l0.length : Int):=of_decide_eq_true (by first|(with_reducible assumption)|assumption)
     obtain ⟨ad263,e263,hx263_0⟩:=Kd.at_string HR0.out x8_1 p263 q263
     cases e263
     replace p263:=eq_true p263
     replace q263:=eq_true q263
     go_wp2
     go_ret
     exact ⟨by first|rfl|(simp;done)|(simp [*];done),by repeat (first|exact Drawn0.refl _|apply Drawn0.step)⟩
    ·rw [if_neg c6] at H
     have c6b0 : (a1.toList == (rdOf ByteArray.empty l0 x8_1).toList) = false:=beq_eq_false_iff_ne.mpr c6
     have c6b1 : (a1.toList != (rdOf ByteArray.empty l0 x8_1).toList) = true:=bne_iff_ne.mpr c6
     have H':=Aside0.mk H
     clear H
     have p263 : 0 ≤ (x8_1 : Int):=of_decide_eq_true (by first|(with_reducible assumption)|assumption)
     have q263 : x8_1 < (l0.length : Int):=of_decide_eq_true (by first|(with_reducible assumption)|assumption)
     obtain ⟨ad263,e263,hx263_0⟩:=Kd.at_string HR0.out x8_1 p263 q263
     cases e263
     replace p263:=eq_true p263
     replace q263:=eq_true q263
     go_wp2
     go_roundg k1
     case measure => have:=HK1.out;omega
     case rel => exact ⟨(wrap64 (x8_1 + 1)),(by first|rfl|(simp;done)|(simp [*];done)),H',⟨by have:=HK1.out;omega⟩,by repeat (first|exact Drawn0.refl _|apply Drawn0.step)⟩
   ·rw [if_neg c3] at H
    have c3b0 : decide (x8_1 < (l0.length : Int)) = false:=decide_eq_false c3
    clear c3
    obtain rfl:=Option.some.inj H
    go_wp2
    go_ret
    exact ⟨by first|rfl|(simp;done)|(simp [*];done),by repeat (first|exact Drawn0.refl _|apply Drawn0.step)⟩

/-! ### slices_Contains_string_string: function 51 -/
def slices_Contains_string_string.f (k : Nat) (l0 : List ByteArray) (a1 : ByteArray) : Option (Bool):=(slices_Index_string_string.f k l0 a1).bind fun t264 => (some (decide (t264 ≥ 0)))
theorem slices_Contains_string_string.mono : ∀ a0 a1 k,LeO (slices_Contains_string_string.f k a0 a1) (slices_Contains_string_string.f (k + 1) a0 a1):=by
 intro a0 a1 k
 unfold slices_Contains_string_string.f
 repeat' first
   | (with_reducible exact slices_Index_string_string.mono _ _ _)
   | (with_reducible exact LeO.refl _)
   | (with_reducible exact LeO.none _)
   | (with_reducible refine LeO.ite ?_ ?_)
   | (with_reducible refine LeO.bind ?_ (fun _ => ?_))
   | exact slices_Index_string_string.mono _ _ _
   | exact LeO.none _
   | refine LeO.ite ?_ ?_
   | refine LeO.bind ?_ (fun _ => ?_)
set_option maxHeartbeats 8000000 in
set_option maxRecDepth 100000 in
theorem slices_Contains_string_string.calls (k : Nat) (A0 : Option Addr) (c0 : Nat) (l0 : List ByteArray) (a1 : ByteArray) (r : Bool) (w : World) (hr0 : Kd.C Kd.string w A0 l0.length l0) (hc0 : l0.length ≤ c0) (h : slices_Contains_string_string.f k l0 a1 = some r) :
  Calls Tryd.prog 51 #[.slice A0 l0.length c0,.string a1] w fun e w' => e = .returned (.bool r) ∧ Drawn0 w w':=by
 have HR0:=Aside0.mk hr0
 have HC0:=Aside0.mk hc0
 clear hr0 hc0
 have H : ((slices_Index_string_string.f k l0 a1).bind fun t264 => (some (decide (t264 ≥ 0)))) = some r:=h
 clear h
 replace H:=Option.bind_eq_some_iff.mp H
 obtain ⟨t264,A30,H⟩:=H
 replace H : (some (decide (t264 ≥ 0))) = some r:=H
 have A3:=Aside0.mk A30
 clear A30
 obtain rfl:=Option.some.inj H
 go_enter Tryd.func51,Tryd.ntmps51
 go_wp2_with (first|((with_reducible refine gate_callee (f:=84) rfl ?_);refine goesL_ (some 7) rfl rfl Tryd.func84 (by kernel_rfl) rfl #[.slice A0 l0.length c0,.string a1] rfl (by (try simp only [List.map_toArray,List.map_cons,List.map_nil]);first|done|rfl|(simp only [List.length_drop,List.length_take];rfl)) ?_;(with_reducible refine (slices_Index_string_string.calls k _ _ l0 a1 t264 _ ?side1 ?side2 A3.out).mono ?_);(case side1 => repeat (first|exact HR0.out|(with_reducible refine Kd.C_alloc ?_ _)|(with_reducible refine Kd.C_drewN ?_ _)|(with_reducible refine Kd.C_drew ?_)));(case side2 => exact HC0.out);rintro e w' ⟨rfl,⟨nd,rfl⟩⟩;refine ⟨_,rfl,?_⟩))
 go_ret
 exact ⟨by first|rfl|(simp;done)|(simp [*];done),by repeat (first|exact Drawn0.refl _|apply Drawn0.step)⟩

-- NOT PRINTED: function 85 (impl_Clause_85)

-- NOT PRINTED: function 52 (impl_Clause_52)

-- NOT PRINTED: function 18 (impl_Known)

end Go.Proofs.YtojedbogbodkiaaDoor.KKn
