/- Contracts of functions of the program and of the reference, each a Lean function and the proof that Go comes to its answer. Written by wip/pp/pp.py out of the kit's print, for this claim; nothing of it is trusted: Lean checks it. -/
import Derived.Test.YtojedbogbodkiaaKFlx0
import Derived.Test.YtojedbogbodkiaaKFlx3
import Derived.Test.YtojedbogbodkiaaKFlx4
namespace Go.Proofs.Ytojedbogbodkiaa.KFl
open Go.RowKit Go.Proofs.YtojedbogbodkiaaW.PrintWords Go.Proofs.YtojedbogbodkiaaW.PrintLast Go.Proofs.YtojedbogbodkiaaW.PrintMore
attribute [local go_sem] max2_int min2_int max_two min_two max_three min_three max_four min_four   -- for this text's walks alone
set_option linter.unusedVariables false
set_option linter.unusedSimpArgs false

set_option linter.unusedSectionVars false
variable [fk_laws_szTerm] [fk_laws_eqTerm]
/-! ### impl_TermOk: function 32 -/
def impl_TermOk.f (k : Nat) (a0_0 : Int) (a0_1 : ByteArray) (a0_2 : Int) (l0_3 : List (S29)) : Option (Bool):=(impl_sized.f k a0_0 a0_1 a0_2 l0_3 1).bind fun t184 => (some (decide (t184 ≤ 400)))
set_option maxHeartbeats 8000000 in
set_option maxRecDepth 100000 in
theorem impl_TermOk.calls (k : Nat) (a0_0 : Int) (a0_1 : ByteArray) (a0_2 : Int) (A0_3 : Option Addr) (c0_3 : Nat) (l0_3 : List (S29)) (r : Bool) (w : World) (hr0_3 : Kd.C k29 w A0_3 l0_3.length l0_3) (hc0_3 : l0_3.length ≤ c0_3) (h : impl_TermOk.f k a0_0 a0_1 a0_2 l0_3 = some r) :
  Calls Try.prog 32 #[.agg #[.int .i64 a0_0,.string a0_1,.int .i64 a0_2,.slice A0_3 l0_3.length c0_3]] w fun e w' => e = .returned (.bool r) ∧ Below w.heap.size w w':=by
 have hu29:=Try.underlying29
 have HR0_3:=Aside0.mk hr0_3
 have HC0_3:=Aside0.mk hc0_3
 clear hr0_3 hc0_3
 have HB:=Aside0.mk (Below.refl w.heap.size w)
 have H : ((impl_sized.f k a0_0 a0_1 a0_2 l0_3 1).bind fun t184 => (some (decide (t184 ≤ 400)))) = some r:=h
 clear h
 replace H:=Option.bind_eq_some_iff.mp H
 obtain ⟨t184,A20,H⟩:=H
 replace H : (some (decide (t184 ≤ 400))) = some r:=H
 have A2:=Aside0.mk A20
 clear A20
 obtain rfl:=Option.some.inj H
 go_enter Try.func32,Try.ntmps32
 go_wp2_with (first|((with_reducible refine gate_dst (N:=1) rfl ?_);refine box_event ?hg (N:=1) ?hd (cs:=#[.int .i64 a0_0,.string a0_1,.int .i64 a0_2,.slice A0_3 l0_3.length c0_3]) (t:=29) ?hr ?_;(case hd => rfl);(case hg => rfl);(case hr => first|(go_simp;done)|(go_simp;rfl));intro gb183 hg w3 hbox hb;have n0_:=Aside0.mk (below_step (by repeat (first|(with_reducible first|exact HB.out|apply below_alloc|apply pw_below_drewN|apply below_drew1)|exact HB.out)) hb);have n1_:=Aside0.mk (hbox);have n2_:=Aside0.mk ((by rw [hg];exact (below_size (by repeat (first|(with_reducible first|exact HB.out|apply below_alloc|apply pw_below_drewN|apply below_drew1)|exact HB.out))) : w.heap.size ≤ gb183));have n3_:=Aside0.mk ((by rw [hg];exact (below_size (by repeat (first|(with_reducible first|exact HB.out|apply below_alloc|apply pw_below_drewN|apply below_drew1)|exact HB.out))) : w.heap.size ≤ gb183));clear HB;have HB:=n0_;have BK183:=n1_;have GW183:=n2_;have GE183:=n3_;clear n0_ n1_ n2_ n3_;clear hb hbox hg;have hcz4_0 : w3.cell? ⟨gb183,0,none⟩ = some (.int .i64 a0_0):=(blk_cell BK183.out 0).trans rfl;have hcz4_1 : w3.cell? ⟨gb183,1,none⟩ = some (.string a0_1):=(blk_cell BK183.out 1).trans rfl;have hcz4_2 : w3.cell? ⟨gb183,2,none⟩ = some (.int .i64 a0_2):=(blk_cell BK183.out 2).trans rfl;have hcz4_3 : w3.cell? ⟨gb183,3,none⟩ = some (.slice A0_3 l0_3.length c0_3):=(blk_cell BK183.out 3).trans rfl;have hfz4_0:=blk_frozen BK183.out 0;have hfz4_1:=blk_frozen BK183.out 1;have hfz4_2:=blk_frozen BK183.out 2;have hfz4_3:=blk_frozen BK183.out 3)|((with_reducible refine gate_callee (f:=76) rfl ?_);refine goesL_ (some 4) rfl rfl Try.func76 (by kernel_rfl) rfl #[.agg #[.int .i64 a0_0,.string a0_1,.int .i64 a0_2,.slice A0_3 l0_3.length c0_3],.int .i64 1] rfl (by (try simp only [List.map_toArray,List.map_cons,List.map_nil]);first|done|rfl|(simp only [List.length_drop,List.length_take];rfl)) ?_;(with_reducible refine (impl_sized.calls k a0_0 a0_1 a0_2 _ _ l0_3 1 t184 _ ?side1 ?side2 A2.out).mono ?_);(case side1 => repeat (first|exact (Kd.C_below HR0_3.out HB.out)|(with_reducible refine Kd.C_alloc ?_ _)|(with_reducible refine Kd.C_drewN ?_ _)|(with_reducible refine Kd.C_drew ?_)));(case side2 => exact HC0_3.out);rintro e w5 ⟨rfl,hb⟩;refine ⟨_,rfl,?_⟩;have n0_:=Aside0.mk (blk_below (g:=gb183) (o:=.cells #[.int .i64 a0_0,.string a0_1,.int .i64 a0_2,.slice A0_3 l0_3.length c0_3] 29 (0,0)) (by (with_reducible repeat (first|refine blk_drewN ?_ _|refine blk_drew ?_|refine blk_alloc ?_ _));exact BK183.out) hb);have n1_:=Aside0.mk (below_step (by repeat (first|(with_reducible first|exact HB.out|apply below_alloc|apply pw_below_drewN|apply below_drew1|refine below_set ?_ GE183.out)|exact HB.out)) hb);clear BK183;clear HB;have BK183:=n0_;have HB:=n1_;clear n0_ n1_;(try clear hb)))
 go_ret
 exact ⟨by first|rfl|(simp [errW_none,errW_some] <;> rfl)|(simp [*,errW_none,errW_some] <;> rfl),by repeat (first|(with_reducible first|exact HB.out|apply below_alloc|apply pw_below_drewN|apply below_drew1|refine below_set ?_ GE183.out)|exact HB.out)⟩

/-! ### impl_walked: function 82 -/
def impl_walked.l0 : Nat → List (S29) → Int → Int → ByteArray → Int → List (S29) → Option (Int × ByteArray × Int × (List (S29)))
 | 0,_,_,_,_,_,_ => none
 | k + 1,x0,x5,x186000,x186001,x186002,x186003 => if x5 < 5000 then (if x186000 = 1 then ((impl_within.f x186002 0 (wrap64 ((x0.length : Int) - 1))).bind fun t187 => (if t187 = true then (if 0 ≤ x186002 then (if x186002 < (x0.length : Int) then (if ((rd_T29 x0 x186002).f0) = 0 then (some (x186000,x186001,x186002,x186003)) else (impl_walked.l0 k x0 (wrap64 (x5 + 1)) ((rd_T29 x0 x186002).f0) ((rd_T29 x0 x186002).f1) ((rd_T29 x0 x186002).f2) ((rd_T29 x0 x186002).f3))) else (none)) else (none)) else (some (x186000,x186001,x186002,x186003)))) else (some (x186000,x186001,x186002,x186003))) else (some (x186000,x186001,x186002,x186003))
def impl_walked.f (k : Nat) (l0 : List (S29)) (a1_0 : Int) (a1_1 : ByteArray) (a1_2 : Int) (l1_3 : List (S29)) : Option (Int × ByteArray × Int × (List (S29))):=impl_walked.l0 k l0 0 a1_0 a1_1 a1_2 l1_3
theorem impl_walked.mono_l : ∀ k,(∀ y0 y1 y2 y3 y4 y5,LeO (impl_walked.l0 k y0 y1 y2 y3 y4 y5) (impl_walked.l0 (k + 1) y0 y1 y2 y3 y4 y5))
 | 0 => fun _ _ _ _ _ _ r h => by simp [impl_walked.l0] at h
 | k + 1 => by
  have ih0:=impl_walked.mono_l k
  ·intro y0 y1 y2 y3 y4 y5
   unfold impl_walked.l0
   repeat' first
   | (with_reducible exact ih0 _ _ _ _ _ _)
   | (with_reducible exact LeO.refl _)
   | (with_reducible exact LeO.none _)
   | (with_reducible refine LeO.ite ?_ ?_)
   | (with_reducible refine LeO.bind ?_ (fun _ => ?_))
   | exact ih0 _ _ _ _ _ _
   | exact LeO.none _
   | refine LeO.ite ?_ ?_
   | refine LeO.bind ?_ (fun _ => ?_)
set_option maxHeartbeats 8000000 in
set_option maxRecDepth 100000 in
theorem impl_walked.calls (k : Nat) (P0_ : Nat → Prop) (A0 : Option Addr) (c0 : Nat) (l0 : List (S29)) (a1_0 : Int) (a1_1 : ByteArray) (a1_2 : Int) (P1_3_ : Nat → Prop) (A1_3 : Option Addr) (c1_3 : Nat) (l1_3 : List (S29)) (r1 : Int) (r2 : ByteArray) (r3 : Int) (r4 : List (S29)) (w : World) (hs0 : Kd.V k29 29 w w.heap.size (fun k_ => P0_ k_) (.slice A0 l0.length c0) l0) (hs1_3 : Kd.V k29 29 w w.heap.size (fun k_ => P1_3_ k_) (.slice A1_3 l1_3.length c1_3) l1_3) (h : impl_walked.f k l0 a1_0 a1_1 a1_2 l1_3 = some (r1,r2,r3,r4)) :
  Calls Try.prog 82 #[.slice A0 l0.length c0,.agg #[.int .i64 a1_0,.string a1_1,.int .i64 a1_2,.slice A1_3 l1_3.length c1_3]] w fun e w' => ∃ v3_ : Value,e = .returned (.agg #[.int .i64 r1,.string r2,.int .i64 r3,v3_]) ∧ Kd.V k29 29 w' w.heap.size (fun k_ => ((P0_ k_ ∨ P1_3_ k_) ∨ w.heap.size ≤ k_)) v3_ r4 ∧ Below w.heap.size w w':=by
 have hu29:=Try.underlying29
 have HO0:=Aside0.mk (show Kd.V k29 29 w w.heap.size (fun k_ => ((P0_ k_ ∨ P1_3_ k_) ∨ w.heap.size ≤ k_)) (.slice A0 l0.length c0) l0 from Kd.V_mono hs0 (fun k_ hk => .inl (.inl hk)))
 have HO1_3:=Aside0.mk (show Kd.V k29 29 w w.heap.size (fun k_ => ((P0_ k_ ∨ P1_3_ k_) ∨ w.heap.size ≤ k_)) (.slice A1_3 l1_3.length c1_3) l1_3 from Kd.V_mono hs1_3 (fun k_ hk => .inl (.inr hk)))
 have HB:=Aside0.mk (Below.refl w.heap.size w)
 have H : (impl_walked.l0 k l0 0 a1_0 a1_1 a1_2 l1_3) = some (r1,r2,r3,r4):=h
 clear h
 have H':=Aside0.mk H
 clear H
 go_enter Try.func82,Try.ntmps82
 go_wp2_with (first|((with_reducible refine gate_dst (N:=3) rfl ?_);(try (refine gate_guard (by rfl) ?_;dsimp only));refine box_event ?hg (N:=3) ?hd (cs:=#[.int .i64 a1_0,.string a1_1,.int .i64 a1_2,.slice A1_3 l1_3.length c1_3]) (t:=29) ?hr ?_;(case hd => rfl);(case hg => rfl);(case hr => first|(go_simp;done)|(go_simp;rfl));intro gb185 hg w3 hbox hb;have n0_:=Aside0.mk (Kd.V_below (Kd.V_elderB (by (with_reducible repeat (first|apply Kd.V_alloc|apply Kd.V_drewN|apply Kd.V_drew));exact HO0.out) gb185 (Nat.le_of_eq hg.symm)) hb);have n1_:=Aside0.mk (Kd.V_below (Kd.V_elderB (by (with_reducible repeat (first|apply Kd.V_alloc|apply Kd.V_drewN|apply Kd.V_drew));exact HO1_3.out) gb185 (Nat.le_of_eq hg.symm)) hb);have n2_:=Aside0.mk (below_step (by repeat (first|(with_reducible first|exact HB.out|apply below_alloc|apply pw_below_drewN|apply below_drew1)|exact HB.out)) hb);have n3_:=Aside0.mk (hbox);have n4_:=Aside0.mk ((by rw [hg];exact (below_size (by repeat (first|(with_reducible first|exact HB.out|apply below_alloc|apply pw_below_drewN|apply below_drew1)|exact HB.out))) : w.heap.size ≤ gb185));have n5_:=Aside0.mk ((by rw [hg];exact (below_size (by repeat (first|(with_reducible first|exact HB.out|apply below_alloc|apply pw_below_drewN|apply below_drew1)|exact HB.out))) : w.heap.size ≤ gb185));clear HO0;clear HO1_3;clear HB;have HO0:=n0_;have HO1_3:=n1_;have HB:=n2_;have BK185:=n3_;have GW185:=n4_;have GE185:=n5_;clear n0_ n1_ n2_ n3_ n4_ n5_;clear hb hbox hg)|((with_reducible refine gate_dst (N:=4) rfl ?_);(try (refine gate_guard (by rfl) ?_;dsimp only));refine box_event ?hg (N:=4) ?hd (cs:=#[.int .i64 0,.string (⟨#[]⟩ : ByteArray),.int .i64 0,.slice none 0 0]) (t:=29) ?hr ?_;(case hd => rfl);(case hg => rfl);(case hr => first|(go_simp;done)|(go_simp;rfl));intro gb186 hg w4 hbox hb;have n0_:=Aside0.mk (Kd.V_below (Kd.V_elderB (by (with_reducible repeat (first|apply Kd.V_alloc|apply Kd.V_drewN|apply Kd.V_drew));exact HO0.out) gb186 (Nat.le_of_eq hg.symm)) hb);have n1_:=Aside0.mk (Kd.V_below (Kd.V_elderB (by (with_reducible repeat (first|apply Kd.V_alloc|apply Kd.V_drewN|apply Kd.V_drew));exact HO1_3.out) gb186 (Nat.le_of_eq hg.symm)) hb);have n2_:=Aside0.mk (blk_below (g:=gb185) (o:=.cells #[.int .i64 a1_0,.string a1_1,.int .i64 a1_2,.slice A1_3 l1_3.length c1_3] 29 (0,0)) (by (with_reducible repeat (first|refine blk_drewN ?_ _|refine blk_drew ?_|refine blk_alloc ?_ _));exact BK185.out) hb);have n3_:=Aside0.mk (below_step (by repeat (first|(with_reducible first|exact HB.out|apply below_alloc|apply pw_below_drewN|apply below_drew1|refine below_set ?_ GE185.out)|exact HB.out)) hb);have n4_:=Aside0.mk (hbox);have n5_:=Aside0.mk ((by rw [hg];exact (below_size (by repeat (first|(with_reducible first|exact HB.out|apply below_alloc|apply pw_below_drewN|apply below_drew1|refine below_set ?_ GE185.out)|exact HB.out))) : w.heap.size ≤ gb186));have n6_:=Aside0.mk ((by rw [hg];exact (below_size (by repeat (first|(with_reducible first|exact HB.out|apply below_alloc|apply pw_below_drewN|apply below_drew1|refine below_set ?_ GE185.out)|exact HB.out))) : w.heap.size ≤ gb186));have n7_:=Aside0.mk ((by rw [hg];exact Nat.ne_of_lt (blk_lt (g:=gb185) (o:=.cells #[.int .i64 a1_0,.string a1_1,.int .i64 a1_2,.slice A1_3 l1_3.length c1_3] 29 (0,0)) (by (with_reducible repeat (first|refine blk_drewN ?_ _|refine blk_drew ?_|refine blk_alloc ?_ _));exact BK185.out)) : gb185 ≠ gb186));have n8_:=Aside0.mk ((by rw [hg];exact Nat.ne_of_gt (blk_lt (g:=gb185) (o:=.cells #[.int .i64 a1_0,.string a1_1,.int .i64 a1_2,.slice A1_3 l1_3.length c1_3] 29 (0,0)) (by (with_reducible repeat (first|refine blk_drewN ?_ _|refine blk_drew ?_|refine blk_alloc ?_ _));exact BK185.out)) : gb186 ≠ gb185));clear HO0;clear HO1_3;clear BK185;clear HB;have HO0:=n0_;have HO1_3:=n1_;have BK185:=n2_;have HB:=n3_;have BK186:=n4_;have GW186:=n5_;have GE186:=n6_;have NB185_186:=n7_;have NB186_185:=n8_;clear n0_ n1_ n2_ n3_ n4_ n5_ n6_ n7_ n8_;clear hb hbox hg))
 go_loopg [5] k (fun kq v5 w' => ∃ (x5_1 : Int) (x186000_1 : Int) (x186001_1 : ByteArray) (x186002_1 : Int) (x186003_1 : List (S29)) (u186003 : Value),v5 = .int .i64 x5_1 ∧ Aside0 (impl_walked.l0 kq l0 x5_1 x186000_1 x186001_1 x186002_1 x186003_1 = some (r1,r2,r3,r4)) ∧ Aside0 (kq ≤ k) ∧ Aside0 (Kd.V k29 29 w' w.heap.size (fun k_ => ((P0_ k_ ∨ P1_3_ k_) ∨ w.heap.size ≤ k_) ∧ k_ ≠ gb185 ∧ k_ ≠ gb186) (.slice A0 l0.length c0) l0) ∧ Aside0 (Kd.V k29 29 w' w.heap.size (fun k_ => ((P0_ k_ ∨ P1_3_ k_) ∨ w.heap.size ≤ k_) ∧ k_ ≠ gb185 ∧ k_ ≠ gb186) u186003 x186003_1) ∧ Aside0 (w'.heap[gb185]? = some (.cells #[.int .i64 x186000_1,.string x186001_1,.int .i64 x186002_1,u186003] 29 (0,0))) ∧ Aside0 (w'.heap[gb186]? = some (.cells #[.int .i64 0,.string (⟨#[]⟩ : ByteArray),.int .i64 0,(.slice none 0 0)] 29 (0,0))) ∧ Aside0 (Below w.heap.size w w'))
 case atStart => exact ⟨(0),(a1_0),(a1_1),(a1_2),(l1_3),(.slice A1_3 l1_3.length c1_3),(by first|rfl|(simp;done)|(simp [*];done)),H',⟨Nat.le_refl _⟩,⟨by (with_reducible repeat (first|apply Kd.V_alloc|apply Kd.V_drewN|apply Kd.V_drew));exact Kd.V_mono HO0.out (fun _ hk => ⟨hk.1.1,⟨hk.1.2,hk.2⟩⟩)⟩,⟨by (with_reducible repeat (first|apply Kd.V_alloc|apply Kd.V_drewN|apply Kd.V_drew));exact Kd.V_mono HO1_3.out (fun _ hk => ⟨hk.1.1,⟨hk.1.2,hk.2⟩⟩)⟩,⟨by (with_reducible repeat (first|refine blk_drewN ?_ _|refine blk_drew ?_|refine blk_alloc ?_ _));exact BK185.out⟩,⟨by (with_reducible repeat (first|refine blk_drewN ?_ _|refine blk_drew ?_|refine blk_alloc ?_ _));exact BK186.out⟩,⟨by repeat (first|(with_reducible first|exact HB.out|apply below_alloc|apply pw_below_drewN|apply below_drew1|refine below_set ?_ GE185.out|refine below_set ?_ GE186.out)|exact HB.out)⟩⟩
 case round =>
  clear H'
  try clear BK185
  try clear BK186
  obtain ⟨x5_1,x186000_1,x186001_1,x186002_1,x186003_1,u186003,rfl,HA,HK1,HO_0,HO_186003,BK185,BK186,HB⟩:=hrel
  cases gk with
  | zero => exact absurd HA.out (by simp [impl_walked.l0])
  | succ k1 =>
   have H:=HA.out
   clear HA
   simp only [impl_walked.l0] at H
   by_cases c5 : x5_1 < 5000
   ·rw [if_pos c5] at H
    have c5b0 : decide (x5_1 < 5000) = true:=decide_eq_true c5
    clear c5
    by_cases c6 : x186000_1 = 1
    ·rw [if_pos c6] at H
     have c6b0 : (x186000_1 == 1) = true:=beq_iff_eq.mpr c6
     have c6b1 : (x186000_1 != 1) = false:=bne_eq_false_iff_eq.mpr c6
     clear c6
     replace H:=Option.bind_eq_some_iff.mp H
     obtain ⟨t187,A70,H⟩:=H
     replace H : (if t187 = true then (if 0 ≤ x186002_1 then (if x186002_1 < (l0.length : Int) then (if ((rd_T29 l0 x186002_1).f0) = 0 then (some (x186000_1,x186001_1,x186002_1,x186003_1)) else (impl_walked.l0 k1 l0 (wrap64 (x5_1 + 1)) ((rd_T29 l0 x186002_1).f0) ((rd_T29 l0 x186002_1).f1) ((rd_T29 l0 x186002_1).f2) ((rd_T29 l0 x186002_1).f3))) else (none)) else (none)) else (some (x186000_1,x186001_1,x186002_1,x186003_1))) = some (r1,r2,r3,r4):=H
     have A7:=Aside0.mk A70
     clear A70
     by_cases c8 : t187 = true
     ·subst c8
      have H1 : (if 0 ≤ x186002_1 then (if x186002_1 < (l0.length : Int) then (if ((rd_T29 l0 x186002_1).f0) = 0 then (some (x186000_1,x186001_1,x186002_1,x186003_1)) else (impl_walked.l0 k1 l0 (wrap64 (x5_1 + 1)) ((rd_T29 l0 x186002_1).f0) ((rd_T29 l0 x186002_1).f1) ((rd_T29 l0 x186002_1).f2) ((rd_T29 l0 x186002_1).f3))) else (none)) else (none)) = some (r1,r2,r3,r4):=by rw [if_pos rfl] at H;exact H
      clear H
      have H:=H1
      clear H1
      by_cases c9 : 0 ≤ x186002_1
      rotate_left
      ·rw [if_neg c9] at H
       exact absurd H (by simp)
      rw [if_pos c9] at H
      have c9b0 : decide (0 ≤ x186002_1) = true:=decide_eq_true c9
      clear c9
      by_cases c10 : x186002_1 < (l0.length : Int)
      rotate_left
      ·rw [if_neg c10] at H
       exact absurd H (by simp)
      rw [if_pos c10] at H
      have c10b0 : decide (x186002_1 < (l0.length : Int)) = true:=decide_eq_true c10
      clear c10
      by_cases c11 : ((rd_T29 l0 x186002_1).f0) = 0
      ·rw [if_pos c11] at H
       have c11b0 : (((rd_T29 l0 x186002_1).f0) == 0) = true:=beq_iff_eq.mpr c11
       have c11b1 : (((rd_T29 l0 x186002_1).f0) != 0) = false:=bne_eq_false_iff_eq.mpr c11
       clear c11
       simp only [Option.some.injEq,Prod.mk.injEq] at H
       obtain ⟨rfl,rfl,rfl,rfl⟩:=H
       have hnb12:=NB185_186.out
       have hnc12:=NB186_185.out
       have hcz13_0 : wr.cell? ⟨gb185,0,none⟩ = some (.int .i64 x186000_1):=(blk_cell BK185.out 0).trans rfl
       have hcz13_1 : wr.cell? ⟨gb185,1,none⟩ = some (.string x186001_1):=(blk_cell BK185.out 1).trans rfl
       have hcz13_2 : wr.cell? ⟨gb185,2,none⟩ = some (.int .i64 x186002_1):=(blk_cell BK185.out 2).trans rfl
       have hcz13_3 : wr.cell? ⟨gb185,3,none⟩ = some (u186003):=(blk_cell BK185.out 3).trans rfl
       have hfz13_0:=blk_frozen BK185.out 0
       have hfz13_1:=blk_frozen BK185.out 1
       have hfz13_2:=blk_frozen BK185.out 2
       have hfz13_3:=blk_frozen BK185.out 3
       go_wp2_with (first|(go_at_call 71;(with_reducible refine (impl_within.calls x186002_1 0 (wrap64 ((l0.length : Int) - 1)) true _ A7.out).mono ?_);rintro e w' ⟨rfl,⟨nd,rfl⟩⟩;(try (rw [drewN_self wr];generalize hq_ : World.drewN wr _ = wr;have n0_ : Aside0 (Kd.V k29 29 wr w.heap.size (fun k_ => ((P0_ k_ ∨ P1_3_ k_) ∨ w.heap.size ≤ k_) ∧ k_ ≠ gb185 ∧ k_ ≠ gb186) (.slice A0 l0.length c0) l0):=⟨by rw [← hq_];exact (by (with_reducible repeat (first|apply Kd.V_alloc|apply Kd.V_drewN|apply Kd.V_drew));exact HO_0.out)⟩;have n1_ : Aside0 (Kd.V k29 29 wr w.heap.size (fun k_ => ((P0_ k_ ∨ P1_3_ k_) ∨ w.heap.size ≤ k_) ∧ k_ ≠ gb185 ∧ k_ ≠ gb186) u186003 x186003_1):=⟨by rw [← hq_];exact (by (with_reducible repeat (first|apply Kd.V_alloc|apply Kd.V_drewN|apply Kd.V_drew));exact HO_186003.out)⟩;have n2_ : Aside0 (wr.heap[gb185]? = some (.cells #[.int .i64 x186000_1,.string x186001_1,.int .i64 x186002_1,u186003] 29 (0,0))):=⟨by rw [← hq_];exact (by (with_reducible repeat (first|refine blk_drewN ?_ _|refine blk_drew ?_|refine blk_alloc ?_ _));exact BK185.out)⟩;have n3_ : Aside0 (wr.heap[gb186]? = some (.cells #[.int .i64 0,.string (⟨#[]⟩ : ByteArray),.int .i64 0,.slice none 0 0] 29 (0,0))):=⟨by rw [← hq_];exact (by (with_reducible repeat (first|refine blk_drewN ?_ _|refine blk_drew ?_|refine blk_alloc ?_ _));exact BK186.out)⟩;have n4_ : Aside0 (Below w.heap.size w wr):=⟨by rw [← hq_];exact (by repeat (first|(with_reducible first|exact HB.out|apply below_alloc|apply pw_below_drewN|apply below_drew1|refine below_set ?_ GE185.out|refine below_set ?_ GE186.out)|exact HB.out))⟩;clear HO_0 HO_186003 BK185 BK186 HB hq_;have HO_0:=n0_;have HO_186003:=n1_;have BK185:=n2_;have BK186:=n3_;have HB:=n4_;clear n0_ n1_ n2_ n3_ n4_;(try have hyq185_0:=(blk_cell BK185.out 0).trans (rfl : _ = some _));(try have hyf185_0:=blk_frozen BK185.out 0);(try have hyq185_1:=(blk_cell BK185.out 1).trans (rfl : _ = some _));(try have hyf185_1:=blk_frozen BK185.out 1);(try have hyq185_2:=(blk_cell BK185.out 2).trans (rfl : _ = some _));(try have hyf185_2:=blk_frozen BK185.out 2);(try have hyq185_3:=(blk_cell BK185.out 3).trans (rfl : _ = some _));(try have hyf185_3:=blk_frozen BK185.out 3);(try have hyq186_0:=(blk_cell BK186.out 0).trans (rfl : _ = some _));(try have hyf186_0:=blk_frozen BK186.out 0);(try have hyq186_1:=(blk_cell BK186.out 1).trans (rfl : _ = some _));(try have hyf186_1:=blk_frozen BK186.out 1);(try have hyq186_2:=(blk_cell BK186.out 2).trans (rfl : _ = some _));(try have hyf186_2:=blk_frozen BK186.out 2);(try have hyq186_3:=(blk_cell BK186.out 3).trans (rfl : _ = some _));(try have hyf186_3:=blk_frozen BK186.out 3)));have p188 : 0 ≤ (x186002_1 : Int):=of_decide_eq_true (by first|(with_reducible assumption)|assumption);have q188 : x186002_1 < (l0.length : Int):=of_decide_eq_true (by first|(with_reducible assumption)|assumption);obtain ⟨ad188,A188_3,c188_3,e188,hx188_0,hx188_1,hx188_2,hx188_3,hl188_3,hi188_3⟩:=at_T29 (Kd.V_reads' HO_0.out).2.2 x186002_1 p188 q188;cases e188;obtain ⟨ce188,hce188,hMe188,hcc188⟩:=Kd.V_get HO_0.out z29 x186002_1 p188 (by first|exact q188|exact of_decide_eq_true (by first|(with_reducible assumption)|assumption)|(have e_:=(Kd.V_reads' HO_0.out).1;omega));obtain ⟨ua188_3,uc188_3,rfl,ul188_3,ge188_3⟩:=k29_openF hMe188;have hv188_3:=hcc188 3 _ rfl;rw [add_field _ _ 3 (by omega)] at hv188_3;replace hv188_3:=Option.some.inj (hv188_3.symm.trans hx188_3);injection hv188_3 with hva_ hvn_ hvc_;rw [hva_] at ge188_3;rw [hvc_] at ul188_3;have HL188_3:=Aside0.mk (show Kd.V k29 29 _ w.heap.size _ _ ((rd_T29 l0 x186002_1).f3) from Kd.V_mk ul188_3 ge188_3);clear hva_ hvn_ hvc_ ge188_3 ul188_3;clear hcc188 hce188;have HR188_3:=Aside0.mk hi188_3;have HC188_3:=Aside0.mk hl188_3;clear hi188_3 hl188_3;replace p188:=eq_true p188;replace q188:=eq_true q188;have hcz14_0 : wr.cell? ⟨gb186,0,none⟩ = some (.int .i64 0):=(blk_cell BK186.out 0).trans rfl;have hcz14_1 : wr.cell? ⟨gb186,1,none⟩ = some (.string (⟨#[]⟩ : ByteArray)):=(blk_cell BK186.out 1).trans rfl;have hcz14_2 : wr.cell? ⟨gb186,2,none⟩ = some (.int .i64 0):=(blk_cell BK186.out 2).trans rfl;have hcz14_3 : wr.cell? ⟨gb186,3,none⟩ = some (.slice none 0 0):=(blk_cell BK186.out 3).trans rfl;have hfz14_0:=blk_frozen BK186.out 0;have hfz14_1:=blk_frozen BK186.out 1;have hfz14_2:=blk_frozen BK186.out 2;have hfz14_3:=blk_frozen BK186.out 3;obtain ⟨Ao15,co15,eo15⟩:=Kd.V_slice HO_186003.out;subst eo15))
       refine bodyPost_ret (results_cell_row rfl _ _ gb186 29 #[.int .i64 x186000_1,.string x186001_1,.int .i64 x186002_1,.slice Ao15 x186003_1.length co15] (0,0) _ rfl (by (with_reducible repeat (first|refine blk_drewN ?_ _|refine blk_drew ?_|refine blk_alloc ?_ _));refine blk_put (cs:=#[.int .i64 x186000_1,.string x186001_1,.int .i64 x186002_1,.slice none 0 0]) ?_ 3 _ rfl;(with_reducible repeat (first|refine blk_drewN ?_ _|refine blk_drew ?_|refine blk_alloc ?_ _));refine blk_put (cs:=#[.int .i64 x186000_1,.string x186001_1,.int .i64 0,.slice none 0 0]) ?_ 2 _ rfl;(with_reducible repeat (first|refine blk_drewN ?_ _|refine blk_drew ?_|refine blk_alloc ?_ _));refine blk_put (cs:=#[.int .i64 x186000_1,.string (⟨#[]⟩ : ByteArray),.int .i64 0,.slice none 0 0]) ?_ 1 _ rfl;(with_reducible repeat (first|refine blk_drewN ?_ _|refine blk_drew ?_|refine blk_alloc ?_ _));refine blk_put (cs:=#[.int .i64 0,.string (⟨#[]⟩ : ByteArray),.int .i64 0,.slice none 0 0]) ?_ 0 _ rfl;(with_reducible repeat (first|refine blk_drewN ?_ _|refine blk_drew ?_|refine blk_alloc ?_ _));exact BK186.out) Try.underlying29 rfl (by kernel_rfl)) rfl ?_
       exact ⟨_,by first|rfl|(simp [errW_none,errW_some] <;> rfl)|(simp [*,errW_none,errW_some] <;> rfl),by (with_reducible repeat (first|apply Kd.V_alloc|apply Kd.V_drewN|apply Kd.V_drew));exact Kd.V_mono (Kd.V_far (p:=⟨gb186,3,none⟩) (Kd.V_far (p:=⟨gb186,2,none⟩) (Kd.V_far (p:=⟨gb186,1,none⟩) (Kd.V_far (p:=⟨gb186,0,none⟩) (Kd.V_mono HO_186003.out (fun k_ hk => (⟨hk,hk.2.2⟩ : _ ∧ k_ ≠ gb186))) (fun _ hk => hk.2) (.int .i64 x186000_1)) (fun _ hk => hk.2) (.string x186001_1)) (fun _ hk => hk.2) (.int .i64 x186002_1)) (fun _ hk => hk.2) (.slice Ao15 x186003_1.length co15)) (fun _ hk => hk.1.1),by repeat (first|(with_reducible first|exact HB.out|apply below_alloc|apply pw_below_drewN|apply below_drew1|refine below_set ?_ GE185.out|refine below_set ?_ GE186.out)|exact HB.out)⟩
      ·rw [if_neg c11] at H
       have c11b0 : (((rd_T29 l0 x186002_1).f0) == 0) = false:=beq_eq_false_iff_ne.mpr c11
       have c11b1 : (((rd_T29 l0 x186002_1).f0) != 0) = true:=bne_iff_ne.mpr c11
       have H':=Aside0.mk H
       clear H
       have hnb16:=NB185_186.out
       have hnc16:=NB186_185.out
       have hcz17_0 : wr.cell? ⟨gb185,0,none⟩ = some (.int .i64 x186000_1):=(blk_cell BK185.out 0).trans rfl
       have hcz17_1 : wr.cell? ⟨gb185,1,none⟩ = some (.string x186001_1):=(blk_cell BK185.out 1).trans rfl
       have hcz17_2 : wr.cell? ⟨gb185,2,none⟩ = some (.int .i64 x186002_1):=(blk_cell BK185.out 2).trans rfl
       have hcz17_3 : wr.cell? ⟨gb185,3,none⟩ = some (u186003):=(blk_cell BK185.out 3).trans rfl
       have hfz17_0:=blk_frozen BK185.out 0
       have hfz17_1:=blk_frozen BK185.out 1
       have hfz17_2:=blk_frozen BK185.out 2
       have hfz17_3:=blk_frozen BK185.out 3
       go_wp2_with (first|(go_at_call 71;(with_reducible refine (impl_within.calls x186002_1 0 (wrap64 ((l0.length : Int) - 1)) true _ A7.out).mono ?_);rintro e w' ⟨rfl,⟨nd,rfl⟩⟩;(try (rw [drewN_self wr];generalize hq_ : World.drewN wr _ = wr;have n0_ : Aside0 (Kd.V k29 29 wr w.heap.size (fun k_ => ((P0_ k_ ∨ P1_3_ k_) ∨ w.heap.size ≤ k_) ∧ k_ ≠ gb185 ∧ k_ ≠ gb186) (.slice A0 l0.length c0) l0):=⟨by rw [← hq_];exact (by (with_reducible repeat (first|apply Kd.V_alloc|apply Kd.V_drewN|apply Kd.V_drew));exact HO_0.out)⟩;have n1_ : Aside0 (Kd.V k29 29 wr w.heap.size (fun k_ => ((P0_ k_ ∨ P1_3_ k_) ∨ w.heap.size ≤ k_) ∧ k_ ≠ gb185 ∧ k_ ≠ gb186) u186003 x186003_1):=⟨by rw [← hq_];exact (by (with_reducible repeat (first|apply Kd.V_alloc|apply Kd.V_drewN|apply Kd.V_drew));exact HO_186003.out)⟩;have n2_ : Aside0 (wr.heap[gb185]? = some (.cells #[.int .i64 x186000_1,.string x186001_1,.int .i64 x186002_1,u186003] 29 (0,0))):=⟨by rw [← hq_];exact (by (with_reducible repeat (first|refine blk_drewN ?_ _|refine blk_drew ?_|refine blk_alloc ?_ _));exact BK185.out)⟩;have n3_ : Aside0 (wr.heap[gb186]? = some (.cells #[.int .i64 0,.string (⟨#[]⟩ : ByteArray),.int .i64 0,.slice none 0 0] 29 (0,0))):=⟨by rw [← hq_];exact (by (with_reducible repeat (first|refine blk_drewN ?_ _|refine blk_drew ?_|refine blk_alloc ?_ _));exact BK186.out)⟩;have n4_ : Aside0 (Below w.heap.size w wr):=⟨by rw [← hq_];exact (by repeat (first|(with_reducible first|exact HB.out|apply below_alloc|apply pw_below_drewN|apply below_drew1|refine below_set ?_ GE185.out|refine below_set ?_ GE186.out)|exact HB.out))⟩;clear HO_0 HO_186003 BK185 BK186 HB hq_;have HO_0:=n0_;have HO_186003:=n1_;have BK185:=n2_;have BK186:=n3_;have HB:=n4_;clear n0_ n1_ n2_ n3_ n4_;(try have hyq185_0:=(blk_cell BK185.out 0).trans (rfl : _ = some _));(try have hyf185_0:=blk_frozen BK185.out 0);(try have hyq185_1:=(blk_cell BK185.out 1).trans (rfl : _ = some _));(try have hyf185_1:=blk_frozen BK185.out 1);(try have hyq185_2:=(blk_cell BK185.out 2).trans (rfl : _ = some _));(try have hyf185_2:=blk_frozen BK185.out 2);(try have hyq185_3:=(blk_cell BK185.out 3).trans (rfl : _ = some _));(try have hyf185_3:=blk_frozen BK185.out 3);(try have hyq186_0:=(blk_cell BK186.out 0).trans (rfl : _ = some _));(try have hyf186_0:=blk_frozen BK186.out 0);(try have hyq186_1:=(blk_cell BK186.out 1).trans (rfl : _ = some _));(try have hyf186_1:=blk_frozen BK186.out 1);(try have hyq186_2:=(blk_cell BK186.out 2).trans (rfl : _ = some _));(try have hyf186_2:=blk_frozen BK186.out 2);(try have hyq186_3:=(blk_cell BK186.out 3).trans (rfl : _ = some _));(try have hyf186_3:=blk_frozen BK186.out 3)));have p188 : 0 ≤ (x186002_1 : Int):=of_decide_eq_true (by first|(with_reducible assumption)|assumption);have q188 : x186002_1 < (l0.length : Int):=of_decide_eq_true (by first|(with_reducible assumption)|assumption);obtain ⟨ad188,A188_3,c188_3,e188,hx188_0,hx188_1,hx188_2,hx188_3,hl188_3,hi188_3⟩:=at_T29 (Kd.V_reads' HO_0.out).2.2 x186002_1 p188 q188;cases e188;obtain ⟨ce188,hce188,hMe188,hcc188⟩:=Kd.V_get HO_0.out z29 x186002_1 p188 (by first|exact q188|exact of_decide_eq_true (by first|(with_reducible assumption)|assumption)|(have e_:=(Kd.V_reads' HO_0.out).1;omega));obtain ⟨ua188_3,uc188_3,rfl,ul188_3,ge188_3⟩:=k29_openF hMe188;have hv188_3:=hcc188 3 _ rfl;rw [add_field _ _ 3 (by omega)] at hv188_3;replace hv188_3:=Option.some.inj (hv188_3.symm.trans hx188_3);injection hv188_3 with hva_ hvn_ hvc_;rw [hva_] at ge188_3;rw [hvc_] at ul188_3;have HL188_3:=Aside0.mk (show Kd.V k29 29 _ w.heap.size _ _ ((rd_T29 l0 x186002_1).f3) from Kd.V_mk ul188_3 ge188_3);clear hva_ hvn_ hvc_ ge188_3 ul188_3;clear hcc188 hce188;have HR188_3:=Aside0.mk hi188_3;have HC188_3:=Aside0.mk hl188_3;clear hi188_3 hl188_3;replace p188:=eq_true p188;replace q188:=eq_true q188;have p189 : 0 ≤ (x186002_1 : Int):=of_decide_eq_true (by first|(with_reducible assumption)|assumption);have q189 : x186002_1 < (l0.length : Int):=of_decide_eq_true (by first|(with_reducible assumption)|assumption);obtain ⟨ad189,A189_3,c189_3,e189,hx189_0,hx189_1,hx189_2,hx189_3,hl189_3,hi189_3⟩:=at_T29 (Kd.V_reads' HO_0.out).2.2 x186002_1 p189 q189;obtain rfl : ad188 = ad189:=(by injection e189);obtain ⟨ce189,hce189,hMe189,hcc189⟩:=Kd.V_get HO_0.out z29 x186002_1 p189 (by first|exact q189|exact of_decide_eq_true (by first|(with_reducible assumption)|assumption)|(have e_:=(Kd.V_reads' HO_0.out).1;omega));obtain ⟨ua189_3,uc189_3,rfl,ul189_3,ge189_3⟩:=k29_openF hMe189;have hv189_3:=hcc189 3 _ rfl;rw [add_field _ _ 3 (by omega)] at hv189_3;replace hv189_3:=Option.some.inj (hv189_3.symm.trans hx189_3);injection hv189_3 with hva_ hvn_ hvc_;rw [hva_] at ge189_3;rw [hvc_] at ul189_3;have HL189_3:=Aside0.mk (show Kd.V k29 29 _ w.heap.size _ _ ((rd_T29 l0 x186002_1).f3) from Kd.V_mk ul189_3 ge189_3);clear hva_ hvn_ hvc_ ge189_3 ul189_3;clear hcc189 hce189;have HR189_3:=Aside0.mk hi189_3;have HC189_3:=Aside0.mk hl189_3;clear hi189_3 hl189_3;replace p189:=eq_true p189;replace q189:=eq_true q189;have ea_:=Option.some.inj (hx188_3.symm.trans hx189_3);injection ea_ with ea_ en_ ec_;subst ea_;subst ec_;clear en_))
       go_roundg k1
       case measure => have:=HK1.out;omega
       case rel => exact ⟨(wrap64 (x5_1 + 1)),((rd_T29 l0 x186002_1).f0),((rd_T29 l0 x186002_1).f1),((rd_T29 l0 x186002_1).f2),((rd_T29 l0 x186002_1).f3),(.slice A188_3 ((rd_T29 l0 x186002_1).f3).length c188_3),(by first|rfl|(simp;done)|(simp [*];done)),H',⟨by have:=HK1.out;omega⟩,⟨by (with_reducible repeat (first|apply Kd.V_alloc|apply Kd.V_drewN|apply Kd.V_drew));exact Kd.V_mono (Kd.V_far (p:=⟨gb185,3,none⟩) (Kd.V_far (p:=⟨gb185,2,none⟩) (Kd.V_far (p:=⟨gb185,1,none⟩) (Kd.V_far (p:=⟨gb185,0,none⟩) (Kd.V_mono HO_0.out (fun k_ hk => (⟨hk,hk.2.1⟩ : _ ∧ k_ ≠ gb185))) (fun _ hk => hk.2) (.int .i64 ((rd_T29 l0 x186002_1).f0))) (fun _ hk => hk.2) (.string ((rd_T29 l0 x186002_1).f1))) (fun _ hk => hk.2) (.int .i64 ((rd_T29 l0 x186002_1).f2))) (fun _ hk => hk.2) (.slice A188_3 ((rd_T29 l0 x186002_1).f3).length c188_3)) (fun _ hk => ⟨hk.1.1,⟨hk.1.2.1,hk.1.2.2⟩⟩)⟩,⟨by (with_reducible repeat (first|apply Kd.V_alloc|apply Kd.V_drewN|apply Kd.V_drew));exact Kd.V_mono (Kd.V_far (p:=⟨gb185,3,none⟩) (Kd.V_far (p:=⟨gb185,2,none⟩) (Kd.V_far (p:=⟨gb185,1,none⟩) (Kd.V_far (p:=⟨gb185,0,none⟩) (Kd.V_mono HL189_3.out (fun k_ hk => (⟨hk,hk.2.1⟩ : _ ∧ k_ ≠ gb185))) (fun _ hk => hk.2) (.int .i64 ((rd_T29 l0 x186002_1).f0))) (fun _ hk => hk.2) (.string ((rd_T29 l0 x186002_1).f1))) (fun _ hk => hk.2) (.int .i64 ((rd_T29 l0 x186002_1).f2))) (fun _ hk => hk.2) (.slice A188_3 ((rd_T29 l0 x186002_1).f3).length c188_3)) (fun _ hk => ⟨hk.1.1,⟨hk.1.2.1,hk.1.2.2⟩⟩)⟩,⟨by (with_reducible repeat (first|refine blk_drewN ?_ _|refine blk_drew ?_|refine blk_alloc ?_ _));refine blk_put (cs:=#[.int .i64 ((rd_T29 l0 x186002_1).f0),.string ((rd_T29 l0 x186002_1).f1),.int .i64 ((rd_T29 l0 x186002_1).f2),u186003]) ?_ 3 _ rfl;(with_reducible repeat (first|refine blk_drewN ?_ _|refine blk_drew ?_|refine blk_alloc ?_ _));refine blk_put (cs:=#[.int .i64 ((rd_T29 l0 x186002_1).f0),.string ((rd_T29 l0 x186002_1).f1),.int .i64 x186002_1,u186003]) ?_ 2 _ rfl;(with_reducible repeat (first|refine blk_drewN ?_ _|refine blk_drew ?_|refine blk_alloc ?_ _));refine blk_put (cs:=#[.int .i64 ((rd_T29 l0 x186002_1).f0),.string x186001_1,.int .i64 x186002_1,u186003]) ?_ 1 _ rfl;(with_reducible repeat (first|refine blk_drewN ?_ _|refine blk_drew ?_|refine blk_alloc ?_ _));refine blk_put (cs:=#[.int .i64 x186000_1,.string x186001_1,.int .i64 x186002_1,u186003]) ?_ 0 _ rfl;(with_reducible repeat (first|refine blk_drewN ?_ _|refine blk_drew ?_|refine blk_alloc ?_ _));exact BK185.out⟩,⟨by (with_reducible repeat (first|refine blk_drewN ?_ _|refine blk_drew ?_|refine blk_alloc ?_ _));refine blk_far ?_ NB186_185.out _;(with_reducible repeat (first|refine blk_drewN ?_ _|refine blk_drew ?_|refine blk_alloc ?_ _));refine blk_far ?_ NB186_185.out _;(with_reducible repeat (first|refine blk_drewN ?_ _|refine blk_drew ?_|refine blk_alloc ?_ _));refine blk_far ?_ NB186_185.out _;(with_reducible repeat (first|refine blk_drewN ?_ _|refine blk_drew ?_|refine blk_alloc ?_ _));refine blk_far ?_ NB186_185.out _;(with_reducible repeat (first|refine blk_drewN ?_ _|refine blk_drew ?_|refine blk_alloc ?_ _));exact BK186.out⟩,⟨by repeat (first|(with_reducible first|exact HB.out|apply below_alloc|apply pw_below_drewN|apply below_drew1|refine below_set ?_ GE185.out|refine below_set ?_ GE186.out)|exact HB.out)⟩⟩
     ·replace c8:=Bool.eq_false_iff.mpr c8
      subst c8
      have H1 : (some (x186000_1,x186001_1,x186002_1,x186003_1)) = some (r1,r2,r3,r4):=by rw [if_neg (show ¬ (false = true) by decide)] at H;exact H
      clear H
      have H:=H1
      clear H1
      simp only [Option.some.injEq,Prod.mk.injEq] at H
      obtain ⟨rfl,rfl,rfl,rfl⟩:=H
      have hnb18:=NB185_186.out
      have hnc18:=NB186_185.out
      have hcz19_0 : wr.cell? ⟨gb185,0,none⟩ = some (.int .i64 x186000_1):=(blk_cell BK185.out 0).trans rfl
      have hcz19_1 : wr.cell? ⟨gb185,1,none⟩ = some (.string x186001_1):=(blk_cell BK185.out 1).trans rfl
      have hcz19_2 : wr.cell? ⟨gb185,2,none⟩ = some (.int .i64 x186002_1):=(blk_cell BK185.out 2).trans rfl
      have hcz19_3 : wr.cell? ⟨gb185,3,none⟩ = some (u186003):=(blk_cell BK185.out 3).trans rfl
      have hfz19_0:=blk_frozen BK185.out 0
      have hfz19_1:=blk_frozen BK185.out 1
      have hfz19_2:=blk_frozen BK185.out 2
      have hfz19_3:=blk_frozen BK185.out 3
      go_wp2_with (first|(go_at_call 71;(with_reducible refine (impl_within.calls x186002_1 0 (wrap64 ((l0.length : Int) - 1)) false _ A7.out).mono ?_);rintro e w' ⟨rfl,⟨nd,rfl⟩⟩;(try (rw [drewN_self wr];generalize hq_ : World.drewN wr _ = wr;have n0_ : Aside0 (Kd.V k29 29 wr w.heap.size (fun k_ => ((P0_ k_ ∨ P1_3_ k_) ∨ w.heap.size ≤ k_) ∧ k_ ≠ gb185 ∧ k_ ≠ gb186) (.slice A0 l0.length c0) l0):=⟨by rw [← hq_];exact (by (with_reducible repeat (first|apply Kd.V_alloc|apply Kd.V_drewN|apply Kd.V_drew));exact HO_0.out)⟩;have n1_ : Aside0 (Kd.V k29 29 wr w.heap.size (fun k_ => ((P0_ k_ ∨ P1_3_ k_) ∨ w.heap.size ≤ k_) ∧ k_ ≠ gb185 ∧ k_ ≠ gb186) u186003 x186003_1):=⟨by rw [← hq_];exact (by (with_reducible repeat (first|apply Kd.V_alloc|apply Kd.V_drewN|apply Kd.V_drew));exact HO_186003.out)⟩;have n2_ : Aside0 (wr.heap[gb185]? = some (.cells #[.int .i64 x186000_1,.string x186001_1,.int .i64 x186002_1,u186003] 29 (0,0))):=⟨by rw [← hq_];exact (by (with_reducible repeat (first|refine blk_drewN ?_ _|refine blk_drew ?_|refine blk_alloc ?_ _));exact BK185.out)⟩;have n3_ : Aside0 (wr.heap[gb186]? = some (.cells #[.int .i64 0,.string (⟨#[]⟩ : ByteArray),.int .i64 0,.slice none 0 0] 29 (0,0))):=⟨by rw [← hq_];exact (by (with_reducible repeat (first|refine blk_drewN ?_ _|refine blk_drew ?_|refine blk_alloc ?_ _));exact BK186.out)⟩;have n4_ : Aside0 (Below w.heap.size w wr):=⟨by rw [← hq_];exact (by repeat (first|(with_reducible first|exact HB.out|apply below_alloc|apply pw_below_drewN|apply below_drew1|refine below_set ?_ GE185.out|refine below_set ?_ GE186.out)|exact HB.out))⟩;clear HO_0 HO_186003 BK185 BK186 HB hq_;have HO_0:=n0_;have HO_186003:=n1_;have BK185:=n2_;have BK186:=n3_;have HB:=n4_;clear n0_ n1_ n2_ n3_ n4_;(try have hyq185_0:=(blk_cell BK185.out 0).trans (rfl : _ = some _));(try have hyf185_0:=blk_frozen BK185.out 0);(try have hyq185_1:=(blk_cell BK185.out 1).trans (rfl : _ = some _));(try have hyf185_1:=blk_frozen BK185.out 1);(try have hyq185_2:=(blk_cell BK185.out 2).trans (rfl : _ = some _));(try have hyf185_2:=blk_frozen BK185.out 2);(try have hyq185_3:=(blk_cell BK185.out 3).trans (rfl : _ = some _));(try have hyf185_3:=blk_frozen BK185.out 3);(try have hyq186_0:=(blk_cell BK186.out 0).trans (rfl : _ = some _));(try have hyf186_0:=blk_frozen BK186.out 0);(try have hyq186_1:=(blk_cell BK186.out 1).trans (rfl : _ = some _));(try have hyf186_1:=blk_frozen BK186.out 1);(try have hyq186_2:=(blk_cell BK186.out 2).trans (rfl : _ = some _));(try have hyf186_2:=blk_frozen BK186.out 2);(try have hyq186_3:=(blk_cell BK186.out 3).trans (rfl : _ = some _));(try have hyf186_3:=blk_frozen BK186.out 3)));have hcz20_0 : wr.cell? ⟨gb186,0,none⟩ = some (.int .i64 0):=(blk_cell BK186.out 0).trans rfl;have hcz20_1 : wr.cell? ⟨gb186,1,none⟩ = some (.string (⟨#[]⟩ : ByteArray)):=(blk_cell BK186.out 1).trans rfl;have hcz20_2 : wr.cell? ⟨gb186,2,none⟩ = some (.int .i64 0):=(blk_cell BK186.out 2).trans rfl;have hcz20_3 : wr.cell? ⟨gb186,3,none⟩ = some (.slice none 0 0):=(blk_cell BK186.out 3).trans rfl;have hfz20_0:=blk_frozen BK186.out 0;have hfz20_1:=blk_frozen BK186.out 1;have hfz20_2:=blk_frozen BK186.out 2;have hfz20_3:=blk_frozen BK186.out 3;obtain ⟨Ao21,co21,eo21⟩:=Kd.V_slice HO_186003.out;subst eo21))
      refine bodyPost_ret (results_cell_row rfl _ _ gb186 29 #[.int .i64 x186000_1,.string x186001_1,.int .i64 x186002_1,.slice Ao21 x186003_1.length co21] (0,0) _ rfl (by (with_reducible repeat (first|refine blk_drewN ?_ _|refine blk_drew ?_|refine blk_alloc ?_ _));refine blk_put (cs:=#[.int .i64 x186000_1,.string x186001_1,.int .i64 x186002_1,.slice none 0 0]) ?_ 3 _ rfl;(with_reducible repeat (first|refine blk_drewN ?_ _|refine blk_drew ?_|refine blk_alloc ?_ _));refine blk_put (cs:=#[.int .i64 x186000_1,.string x186001_1,.int .i64 0,.slice none 0 0]) ?_ 2 _ rfl;(with_reducible repeat (first|refine blk_drewN ?_ _|refine blk_drew ?_|refine blk_alloc ?_ _));refine blk_put (cs:=#[.int .i64 x186000_1,.string (⟨#[]⟩ : ByteArray),.int .i64 0,.slice none 0 0]) ?_ 1 _ rfl;(with_reducible repeat (first|refine blk_drewN ?_ _|refine blk_drew ?_|refine blk_alloc ?_ _));refine blk_put (cs:=#[.int .i64 0,.string (⟨#[]⟩ : ByteArray),.int .i64 0,.slice none 0 0]) ?_ 0 _ rfl;(with_reducible repeat (first|refine blk_drewN ?_ _|refine blk_drew ?_|refine blk_alloc ?_ _));exact BK186.out) Try.underlying29 rfl (by kernel_rfl)) rfl ?_
      exact ⟨_,by first|rfl|(simp [errW_none,errW_some] <;> rfl)|(simp [*,errW_none,errW_some] <;> rfl),by (with_reducible repeat (first|apply Kd.V_alloc|apply Kd.V_drewN|apply Kd.V_drew));exact Kd.V_mono (Kd.V_far (p:=⟨gb186,3,none⟩) (Kd.V_far (p:=⟨gb186,2,none⟩) (Kd.V_far (p:=⟨gb186,1,none⟩) (Kd.V_far (p:=⟨gb186,0,none⟩) (Kd.V_mono HO_186003.out (fun k_ hk => (⟨hk,hk.2.2⟩ : _ ∧ k_ ≠ gb186))) (fun _ hk => hk.2) (.int .i64 x186000_1)) (fun _ hk => hk.2) (.string x186001_1)) (fun _ hk => hk.2) (.int .i64 x186002_1)) (fun _ hk => hk.2) (.slice Ao21 x186003_1.length co21)) (fun _ hk => hk.1.1),by repeat (first|(with_reducible first|exact HB.out|apply below_alloc|apply pw_below_drewN|apply below_drew1|refine below_set ?_ GE185.out|refine below_set ?_ GE186.out)|exact HB.out)⟩
    ·rw [if_neg c6] at H
     have c6b0 : (x186000_1 == 1) = false:=beq_eq_false_iff_ne.mpr c6
     have c6b1 : (x186000_1 != 1) = true:=bne_iff_ne.mpr c6
     simp only [Option.some.injEq,Prod.mk.injEq] at H
     obtain ⟨rfl,rfl,rfl,rfl⟩:=H
     have hnb22:=NB185_186.out
     have hnc22:=NB186_185.out
     have hcz23_0 : wr.cell? ⟨gb185,0,none⟩ = some (.int .i64 x186000_1):=(blk_cell BK185.out 0).trans rfl
     have hcz23_1 : wr.cell? ⟨gb185,1,none⟩ = some (.string x186001_1):=(blk_cell BK185.out 1).trans rfl
     have hcz23_2 : wr.cell? ⟨gb185,2,none⟩ = some (.int .i64 x186002_1):=(blk_cell BK185.out 2).trans rfl
     have hcz23_3 : wr.cell? ⟨gb185,3,none⟩ = some (u186003):=(blk_cell BK185.out 3).trans rfl
     have hfz23_0:=blk_frozen BK185.out 0
     have hfz23_1:=blk_frozen BK185.out 1
     have hfz23_2:=blk_frozen BK185.out 2
     have hfz23_3:=blk_frozen BK185.out 3
     have hcz24_0 : wr.cell? ⟨gb186,0,none⟩ = some (.int .i64 0):=(blk_cell BK186.out 0).trans rfl
     have hcz24_1 : wr.cell? ⟨gb186,1,none⟩ = some (.string (⟨#[]⟩ : ByteArray)):=(blk_cell BK186.out 1).trans rfl
     have hcz24_2 : wr.cell? ⟨gb186,2,none⟩ = some (.int .i64 0):=(blk_cell BK186.out 2).trans rfl
     have hcz24_3 : wr.cell? ⟨gb186,3,none⟩ = some (.slice none 0 0):=(blk_cell BK186.out 3).trans rfl
     have hfz24_0:=blk_frozen BK186.out 0
     have hfz24_1:=blk_frozen BK186.out 1
     have hfz24_2:=blk_frozen BK186.out 2
     have hfz24_3:=blk_frozen BK186.out 3
     obtain ⟨Ao25,co25,eo25⟩:=Kd.V_slice HO_186003.out
     subst eo25
     go_wp2
     refine bodyPost_ret (results_cell_row rfl _ _ gb186 29 #[.int .i64 x186000_1,.string x186001_1,.int .i64 x186002_1,.slice Ao25 x186003_1.length co25] (0,0) _ rfl (by (with_reducible repeat (first|refine blk_drewN ?_ _|refine blk_drew ?_|refine blk_alloc ?_ _));refine blk_put (cs:=#[.int .i64 x186000_1,.string x186001_1,.int .i64 x186002_1,.slice none 0 0]) ?_ 3 _ rfl;(with_reducible repeat (first|refine blk_drewN ?_ _|refine blk_drew ?_|refine blk_alloc ?_ _));refine blk_put (cs:=#[.int .i64 x186000_1,.string x186001_1,.int .i64 0,.slice none 0 0]) ?_ 2 _ rfl;(with_reducible repeat (first|refine blk_drewN ?_ _|refine blk_drew ?_|refine blk_alloc ?_ _));refine blk_put (cs:=#[.int .i64 x186000_1,.string (⟨#[]⟩ : ByteArray),.int .i64 0,.slice none 0 0]) ?_ 1 _ rfl;(with_reducible repeat (first|refine blk_drewN ?_ _|refine blk_drew ?_|refine blk_alloc ?_ _));refine blk_put (cs:=#[.int .i64 0,.string (⟨#[]⟩ : ByteArray),.int .i64 0,.slice none 0 0]) ?_ 0 _ rfl;(with_reducible repeat (first|refine blk_drewN ?_ _|refine blk_drew ?_|refine blk_alloc ?_ _));exact BK186.out) Try.underlying29 rfl (by kernel_rfl)) rfl ?_
     exact ⟨_,by first|rfl|(simp [errW_none,errW_some] <;> rfl)|(simp [*,errW_none,errW_some] <;> rfl),by (with_reducible repeat (first|apply Kd.V_alloc|apply Kd.V_drewN|apply Kd.V_drew));exact Kd.V_mono (Kd.V_far (p:=⟨gb186,3,none⟩) (Kd.V_far (p:=⟨gb186,2,none⟩) (Kd.V_far (p:=⟨gb186,1,none⟩) (Kd.V_far (p:=⟨gb186,0,none⟩) (Kd.V_mono HO_186003.out (fun k_ hk => (⟨hk,hk.2.2⟩ : _ ∧ k_ ≠ gb186))) (fun _ hk => hk.2) (.int .i64 x186000_1)) (fun _ hk => hk.2) (.string x186001_1)) (fun _ hk => hk.2) (.int .i64 x186002_1)) (fun _ hk => hk.2) (.slice Ao25 x186003_1.length co25)) (fun _ hk => hk.1.1),by repeat (first|(with_reducible first|exact HB.out|apply below_alloc|apply pw_below_drewN|apply below_drew1|refine below_set ?_ GE185.out|refine below_set ?_ GE186.out)|exact HB.out)⟩
   ·rw [if_neg c5] at H
    have c5b0 : decide (x5_1 < 5000) = false:=decide_eq_false c5
    clear c5
    simp only [Option.some.injEq,Prod.mk.injEq] at H
    obtain ⟨rfl,rfl,rfl,rfl⟩:=H
    have hnb26:=NB185_186.out
    have hnc26:=NB186_185.out
    have hcz27_0 : wr.cell? ⟨gb185,0,none⟩ = some (.int .i64 x186000_1):=(blk_cell BK185.out 0).trans rfl
    have hcz27_1 : wr.cell? ⟨gb185,1,none⟩ = some (.string x186001_1):=(blk_cell BK185.out 1).trans rfl
    have hcz27_2 : wr.cell? ⟨gb185,2,none⟩ = some (.int .i64 x186002_1):=(blk_cell BK185.out 2).trans rfl
    have hcz27_3 : wr.cell? ⟨gb185,3,none⟩ = some (u186003):=(blk_cell BK185.out 3).trans rfl
    have hfz27_0:=blk_frozen BK185.out 0
    have hfz27_1:=blk_frozen BK185.out 1
    have hfz27_2:=blk_frozen BK185.out 2
    have hfz27_3:=blk_frozen BK185.out 3
    have hcz28_0 : wr.cell? ⟨gb186,0,none⟩ = some (.int .i64 0):=(blk_cell BK186.out 0).trans rfl
    have hcz28_1 : wr.cell? ⟨gb186,1,none⟩ = some (.string (⟨#[]⟩ : ByteArray)):=(blk_cell BK186.out 1).trans rfl
    have hcz28_2 : wr.cell? ⟨gb186,2,none⟩ = some (.int .i64 0):=(blk_cell BK186.out 2).trans rfl
    have hcz28_3 : wr.cell? ⟨gb186,3,none⟩ = some (.slice none 0 0):=(blk_cell BK186.out 3).trans rfl
    have hfz28_0:=blk_frozen BK186.out 0
    have hfz28_1:=blk_frozen BK186.out 1
    have hfz28_2:=blk_frozen BK186.out 2
    have hfz28_3:=blk_frozen BK186.out 3
    obtain ⟨Ao29,co29,eo29⟩:=Kd.V_slice HO_186003.out
    subst eo29
    go_wp2
    refine bodyPost_ret (results_cell_row rfl _ _ gb186 29 #[.int .i64 x186000_1,.string x186001_1,.int .i64 x186002_1,.slice Ao29 x186003_1.length co29] (0,0) _ rfl (by (with_reducible repeat (first|refine blk_drewN ?_ _|refine blk_drew ?_|refine blk_alloc ?_ _));refine blk_put (cs:=#[.int .i64 x186000_1,.string x186001_1,.int .i64 x186002_1,.slice none 0 0]) ?_ 3 _ rfl;(with_reducible repeat (first|refine blk_drewN ?_ _|refine blk_drew ?_|refine blk_alloc ?_ _));refine blk_put (cs:=#[.int .i64 x186000_1,.string x186001_1,.int .i64 0,.slice none 0 0]) ?_ 2 _ rfl;(with_reducible repeat (first|refine blk_drewN ?_ _|refine blk_drew ?_|refine blk_alloc ?_ _));refine blk_put (cs:=#[.int .i64 x186000_1,.string (⟨#[]⟩ : ByteArray),.int .i64 0,.slice none 0 0]) ?_ 1 _ rfl;(with_reducible repeat (first|refine blk_drewN ?_ _|refine blk_drew ?_|refine blk_alloc ?_ _));refine blk_put (cs:=#[.int .i64 0,.string (⟨#[]⟩ : ByteArray),.int .i64 0,.slice none 0 0]) ?_ 0 _ rfl;(with_reducible repeat (first|refine blk_drewN ?_ _|refine blk_drew ?_|refine blk_alloc ?_ _));exact BK186.out) Try.underlying29 rfl (by kernel_rfl)) rfl ?_
    exact ⟨_,by first|rfl|(simp [errW_none,errW_some] <;> rfl)|(simp [*,errW_none,errW_some] <;> rfl),by (with_reducible repeat (first|apply Kd.V_alloc|apply Kd.V_drewN|apply Kd.V_drew));exact Kd.V_mono (Kd.V_far (p:=⟨gb186,3,none⟩) (Kd.V_far (p:=⟨gb186,2,none⟩) (Kd.V_far (p:=⟨gb186,1,none⟩) (Kd.V_far (p:=⟨gb186,0,none⟩) (Kd.V_mono HO_186003.out (fun k_ hk => (⟨hk,hk.2.2⟩ : _ ∧ k_ ≠ gb186))) (fun _ hk => hk.2) (.int .i64 x186000_1)) (fun _ hk => hk.2) (.string x186001_1)) (fun _ hk => hk.2) (.int .i64 x186002_1)) (fun _ hk => hk.2) (.slice Ao29 x186003_1.length co29)) (fun _ hk => hk.1.1),by repeat (first|(with_reducible first|exact HB.out|apply below_alloc|apply pw_below_drewN|apply below_drew1|refine below_set ?_ GE185.out|refine below_set ?_ GE186.out)|exact HB.out)⟩

-- NOT PRINTED: function 121 (impl_fill)

-- NOT PRINTED: function 87 (impl_filled)

-- NOT PRINTED: function 51 (impl_Filled)

-- NOT PRINTED: function 12 (laws_FnExactFilled)

end Go.Proofs.Ytojedbogbodkiaa.KFl
