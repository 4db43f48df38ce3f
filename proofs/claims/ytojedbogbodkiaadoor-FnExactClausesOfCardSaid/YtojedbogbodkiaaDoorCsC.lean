/- Parts of a proof about terms. No condition. -/
import Derived.Test.YtojedbogbodkiaaDoorKCsx5
import Derived.Test.YtojedbogbodkiaaDoorCsB
import Derived.Test.YtojedbogbodkiaaDoorKS
set_option linter.unusedVariables false
set_option linter.unusedSimpArgs false
namespace Go.Proofs.YtojedbogbodkiaaDoor.KCs
open Go.RowKit Go.Proofs.YtojedbogbodkiaaDoorW.PrintWords Go.Proofs.YtojedbogbodkiaaDoorW.PrintLast Go.Proofs.YtojedbogbodkiaaDoorW.PrintMore
/-! #### markClauseS -/
section
set_option linter.unusedSectionVars false
variable [fk_laws_szTerm] [fk_laws_eqTerm] [fk_spec_l34Term] [fk_strconv_Itoa]
set_option maxHeartbeats 16000000 in
set_option maxRecDepth 100000 in
theorem markCs_calls (mt : Int → ByteArray) (kt : Nat) (hmt : ∀ n : Int,0 < n → n ≤ 1000000000 → laws_markText.f kt n = some (mt n)) (xs : List S48) (ih : ∀ x ∈ xs,MarkOf mt x.f0.f3 ∧ MarkOf mt x.f1.f3)
  (A : Option Addr) (c : Nat) (k : Int) (w : World) (base : Nat) (ok : Nat → Prop) (hk : 0 < k) (hk2 : k + (cns59 xs : Int) ≤ 1000000000) (hbs : base ≤ w.heap.size) (hS : Kd.S kD59 48 w base ok (.slice A xs.length c) xs) :
  Calls Tryd.prog 32 #[.slice A xs.length c,.int .i64 k] w fun e w' => e = .returned (.int .i64 (k + (cns59 xs : Int))) ∧ Kd.S kD59 48 w' base ok (.slice A xs.length c) (mks59 mt xs k) ∧ Below base w w' ∧ Kept w w' ok:=by
 have IH:=Aside0.mk ih
 have HS:=Aside0.mk hS
 have HK:=Aside0.mk hk2
 have HLX:=Aside0.mk (cns59_len xs)
 have HMT:=Aside0.mk hmt
 clear hS hk2 ih hmt
 go_enter Tryd.func32,Tryd.ntmps32
 go_wp2
 go_loopg [1,5] xs.length (fun m v1 v5 w' => ∃ i : Nat,v5 = .int .i64 i ∧ v1 = .int .i64 (k + (cns59 (xs.take i) : Int)) ∧ Aside0 (m + i = xs.length) ∧ Aside0 (Kd.S kD59 48 w' base ok (.slice A xs.length c) (mks59 mt (xs.take i) k ++ xs.drop i)) ∧ Aside0 (Below base w w') ∧ Aside0 (Kept w w' ok))
 case atStart => exact ⟨0,rfl,by simp [cns59],⟨by omega⟩,⟨by simpa [mks59] using HS.out⟩,⟨Below.refl _ _⟩,⟨Kept.refl _ _⟩⟩
 case round =>
  clear HS
  obtain ⟨i,rfl,rfl,hi,HA,HB,HK2⟩:=hrel
  by_cases hlt : (i : Int) < (xs.length : Int)
  ·have c3b0 : decide ((i : Int) < (xs.length : Int)) = true:=decide_eq_true hlt
   have hlt' : i < xs.length:=by omega
   have c3b1 : decide (i < xs.length) = true:=decide_eq_true hlt'
   have hlen : (mks59 mt (xs.take i) k ++ xs.drop i).length = xs.length:=by rw [List.length_append,mks59_length,List.length_take,List.length_drop];omega
   obtain ⟨g,hA⟩ : ∃ g,A = some ⟨g,0,none⟩:=by
    obtain ⟨g,cap,e,_⟩:=Kd.S_form HA.out (by rw [hlen];omega)
    injection e with e1
    exact ⟨g,e1⟩
   subst hA
   have hx : (mks59 mt (xs.take i) k ++ xs.drop i).getD i z48 = xs[i]:=by
    rw [List.getD_eq_getElem?_getD,List.getElem?_append_right (by rw [mks59_length,List.length_take];omega),mks59_length,List.length_take,Nat.min_eq_left (by omega),Nat.sub_self,List.drop_eq_getElem_cons hlt']
    rfl
   obtain ⟨oki,ok3,ok7,A3,c3,A7,c7,hms⟩:=mc_new HA.out hlt' HB.out HK2.out (Nat.le_trans hbs HK2.out.1) xs[i] hx
   have hf0:=hms.at_.2 0
   have hx0:=hms.at_.1 0 _ rfl
   simp only [Nat.add_zero] at hf0 hx0
   have HM:=Aside0.mk hms
   have h3_:=(IH.out xs[i] (List.getElem_mem hlt')).1
   have h7_:=(IH.out xs[i] (List.getElem_mem hlt')).2
   unfold MarkOf at h3_ h7_
   have I3:=Aside0.mk h3_
   have I7:=Aside0.mk h7_
   clear h3_ h7_
   have hcn:=cns59_take xs i hlt'
   have hcl:=cns59_take_le xs (i + 1)
   have h29:=cn29_eq xs[i].f0
   have h29':=cn29_eq xs[i].f1
   have hq:=mks59_set mt xs k i hlt'
   unfold cn59 at hcn
   generalize hki : k + (cns59 (xs.take i) : Int) = ki at hq ⊢
   generalize hx_ : xs[i] = x at *
   obtain ⟨kb,hkb⟩ : ∃ kb : Int,kb = ki + 3 * (cn29 x.f0 : Int):=⟨_,rfl⟩
   obtain ⟨kf,hkf⟩ : ∃ kf : Int,kf = kb + 3 * (cn29 x.f1 : Int):=⟨_,rfl⟩
   have hkk:=HK.out
   have hlx:=HLX.out
   have w1 : ∀ z : Int,0 < z → z ≤ 1000000000 → wrap64 z = z:=fun z h1 h2 => t_wrap (by omega) (by omega)
   have HN1:=Aside0.mk (show 0 < ki + 1 ∧ ki + 1 ≤ 1000000000 by omega)
   have HN2:=Aside0.mk (show 0 < kb + 1 ∧ kb + 1 ≤ 1000000000 by omega)
   have HN3:=Aside0.mk (show 0 < kf ∧ kf ≤ 1000000000 by omega)
   have HKB:=Aside0.mk (show ki + 3 + 3 * (cns29 x.f0.f3 : Int) = kb by omega)
   have HKF:=Aside0.mk (show kb + 3 + 3 * (cns29 x.f1.f3 : Int) = kf by omega)
   have HP1:=Aside0.mk (show 0 < ki + 3 by omega)
   have HP2:=Aside0.mk (show 0 < kb + 3 by omega)
   have HB1:=Aside0.mk (show ki + 3 + 3 * (cns29 x.f0.f3 : Int) ≤ 1000000000 by omega)
   have HB2:=Aside0.mk (show kb + 3 + 3 * (cns29 x.f1.f3 : Int) ≤ 1000000000 by omega)
   have HE:=Aside0.mk (show kf + 1 = k + (cns59 (xs.take (i + 1)) : Int) by omega)
   have HQ:=Aside0.mk hq
   have HBK:=Aside0.mk hkb
   have HFK:=Aside0.mk hkf
   have HW:=Aside0.mk (show wrap64 ((i : Int) + 1) = ((i + 1 : Nat) : Int) by rw [t_wrap (by omega) (by omega)];omega)
   have e1:=w1 (ki + 1) (by omega) (by omega)
   have e2:=w1 (ki + 2) (by omega) (by omega)
   have e3:=w1 (ki + 3) (by omega) (by omega)
   have e4:=w1 (kb + 1) (by omega) (by omega)
   have e5:=w1 (kb + 2) (by omega) (by omega)
   have e6:=w1 (kb + 3) (by omega) (by omega)
   have e7:=w1 (kf + 1) (by omega) (by omega)
   have a1 : ki + 1 + 1 = ki + 2:=by omega
   have a2 : ki + 2 + 1 = ki + 3:=by omega
   have a3 : kb + 1 + 1 = kb + 2:=by omega
   have a4 : kb + 2 + 1 = kb + 3:=by omega
   clear hlen hms hx hcn hcl h29 h29' hq hki hkb hkf hkk hlx w1
   go_wp2_with (first
    | ((with_reducible refine gate_store (t := 3) (p := 17) rfl ?_); refine store_event (t := 3) (p := 17) (v := ?vo1) (w1 := wr.setCell ⟨g, i * 9, none⟩ (.int .i64 ki)) ?hg1 ?ho1 ?hn1 ?hr1 ?_; (case ho1 => rfl); (case hg1 => rfl); (case hn1 => rfl); (case hr1 => first | (go_simp; done) | (go_simp; rfl)); intro w1 hw; have HM' := Aside0.mk (HM.out.put 0 (.int .i64 ki) [.int .i64 ki, .string x.f0.f1, .int .i64 x.f0.f2, .slice A3 x.f0.f3.length c3, .int .i64 x.f1.f0, .string x.f1.f1, .int .i64 x.f1.f2, .slice A7 x.f1.f3.length c7, .string x.f2] rfl (by decide) rfl); rw [Nat.add_zero, ← hw] at HM'; clear HM hw; have HM := HM'; clear HM'; clear hx0 hf0)
    | (go_at_call 68; with_reducible refine (laws_markText.calls kt (ki + 1) (mt (ki + 1)) w1 (HMT.out _ HN1.out.1 HN1.out.2)).mono ?_; rintro e w2 ⟨rfl, hb⟩; have HM' := Aside0.mk (HM.out.step hb); clear HM; have HM := HM'; clear HM'; clear hb; have hx1 := HM.out.at_.1 1 _ rfl; have hf1 := HM.out.at_.2 1)
    | ((with_reducible refine gate_store (t := 9) (p := 26) rfl ?_); refine store_event (t := 9) (p := 26) (v := ?vo3) (w1 := w2.setCell ⟨g, i * 9 + 1, none⟩ (.string (mt (ki + 1)))) ?hg3 ?ho3 ?hn3 ?hr3 ?_; (case ho3 => rfl); (case hg3 => rfl); (case hn3 => rfl); (case hr3 => first | (go_simp; done) | (go_simp; rfl)); intro w3 hw; have HM' := Aside0.mk (HM.out.put 1 (.string (mt (ki + 1))) [.int .i64 ki, .string (mt (ki + 1)), .int .i64 x.f0.f2, .slice A3 x.f0.f3.length c3, .int .i64 x.f1.f0, .string x.f1.f1, .int .i64 x.f1.f2, .slice A7 x.f1.f3.length c7, .string x.f2] rfl (by decide) rfl); rw [← hw] at HM'; clear HM hw; have HM := HM'; clear HM'; clear hx1 hf1; have hx2 := HM.out.at_.1 2 _ rfl; have hf2 := HM.out.at_.2 2)
    | ((with_reducible refine gate_store (t := 3) (p := 34) rfl ?_); refine store_event (t := 3) (p := 34) (v := ?vo4) (w1 := w3.setCell ⟨g, i * 9 + 2, none⟩ (.int .i64 (ki + 2))) ?hg4 ?ho4 ?hn4 ?hr4 ?_; (case ho4 => rfl); (case hg4 => rfl); (case hn4 => rfl); (case hr4 => first | (go_simp; done) | (go_simp; rfl)); intro w4 hw; have HM' := Aside0.mk (HM.out.put 2 (.int .i64 (ki + 2)) [.int .i64 ki, .string (mt (ki + 1)), .int .i64 (ki + 2), .slice A3 x.f0.f3.length c3, .int .i64 x.f1.f0, .string x.f1.f1, .int .i64 x.f1.f2, .slice A7 x.f1.f3.length c7, .string x.f2] rfl (by decide) rfl); rw [← hw] at HM'; clear HM hw; have HM := HM'; clear HM'; clear hx2 hf2; have hx3 := HM.out.at_.1 3 _ rfl; have hf3 := HM.out.at_.2 3)
    | (go_at_call 64; with_reducible refine (I3.out A3 c3 (ki + 3) w4 base _ ?s23 ?s33 HM.out.hbs HM.out.h3).mono ?_; (case s23 => exact HP1.out); (case s33 => exact HB1.out); rintro e w5 ⟨he_, hs_, hb_, hk_⟩; have he2_ := he_.trans (congrArg (fun z_ => Ending.returned (Value.int .i64 z_)) HKB.out); clear he_; subst he2_; have HM' := Aside0.mk (HM.out.mark3 hb_ (mks29_length _ _ _) hs_ hk_); clear HM; have HM := HM'; clear HM'; clear hs_ hb_ hk_; clear hx3 hf3; have hx4 := HM.out.at_.1 4 _ rfl; have hf4 := HM.out.at_.2 4)
    | ((with_reducible refine gate_store (t := 3) (p := 50) rfl ?_); refine store_event (t := 3) (p := 50) (v := ?vo6) (w1 := w5.setCell ⟨g, i * 9 + 4, none⟩ (.int .i64 kb)) ?hg6 ?ho6 ?hn6 ?hr6 ?_; (case ho6 => rfl); (case hg6 => rfl); (case hn6 => rfl); (case hr6 => first | (go_simp; done) | (go_simp; rfl)); intro w6 hw; have HM' := Aside0.mk (HM.out.put 4 (.int .i64 kb) [.int .i64 ki, .string (mt (ki + 1)), .int .i64 (ki + 2), .slice A3 x.f0.f3.length c3, .int .i64 kb, .string x.f1.f1, .int .i64 x.f1.f2, .slice A7 x.f1.f3.length c7, .string x.f2] rfl (by decide) rfl); rw [← hw] at HM'; clear HM hw; have HM := HM'; clear HM'; clear hx4 hf4)
    | (go_at_call 68; with_reducible refine (laws_markText.calls kt (kb + 1) (mt (kb + 1)) w6 (HMT.out _ HN2.out.1 HN2.out.2)).mono ?_; rintro e w7 ⟨rfl, hb⟩; have HM' := Aside0.mk (HM.out.step hb); clear HM; have HM := HM'; clear HM'; clear hb; have hx5 := HM.out.at_.1 5 _ rfl; have hf5 := HM.out.at_.2 5)
    | ((with_reducible refine gate_store (t := 9) (p := 59) rfl ?_); refine store_event (t := 9) (p := 59) (v := ?vo8) (w1 := w7.setCell ⟨g, i * 9 + 5, none⟩ (.string (mt (kb + 1)))) ?hg8 ?ho8 ?hn8 ?hr8 ?_; (case ho8 => rfl); (case hg8 => rfl); (case hn8 => rfl); (case hr8 => first | (go_simp; done) | (go_simp; rfl)); intro w8 hw; have HM' := Aside0.mk (HM.out.put 5 (.string (mt (kb + 1))) [.int .i64 ki, .string (mt (ki + 1)), .int .i64 (ki + 2), .slice A3 x.f0.f3.length c3, .int .i64 kb, .string (mt (kb + 1)), .int .i64 x.f1.f2, .slice A7 x.f1.f3.length c7, .string x.f2] rfl (by decide) rfl); rw [← hw] at HM'; clear HM hw; have HM := HM'; clear HM'; clear hx5 hf5; have hx6 := HM.out.at_.1 6 _ rfl; have hf6 := HM.out.at_.2 6)
    | ((with_reducible refine gate_store (t := 3) (p := 67) rfl ?_); refine store_event (t := 3) (p := 67) (v := ?vo9) (w1 := w8.setCell ⟨g, i * 9 + 6, none⟩ (.int .i64 (kb + 2))) ?hg9 ?ho9 ?hn9 ?hr9 ?_; (case ho9 => rfl); (case hg9 => rfl); (case hn9 => rfl); (case hr9 => first | (go_simp; done) | (go_simp; rfl)); intro w9 hw; have HM' := Aside0.mk (HM.out.put 6 (.int .i64 (kb + 2)) [.int .i64 ki, .string (mt (ki + 1)), .int .i64 (ki + 2), .slice A3 x.f0.f3.length c3, .int .i64 kb, .string (mt (kb + 1)), .int .i64 (kb + 2), .slice A7 x.f1.f3.length c7, .string x.f2] rfl (by decide) rfl); rw [← hw] at HM'; clear HM hw; have HM := HM'; clear HM'; clear hx6 hf6; have hx7 := HM.out.at_.1 7 _ rfl; have hf7 := HM.out.at_.2 7)
    | (go_at_call 64; with_reducible refine (I7.out A7 c7 (kb + 3) w9 base _ ?s27 ?s37 HM.out.hbs HM.out.h7).mono ?_; (case s27 => exact HP2.out); (case s37 => exact HB2.out); rintro e w10 ⟨he_, hs_, hb_, hk_⟩; have he2_ := he_.trans (congrArg (fun z_ => Ending.returned (Value.int .i64 z_)) HKF.out); clear he_; subst he2_; have HM' := Aside0.mk (HM.out.mark7 hb_ (mks29_length _ _ _) hs_ hk_); clear HM; have HM := HM'; clear HM'; clear hs_ hb_ hk_; clear hx7 hf7)
    | (go_at_call 68; with_reducible refine (laws_markText.calls kt (kf) (mt kf) w10 (HMT.out _ HN3.out.1 HN3.out.2)).mono ?_; rintro e w11 ⟨rfl, hb⟩; have HM' := Aside0.mk (HM.out.step hb); clear HM; have HM := HM'; clear HM'; clear hb; have hx8 := HM.out.at_.1 8 _ rfl; have hf8 := HM.out.at_.2 8)
    | ((with_reducible refine gate_store (t := 9) (p := 83) rfl ?_); refine store_event (t := 9) (p := 83) (v := ?vo12) (w1 := w11.setCell ⟨g, i * 9 + 8, none⟩ (.string (mt kf))) ?hg12 ?ho12 ?hn12 ?hr12 ?_; (case ho12 => rfl); (case hg12 => rfl); (case hn12 => rfl); (case hr12 => first | (go_simp; done) | (go_simp; rfl)); intro w12 hw; have HM' := Aside0.mk (HM.out.put 8 (.string (mt kf)) [.int .i64 ki, .string (mt (ki + 1)), .int .i64 (ki + 2), .slice A3 x.f0.f3.length c3, .int .i64 kb, .string (mt (kb + 1)), .int .i64 (kb + 2), .slice A7 x.f1.f3.length c7, .string (mt kf)] rfl (by decide) rfl); rw [← hw] at HM'; clear HM hw; have HM := HM'; clear HM'; clear hx8 hf8))
   have hD:=HM.out.done (x:=mk59 mt x ki) (by unfold mk59;rw [mk29_eq]) (by unfold mk59;rw [← HBK.out,mk29_eq,mk29_eq]) (by unfold mk59;rw [mk29_eq,mk29_eq,← HBK.out,← HFK.out,mks29_length,mks29_length])
   rw [HQ.out] at hD
   go_roundg (xs.length - (i + 1))
   case measure => have:=hi.out;omega
   case rel => exact ⟨i + 1,by rw [HW.out],by first|(rw [e7,HE.out])|rw [HE.out],⟨by have:=hi.out;omega⟩,⟨hD⟩,⟨HM.out.below⟩,⟨HM.out.kept⟩⟩
  ·have c3b0 : decide ((i : Int) < (xs.length : Int)) = false:=decide_eq_false hlt
   have c3b1 : decide (i < xs.length) = false:=decide_eq_false (by omega)
   have he : xs.length ≤ i:=by omega
   have hS:=HA.out
   rw [List.take_of_length_le he,List.drop_eq_nil_of_le he,List.append_nil] at hS
   have HZ:=Aside0.mk hS
   have HE:=Aside0.mk (List.take_of_length_le he)
   clear hS he
   go_wp2
   go_ret
   exact ⟨by rw [HE.out];rfl,HZ.out,HB.out,HK2.out⟩
end
/-! #### heldClauseS tells that all is held -/
section
set_option linter.unusedSectionVars false
variable [fk_laws_szTerm] [fk_laws_eqTerm] [fk_spec_l34Term] [fk_strconv_Itoa]
def hc7_T : Bool × List (List Nat × List Nat):=(true,[([],[]),([],[]),([0,1],[0,1]),([2],[2]),([3],[3]),([4],[4]),([],[]),([6],[6]),([5,7],[5,7])])
def hc7_B : List Nat:=[0,0,3,7,15,31,0,64,255]
theorem hc7_tab : rtab .any (opsOf Tryd.f33 7) = hc7_T:=by kernel_rfl
theorem hc7_bits : waitsOk hc7_T.2 hc7_B = true:=by kernel_rfl
def hc19_T : Bool × List (List Nat × List Nat):=(true,[([],[]),([],[]),([0,1],[0,1]),([2],[2]),([3],[3]),([4],[4]),([],[]),([6],[6]),([5,7],[5,7])])
def hc19_B : List Nat:=[0,0,3,7,15,31,0,64,255]
theorem hc19_tab : rtab .any (opsOf Tryd.f33 19) = hc19_T:=by kernel_rfl
theorem hc19_bits : waitsOk hc19_T.2 hc19_B = true:=by kernel_rfl
def hc28_T : Bool × List (List Nat × List Nat):=(true,[([],[]),([],[]),([0,1],[0,1]),([2],[2]),([3],[3]),([],[]),([5],[5]),([4,6],[4,6])])
def hc28_B : List Nat:=[0,0,3,7,15,0,32,127]
theorem hc28_tab : rtab .any (opsOf Tryd.f33 28) = hc28_T:=by kernel_rfl
theorem hc28_bits : waitsOk hc28_T.2 hc28_B = true:=by kernel_rfl
set_option maxHeartbeats 16000000 in
set_option maxRecDepth 100000 in
theorem heldCs_calls (xs : List S48) (ih : ∀ x ∈ xs,HeldOf x.f0.f3 ∧ HeldOf x.f1.f3) (A : Option Addr) (c : Nat) (k : Int) (w : World) (hk : 0 < k) (hk2 : k + (cns59 xs : Int) ≤ 1000000000) (hC : Kd.C k48 w A xs.length (mks59 mtx xs k)) (hc : xs.length ≤ c) :
  Calls Tryd.prog 33 #[.slice A xs.length c,.int .i64 k] w fun e w' => e = .returned (.int .i64 (k + (cns59 xs : Int))) ∧ Below w.heap.size w w':=by
 have IH:=Aside0.mk ih
 have HC:=Aside0.mk hC
 have HK:=Aside0.mk hk2
 have HLX:=Aside0.mk (cns59_len xs)
 have HB:=Aside0.mk (Below.refl w.heap.size w)
 clear hC hc hk2 ih
 go_enter Tryd.func33,Tryd.ntmps33
 go_wp2
 go_loopg [1,5] xs.length (fun m v1 v5 w' => ∃ i : Nat,v5 = .int .i64 i ∧ v1 = .int .i64 (k + (cns59 (xs.take i) : Int)) ∧ Aside0 (m + i = xs.length) ∧ Aside0 (Below w.heap.size w w'))
 case atStart => exact ⟨0,rfl,by simp [cns59],⟨by omega⟩,HB⟩
 case round =>
  clear HB
  obtain ⟨i,rfl,rfl,hi,HB⟩:=hrel
  by_cases hlt : (i : Int) < (xs.length : Int)
  ·have c3b0 : decide ((i : Int) < (xs.length : Int)) = true:=decide_eq_true hlt
   have hlt' : i < xs.length:=by omega
   have c3b1 : decide (i < xs.length) = true:=decide_eq_true hlt'
   obtain ⟨ad,A3,c3,A7,c7,e1,hx0,hx1,hx2,hx3,hx4,hx5,hx6,hx7,hx8,hl3,hi3,hl7,hi7⟩:=at_T48 HC.out (i : Int) (by omega) hlt
   subst e1
   have hrd : rd_T48 (mks59 mtx xs k) (i : Int) = mk59 mtx xs[i] (k + (cns59 (xs.take i) : Int)):=by
    rw [← mks59_get mtx xs k i hlt']
    unfold rd_T48
    simp [List.getD,mks59_length,hlt']
   rw [hrd] at hx0 hx1 hx2 hx3 hx4 hx5 hx6 hx7 hx8 hl3 hi3 hl7 hi7
   simp only [Int.toNat_natCast] at hx0 hx1 hx2 hx3 hx4 hx5 hx6 hx7 hx8
   have h3_:=(IH.out xs[i] (List.getElem_mem hlt')).1
   have h7_:=(IH.out xs[i] (List.getElem_mem hlt')).2
   unfold HeldOf at h3_ h7_
   have hcn:=cns59_take xs i hlt'
   have hcl:=cns59_take_le xs (i + 1)
   have h29:=cn29_eq xs[i].f0
   have h29':=cn29_eq xs[i].f1
   unfold cn59 at hcn
   generalize hki : k + (cns59 (xs.take i) : Int) = ki at *
   generalize hx_ : xs[i] = x at *
   unfold mk59 at hx0 hx1 hx2 hx3 hx4 hx5 hx6 hx7 hx8 hl3 hi3 hl7 hi7
   obtain ⟨kb,hkb⟩ : ∃ kb : Int,kb = ki + 3 * (cn29 x.f0 : Int):=⟨_,rfl⟩
   obtain ⟨kf,hkf⟩ : ∃ kf : Int,kf = kb + 3 * (cn29 x.f1 : Int):=⟨_,rfl⟩
   rw [← hkb,mk29_eq,mk29_eq] at hx0 hx1 hx2 hx3 hx4 hx5 hx6 hx7 hx8 hl3 hi3 hl7 hi7
   rw [← hkf] at hx8
   have hkk:=HK.out
   have hlx:=HLX.out
   obtain ⟨kh3,hh3⟩:=Ev.rounds (h3_ (ki + 3) (by omega) (by omega))
   obtain ⟨kh7,hh7⟩:=Ev.rounds (h7_ (kb + 3) (by omega) (by omega))
   rw [show ki + 3 + 3 * (cns29 x.f0.f3 : Int) = kb by omega] at hh3
   rw [show kb + 3 + 3 * (cns29 x.f1.f3 : Int) = kf by omega] at hh7
   obtain ⟨r3,hr3⟩ : ∃ r,r = mks29 mtx x.f0.f3 (ki + 3):=⟨_,rfl⟩
   obtain ⟨r7,hr7⟩ : ∃ r,r = mks29 mtx x.f1.f3 (kb + 3):=⟨_,rfl⟩
   rw [← hr3] at hh3 hx3 hl3 hi3
   rw [← hr7] at hh7 hx7 hl7 hi7
   have HH3:=Aside0.mk hh3
   have HH7:=Aside0.mk hh7
   have HX0:=Aside0.mk hx0
   have HX1:=Aside0.mk hx1
   have HX2:=Aside0.mk hx2
   have HX3:=Aside0.mk hx3
   have HX4:=Aside0.mk hx4
   have HX5:=Aside0.mk hx5
   have HX6:=Aside0.mk hx6
   have HX7:=Aside0.mk hx7
   have HX8:=Aside0.mk hx8
   have HI3:=Aside0.mk hi3
   have HL3:=Aside0.mk hl3
   have HI7:=Aside0.mk hi7
   have HL7:=Aside0.mk hl7
   have HN1:=Aside0.mk (show 0 < ki + 1 ∧ ki + 1 ≤ 1000000000 by omega)
   have HN5:=Aside0.mk (show 0 < kb + 1 ∧ kb + 1 ≤ 1000000000 by omega)
   have HN8:=Aside0.mk (show 0 < kf ∧ kf ≤ 1000000000 by omega)
   have HE:=Aside0.mk (show kf + 1 = k + (cns59 (xs.take (i + 1)) : Int) by omega)
   have HW:=Aside0.mk (show wrap64 ((i : Int) + 1) = ((i + 1 : Nat) : Int) by rw [t_wrap (by omega) (by omega)];omega)
   have w1 : ∀ z : Int,0 < z → z ≤ 1000000000 → wrap64 z = z:=fun z h1 h2 => t_wrap (by omega) (by omega)
   have b1 : decide (kb < 0) = false:=decide_eq_false (by omega)
   have b2 : decide (kf < 0) = false:=decide_eq_false (by omega)
   have b3 : (kb < 0) = False:=eq_false (by omega)
   have b4 : (kf < 0) = False:=eq_false (by omega)
   have e1:=w1 (ki + 1) (by omega) (by omega)
   have e2:=w1 (ki + 2) (by omega) (by omega)
   have e3:=w1 (ki + 3) (by omega) (by omega)
   have e4:=w1 (kb + 1) (by omega) (by omega)
   have e5:=w1 (kb + 2) (by omega) (by omega)
   have e6:=w1 (kb + 3) (by omega) (by omega)
   have e7:=w1 (kf + 1) (by omega) (by omega)
   have a1 : ki + 1 + 1 = ki + 2:=by omega
   have a2 : ki + 2 + 1 = ki + 3:=by omega
   have a3 : kb + 1 + 1 = kb + 2:=by omega
   have a4 : kb + 2 + 1 = kb + 3:=by omega
   clear hx_ hcn hcl h29 h29' hki hkb hkf hkk hlx w1 hh3 hh7 h3_ h7_ hr3 hr7 hi3 hl3 hi7 hl7 hrd hx0 hx1 hx2 hx3 hx4 hx5 hx6 hx7 hx8
   have hx0 : wr.cell? (ad.add (i * 9)) = some (.int .i64 ki):=pw_cell_below HB.out HX0.out
   go_wp2
   have q_:=Aside0.mk (below_drew1 HB.out)
   clear HB
   have HB:=q_
   clear q_
   clear hx0
   refine start_ (n:=9) (S:=fun w' => w'.cell? ⟨(ad.add (i * 9)).block,(ad.add (i * 9)).off + 1,none⟩ = some (.string (mtx (ki + 1)))) (ds:=[]) #[false,false,false,false,false,false,false,false,false] (by kernel_rfl) rfl rfl (pw_cell_below HB.out HX1.out) (fun hHeld => ?_);refine with_tabW hc7_tab hc7_bits (fun HT_ HW_ => ?_)
   generalize wr.drew = w1 at HB hHeld ⊢
   refine pure_ (i:=0) (N:=some 22) (v:=?_) (a':=?_) #[true,false,false,false,false,false,false,false,false] rfl rfl (any_of HT_.out (by kernel_rfl)) (fun _ _ _ h => h) (Or.inl ⟨by rfl,?_⟩) ?_ ?_
   rotate_left
   ·intro w'
    go_simp
    with_reducible rfl
   rotate_left
   ·simp only [Act.put,List.setIfInBounds_toArray,List.set_cons_zero,List.set_cons_succ,i64_w,i32_w]
    rfl
   refine pure_ (i:=1) (N:=some 23) (v:=?_) (a':=?_) #[true,true,false,false,false,false,false,false,false] rfl rfl (any_of HT_.out (by kernel_rfl)) (fun _ _ _ h => h) (Or.inl ⟨by rfl,?_⟩) ?_ ?_
   rotate_left
   ·intro w'
    go_simp
    with_reducible rfl
   rotate_left
   ·simp only [Act.put,List.setIfInBounds_toArray,List.set_cons_zero,List.set_cons_succ,i64_w,i32_w]
    rfl
   refine pure_ (i:=2) (N:=some 24) (v:=?_) (a':=?_) #[true,true,true,false,false,false,false,false,false] rfl rfl (any_of HT_.out (by kernel_rfl)) (fun _ _ _ h => h) (Or.inl ⟨by rfl,?_⟩) ?_ ?_
   rotate_left
   ·intro w'
    go_simp
    with_reducible rfl
   rotate_left
   ·simp only [Act.put,List.setIfInBounds_toArray,List.set_cons_zero,List.set_cons_succ,i64_w,i32_w]
    rfl
   refine pure_ (i:=3) (N:=some 25) (v:=?_) (a':=?_) #[true,true,true,true,false,false,false,false,false] rfl rfl (any_of HT_.out (by kernel_rfl)) (fun _ _ _ h => h) (Or.inl ⟨by rfl,?_⟩) ?_ ?_
   rotate_left
   ·intro w'
    go_simp
    with_reducible rfl
   rotate_left
   ·simp only [Act.put,List.setIfInBounds_toArray,List.set_cons_zero,List.set_cons_succ,i64_w,i32_w]
    rfl
   refine pure_ (i:=4) (N:=some 26) (v:=?_) (a':=?_) #[true,true,true,true,true,false,false,false,false] rfl rfl (any_of HT_.out (by kernel_rfl)) (fun _ _ _ h => h) (Or.inl ⟨by rfl,?_⟩) ?_ ?_
   rotate_left
   ·intro w'
    go_simp
    with_reducible rfl
   rotate_left
   ·simp only [Act.put,List.setIfInBounds_toArray,List.set_cons_zero,List.set_cons_succ,i64_w,i32_w]
    rfl
   refine take_ (i:=5) (N:=some 27) (v:=?_) (a':=?_) #[true,true,true,true,true,true,false,false,false] rfl rfl (take_ofW HT_.out HW_.out (by kernel_rfl)) (fun _ _ _ h => h) (Or.inl ⟨by rfl,?_⟩) hHeld ?_ ?_
   rotate_left
   ·rintro w' s0
    go_simp
    with_reducible rfl
   rotate_left
   ·simp only [Act.put,List.setIfInBounds_toArray,List.set_cons_zero,List.set_cons_succ,i64_w,i32_w]
    rfl
   refine pure_ (i:=6) (N:=some 28) (v:=?_) (a':=?_) #[true,true,true,true,true,true,true,false,false] rfl rfl (any_of HT_.out (by kernel_rfl)) (fun _ _ _ h => h) (Or.inl ⟨by rfl,?_⟩) ?_ ?_
   rotate_left
   ·intro w'
    go_simp
    with_reducible rfl
   rotate_left
   ·simp only [Act.put,List.setIfInBounds_toArray,List.set_cons_zero,List.set_cons_succ,i64_w,i32_w]
    rfl
   refine one_ (i:=7) (N:=some 29) #[true,true,true,true,true,true,true,true,false] rfl rfl (one_of HT_.out (by kernel_rfl)) (by decide) (fun K hK => ?_)
   refine goes_ Tryd.func68 (by kernel_rfl) rfl #[.int .i64 (ki + 1)] (by rfl) rfl rfl (by (try simp only [List.map_toArray,List.map_cons,List.map_nil]);first|done|rfl) ?_
   refine (laws_markText.calls 11 (ki + 1) (mtx (ki + 1)) _ (mtx_ok _ HN1.out.1 HN1.out.2)).mono ?_
   rintro e w2 ⟨rfl,hb⟩
   refine ⟨_,rfl,?_⟩
   have q_:=Aside0.mk (below_step HB.out hb)
   clear HB
   have HB:=q_
   clear q_
   clear hb
   refine hK.out _ _ (pw_cell_below HB.out HX1.out) (fun hHeld => ?_)
   clear hK K
   refine norm_ (a':=?_) ?_ ?_
   rotate_left
   ·show Act.put _ (some 29) _ = _
    simp only [Act.put,List.setIfInBounds_toArray,List.set_cons_zero,List.set_cons_succ,i64_w,i32_w]
    rfl
   refine pure_ (i:=8) (N:=some 30) (v:=?_) (a':=?_) #[true,true,true,true,true,true,true,true,true] rfl rfl (any_of HT_.out (by kernel_rfl)) (fun _ _ _ h => h) (Or.inl ⟨by rfl,?_⟩) ?_ ?_
   rotate_left
   ·intro w'
    go_simp
    with_reducible rfl
   rotate_left
   ·simp only [Act.put,List.setIfInBounds_toArray,List.set_cons_zero,List.set_cons_succ,i64_w,i32_w]
    rfl
   refine done_ (done_of HT_.out (by kernel_rfl)) ?_
   have hx2 : w2.cell? ⟨(ad.add (i * 9)).block,(ad.add (i * 9)).off + 2,none⟩ = some (.int .i64 (ki + 2)):=pw_cell_below HB.out HX2.out
   have hx3 : w2.cell? ⟨(ad.add (i * 9)).block,(ad.add (i * 9)).off + 3,none⟩ = some (.slice A3 r3.length c3):=pw_cell_below HB.out HX3.out
   go_wp2_with (first
    | (go_at_call 69; with_reducible refine (laws_heldTermS.calls kh3 A3 c3 r3 (ki + 3) kb w2 ?s1 ?s2 HH3.out).mono ?_; (case s1 => exact Kd.C_below HI3.out HB.out); (case s2 => exact HL3.out); rintro e w3 ⟨rfl, hb⟩; have q_ := Aside0.mk (below_step HB.out hb); clear HB; have HB := q_; clear q_; clear hb; clear hx2 hx3; have hx4 : w3.cell? ⟨(ad.add (i * 9)).block, (ad.add (i * 9)).off + 4, none⟩ = some (.int .i64 kb) := pw_cell_below HB.out HX4.out))
   have q_:=Aside0.mk (below_drew1 HB.out)
   clear HB
   have HB:=q_
   clear q_
   clear hx4
   refine start_ (n:=9) (S:=fun w' => w'.cell? ⟨(ad.add (i * 9)).block,(ad.add (i * 9)).off + 5,none⟩ = some (.string (mtx (kb + 1)))) (ds:=[]) #[false,false,false,false,false,false,false,false,false] (by kernel_rfl) rfl rfl (pw_cell_below HB.out HX5.out) (fun hHeld => ?_);refine with_tabW hc19_tab hc19_bits (fun HT_ HW_ => ?_)
   generalize w3.drew = w4 at HB hHeld ⊢
   refine pure_ (i:=0) (N:=some 63) (v:=?_) (a':=?_) #[true,false,false,false,false,false,false,false,false] rfl rfl (any_of HT_.out (by kernel_rfl)) (fun _ _ _ h => h) (Or.inl ⟨by rfl,?_⟩) ?_ ?_
   rotate_left
   ·intro w'
    go_simp
    with_reducible rfl
   rotate_left
   ·simp only [Act.put,List.setIfInBounds_toArray,List.set_cons_zero,List.set_cons_succ,i64_w,i32_w]
    rfl
   refine pure_ (i:=1) (N:=some 64) (v:=?_) (a':=?_) #[true,true,false,false,false,false,false,false,false] rfl rfl (any_of HT_.out (by kernel_rfl)) (fun _ _ _ h => h) (Or.inl ⟨by rfl,?_⟩) ?_ ?_
   rotate_left
   ·intro w'
    go_simp
    with_reducible rfl
   rotate_left
   ·simp only [Act.put,List.setIfInBounds_toArray,List.set_cons_zero,List.set_cons_succ,i64_w,i32_w]
    rfl
   refine pure_ (i:=2) (N:=some 65) (v:=?_) (a':=?_) #[true,true,true,false,false,false,false,false,false] rfl rfl (any_of HT_.out (by kernel_rfl)) (fun _ _ _ h => h) (Or.inl ⟨by rfl,?_⟩) ?_ ?_
   rotate_left
   ·intro w'
    go_simp
    with_reducible rfl
   rotate_left
   ·simp only [Act.put,List.setIfInBounds_toArray,List.set_cons_zero,List.set_cons_succ,i64_w,i32_w]
    rfl
   refine pure_ (i:=3) (N:=some 66) (v:=?_) (a':=?_) #[true,true,true,true,false,false,false,false,false] rfl rfl (any_of HT_.out (by kernel_rfl)) (fun _ _ _ h => h) (Or.inl ⟨by rfl,?_⟩) ?_ ?_
   rotate_left
   ·intro w'
    go_simp
    with_reducible rfl
   rotate_left
   ·simp only [Act.put,List.setIfInBounds_toArray,List.set_cons_zero,List.set_cons_succ,i64_w,i32_w]
    rfl
   refine pure_ (i:=4) (N:=some 67) (v:=?_) (a':=?_) #[true,true,true,true,true,false,false,false,false] rfl rfl (any_of HT_.out (by kernel_rfl)) (fun _ _ _ h => h) (Or.inl ⟨by rfl,?_⟩) ?_ ?_
   rotate_left
   ·intro w'
    go_simp
    with_reducible rfl
   rotate_left
   ·simp only [Act.put,List.setIfInBounds_toArray,List.set_cons_zero,List.set_cons_succ,i64_w,i32_w]
    rfl
   refine take_ (i:=5) (N:=some 68) (v:=?_) (a':=?_) #[true,true,true,true,true,true,false,false,false] rfl rfl (take_ofW HT_.out HW_.out (by kernel_rfl)) (fun _ _ _ h => h) (Or.inl ⟨by rfl,?_⟩) hHeld ?_ ?_
   rotate_left
   ·rintro w' s0
    go_simp
    with_reducible rfl
   rotate_left
   ·simp only [Act.put,List.setIfInBounds_toArray,List.set_cons_zero,List.set_cons_succ,i64_w,i32_w]
    rfl
   refine pure_ (i:=6) (N:=some 69) (v:=?_) (a':=?_) #[true,true,true,true,true,true,true,false,false] rfl rfl (any_of HT_.out (by kernel_rfl)) (fun _ _ _ h => h) (Or.inl ⟨by rfl,?_⟩) ?_ ?_
   rotate_left
   ·intro w'
    go_simp
    with_reducible rfl
   rotate_left
   ·simp only [Act.put,List.setIfInBounds_toArray,List.set_cons_zero,List.set_cons_succ,i64_w,i32_w]
    rfl
   refine one_ (i:=7) (N:=some 70) #[true,true,true,true,true,true,true,true,false] rfl rfl (one_of HT_.out (by kernel_rfl)) (by decide) (fun K hK => ?_)
   refine goes_ Tryd.func68 (by kernel_rfl) rfl #[.int .i64 (kb + 1)] (by rfl) rfl rfl (by (try simp only [List.map_toArray,List.map_cons,List.map_nil]);first|done|rfl) ?_
   refine (laws_markText.calls 11 (kb + 1) (mtx (kb + 1)) _ (mtx_ok _ HN5.out.1 HN5.out.2)).mono ?_
   rintro e w5 ⟨rfl,hb⟩
   refine ⟨_,rfl,?_⟩
   have q_:=Aside0.mk (below_step HB.out hb)
   clear HB
   have HB:=q_
   clear q_
   clear hb
   refine hK.out _ _ (pw_cell_below HB.out HX5.out) (fun hHeld => ?_)
   clear hK K
   refine norm_ (a':=?_) ?_ ?_
   rotate_left
   ·show Act.put _ (some 70) _ = _
    simp only [Act.put,List.setIfInBounds_toArray,List.set_cons_zero,List.set_cons_succ,i64_w,i32_w]
    rfl
   refine pure_ (i:=8) (N:=some 71) (v:=?_) (a':=?_) #[true,true,true,true,true,true,true,true,true] rfl rfl (any_of HT_.out (by kernel_rfl)) (fun _ _ _ h => h) (Or.inl ⟨by rfl,?_⟩) ?_ ?_
   rotate_left
   ·intro w'
    go_simp
    with_reducible rfl
   rotate_left
   ·simp only [Act.put,List.setIfInBounds_toArray,List.set_cons_zero,List.set_cons_succ,i64_w,i32_w]
    rfl
   refine done_ (done_of HT_.out (by kernel_rfl)) ?_
   have hx6 : w5.cell? ⟨(ad.add (i * 9)).block,(ad.add (i * 9)).off + 6,none⟩ = some (.int .i64 (kb + 2)):=pw_cell_below HB.out HX6.out
   have hx7 : w5.cell? ⟨(ad.add (i * 9)).block,(ad.add (i * 9)).off + 7,none⟩ = some (.slice A7 r7.length c7):=pw_cell_below HB.out HX7.out
   go_wp2_with (first
    | (go_at_call 69; with_reducible refine (laws_heldTermS.calls kh7 A7 c7 r7 (kb + 3) kf w5 ?s1 ?s2 HH7.out).mono ?_; (case s1 => exact Kd.C_below HI7.out HB.out); (case s2 => exact HL7.out); rintro e w6 ⟨rfl, hb⟩; have q_ := Aside0.mk (below_step HB.out hb); clear HB; have HB := q_; clear q_; clear hb; clear hx6 hx7))
   have q_:=Aside0.mk (below_drew1 HB.out)
   clear HB
   have HB:=q_
   clear q_
   refine start_ (n:=8) (S:=fun w' => w'.cell? ⟨(ad.add (i * 9)).block,(ad.add (i * 9)).off + 8,none⟩ = some (.string (mtx kf))) (ds:=[]) #[false,false,false,false,false,false,false,false] (by kernel_rfl) rfl rfl (pw_cell_below HB.out HX8.out) (fun hHeld => ?_);refine with_tabW hc28_tab hc28_bits (fun HT_ HW_ => ?_)
   generalize w6.drew = w7 at HB hHeld ⊢
   refine pure_ (i:=0) (N:=some 94) (v:=?_) (a':=?_) #[true,false,false,false,false,false,false,false] rfl rfl (any_of HT_.out (by kernel_rfl)) (fun _ _ _ h => h) (Or.inl ⟨by rfl,?_⟩) ?_ ?_
   rotate_left
   ·intro w'
    go_simp
    with_reducible rfl
   rotate_left
   ·simp only [Act.put,List.setIfInBounds_toArray,List.set_cons_zero,List.set_cons_succ,i64_w,i32_w]
    rfl
   refine pure_ (i:=1) (N:=some 95) (v:=?_) (a':=?_) #[true,true,false,false,false,false,false,false] rfl rfl (any_of HT_.out (by kernel_rfl)) (fun _ _ _ h => h) (Or.inl ⟨by rfl,?_⟩) ?_ ?_
   rotate_left
   ·intro w'
    go_simp
    with_reducible rfl
   rotate_left
   ·simp only [Act.put,List.setIfInBounds_toArray,List.set_cons_zero,List.set_cons_succ,i64_w,i32_w]
    rfl
   refine pure_ (i:=2) (N:=some 96) (v:=?_) (a':=?_) #[true,true,true,false,false,false,false,false] rfl rfl (any_of HT_.out (by kernel_rfl)) (fun _ _ _ h => h) (Or.inl ⟨by rfl,?_⟩) ?_ ?_
   rotate_left
   ·intro w'
    go_simp
    with_reducible rfl
   rotate_left
   ·simp only [Act.put,List.setIfInBounds_toArray,List.set_cons_zero,List.set_cons_succ,i64_w,i32_w]
    rfl
   refine pure_ (i:=3) (N:=some 97) (v:=?_) (a':=?_) #[true,true,true,true,false,false,false,false] rfl rfl (any_of HT_.out (by kernel_rfl)) (fun _ _ _ h => h) (Or.inl ⟨by rfl,?_⟩) ?_ ?_
   rotate_left
   ·intro w'
    go_simp
    with_reducible rfl
   rotate_left
   ·simp only [Act.put,List.setIfInBounds_toArray,List.set_cons_zero,List.set_cons_succ,i64_w,i32_w]
    rfl
   refine take_ (i:=4) (N:=some 98) (v:=?_) (a':=?_) #[true,true,true,true,true,false,false,false] rfl rfl (take_ofW HT_.out HW_.out (by kernel_rfl)) (fun _ _ _ h => h) (Or.inl ⟨by rfl,?_⟩) hHeld ?_ ?_
   rotate_left
   ·rintro w' s0
    go_simp
    with_reducible rfl
   rotate_left
   ·simp only [Act.put,List.setIfInBounds_toArray,List.set_cons_zero,List.set_cons_succ,i64_w,i32_w]
    rfl
   refine pure_ (i:=5) (N:=some 99) (v:=?_) (a':=?_) #[true,true,true,true,true,true,false,false] rfl rfl (any_of HT_.out (by kernel_rfl)) (fun _ _ _ h => h) (Or.inl ⟨by rfl,?_⟩) ?_ ?_
   rotate_left
   ·intro w'
    go_simp
    with_reducible rfl
   rotate_left
   ·simp only [Act.put,List.setIfInBounds_toArray,List.set_cons_zero,List.set_cons_succ,i64_w,i32_w]
    rfl
   refine one_ (i:=6) (N:=some 100) #[true,true,true,true,true,true,true,false] rfl rfl (one_of HT_.out (by kernel_rfl)) (by decide) (fun K hK => ?_)
   refine goes_ Tryd.func68 (by kernel_rfl) rfl #[.int .i64 (kf)] (by rfl) rfl rfl (by (try simp only [List.map_toArray,List.map_cons,List.map_nil]);first|done|rfl) ?_
   refine (laws_markText.calls 11 (kf) (mtx (kf)) _ (mtx_ok _ HN8.out.1 HN8.out.2)).mono ?_
   rintro e w8 ⟨rfl,hb⟩
   refine ⟨_,rfl,?_⟩
   have q_:=Aside0.mk (below_step HB.out hb)
   clear HB
   have HB:=q_
   clear q_
   clear hb
   refine hK.out _ _ (pw_cell_below HB.out HX8.out) (fun hHeld => ?_)
   clear hK K
   refine norm_ (a':=?_) ?_ ?_
   rotate_left
   ·show Act.put _ (some 100) _ = _
    simp only [Act.put,List.setIfInBounds_toArray,List.set_cons_zero,List.set_cons_succ,i64_w,i32_w]
    rfl
   refine pure_ (i:=7) (N:=some 101) (v:=?_) (a':=?_) #[true,true,true,true,true,true,true,true] rfl rfl (any_of HT_.out (by kernel_rfl)) (fun _ _ _ h => h) (Or.inl ⟨by rfl,?_⟩) ?_ ?_
   rotate_left
   ·intro w'
    go_simp
    with_reducible rfl
   rotate_left
   ·simp only [Act.put,List.setIfInBounds_toArray,List.set_cons_zero,List.set_cons_succ,i64_w,i32_w]
    rfl
   refine done_ (done_of HT_.out (by kernel_rfl)) ?_
   try go_wp2
   go_roundg (xs.length - (i + 1))
   case measure => have:=hi.out;omega
   case rel => exact ⟨i + 1,by rw [HW.out],by first|(rw [e7,HE.out])|rw [HE.out],⟨by have:=hi.out;omega⟩,HB⟩
  ·have c3b0 : decide ((i : Int) < (xs.length : Int)) = false:=decide_eq_false hlt
   have c3b1 : decide (i < xs.length) = false:=decide_eq_false (by omega)
   have HE:=Aside0.mk (List.take_of_length_le (show xs.length ≤ i by omega))
   go_wp2
   go_ret
   exact ⟨by rw [HE.out];rfl,HB.out⟩
end
/-! #### markDb -/
section
set_option linter.unusedSectionVars false
variable [fk_laws_szTerm] [fk_laws_eqTerm] [fk_spec_l34Term] [fk_strconv_Itoa]
set_option maxHeartbeats 16000000 in
set_option maxRecDepth 100000 in
theorem markDb_calls (mt : Int → ByteArray) (kt : Nat) (hmt : ∀ n : Int,0 < n → n ≤ 1000000000 → laws_markText.f kt n = some (mt n)) (xs : List S48) (os : List ByteArray) (ih : ∀ x ∈ xs,MarkOf mt x.f0.f3 ∧ MarkOf mt x.f1.f3) (k : Int) (hk : 0 < k) (hk2 : k + (cns59 xs : Int) + (os.length : Int) ≤ 1000000000) (w u : World) (ok : Nat → Prop) (A : Option Addr) (c : Nat) (B : Option Addr) (d : Nat)
  (old : Below w.heap.size w u) (lo : ∀ j,ok j → w.heap.size ≤ j) (hA : (adb (.slice A xs.length c) xs (.slice B os.length d) os).M w.heap.size u ok) :
  Calls Tryd.prog 31 #[.agg #[.slice A xs.length c,.slice B os.length d],.int .i64 k] u fun e u' => e = .returned (.int .i64 (k + (cns59 xs : Int) + (os.length : Int))) ∧ (adb (.slice A xs.length c) (mks59 mt xs k) (.slice B os.length d) (mkS mt os (k + (cns59 xs : Int)))).M w.heap.size u' (fun j => ok j ∨ u.heap.size ≤ j) ∧ Below w.heap.size u u' ∧ Kept u u' ok:=by
 have HR:=Aside0.mk (run_fun old lo hA)
 have HMT:=Aside0.mk hmt
 have IH:=Aside0.mk ih
 have HK:=Aside0.mk hk
 have HK1:=Aside0.mk (show k + (cns59 xs : Int) ≤ 1000000000 by omega)
 have HK2:=Aside0.mk (show 0 < k + (cns59 xs : Int) by omega)
 have HK3:=Aside0.mk hk2
 clear old lo hA hmt ih hk hk2
 go_enter Tryd.func31,Tryd.ntmps31
 go_wp2_with (first
  | ((with_reducible refine gate_dst (N := 2) rfl ?_); refine box_event ?hg2 (N := 2) ?hd2 (cs := #[.slice A xs.length c, .slice B os.length d]) (t := 41) ?hr2 ?_; (case hd2 => rfl); (case hg2 => rfl); (case hr2 => first | (go_simp; done) | (go_simp; rfl)); intro ga hg w1 hbox hb; have q_ := Aside0.mk (HR.out.box hg hb hbox); clear HR; have HR := q_; clear q_; clear hg hbox hb; have hc1_ga_0 : w1.cell? ⟨ga, 0, none⟩ = some (.slice A xs.length c) := HR.out.cell 0 rfl 0 rfl; have hc1_ga_1 : w1.cell? ⟨ga, 1, none⟩ = some (.slice B os.length d) := HR.out.cell 0 rfl 1 rfl)
  | (go_at_call 32; have HRp := Aside0.mk (HR.out.part 1 rfl); obtain ⟨oki, hi, hlo, hput⟩ := HRp.out.all 2 rfl; refine (markCs_calls mt kt HMT.out xs IH.out A c k w1 w.heap.size oki HK.out HK1.out HRp.out.ww hi).mono ?_; rintro e w2 ⟨rfl, hs, hb, hk2⟩; have q_ := Aside0.mk (hput _ (As.row kD59 48 (.slice A xs.length c) (mks59 mt xs k)) hb hk2 (Kd.S_mono hs (fun _ h_ => .inl h_))); clear HR; have HR := q_; clear q_; clear hb hs hk2 hi hlo hput HRp oki; clear hc1_ga_0 hc1_ga_1; have hc2_ga_0 : w2.cell? ⟨ga, 0, none⟩ = some (.slice A xs.length c) := HR.out.cell 1 rfl 0 rfl; have hc2_ga_1 : w2.cell? ⟨ga, 1, none⟩ = some (.slice B os.length d) := HR.out.cell 1 rfl 1 rfl)
  | (go_at_call 67; obtain ⟨oki, hi, hlo, hput⟩ := HR.out.all 0 rfl; refine (markS_calls mt kt HMT.out os (k + (cns59 xs : Int)) HK2.out HK3.out B d w2 w.heap.size oki HR.out.ww hi).mono ?_; rintro e w3 ⟨rfl, hs, hb, hk2⟩; have q_ := Aside0.mk (hput _ (As.rrow Kd.string 9 (.slice B os.length d) (mkS mt os (k + (cns59 xs : Int)))) hb hk2 (Kd.R_mono hs (fun _ h_ => .inl h_))); clear HR; have HR := q_; clear q_; clear hb hs hk2 hi hlo hput oki; clear hc2_ga_0 hc2_ga_1))
 go_ret
 exact ⟨rfl,HR.out.two 2 0 rfl rfl (by decide),HR.out.below,HR.out.kept⟩
end
/-! #### the law FnExactClausesOf, step by step, for any callees that tell what they should -/
section
set_option linter.unusedSectionVars false
variable [fk_laws_szTerm] [fk_laws_eqTerm] [fk_spec_l34Term] [fk_strconv_Itoa]
theorem rdC {b : Nat} {W : World} {ok : Nat → Prop} {A : Option Addr} {n c : Nat} {xs : List S48} (h : (As.row kD59 48 (.slice A n c) xs).M b W ok) : n ≤ c ∧ Kd.C k48 W A n xs:=readS59 h
theorem rdVC {b : Nat} {W : World} {ok : Nat → Prop} {A : Option Addr} {n c : Nat} {xs : List S48} (h : (As.vrow k48 48 (.slice A n c) xs).M b W ok) : n ≤ c ∧ Kd.C k48 W A n xs:=by
 obtain ⟨h1,h2,h3⟩:=Kd.V_reads' (e:=48) (base:=0) h
 rw [h1]
 exact ⟨by omega,h3⟩
def lw7_12_T : Bool × List (List Nat × List Nat):=(true,[([],[]),([],[]),([1],[1]),([0,2,2],[0,2]),([3],[3])])
def lw7_12_B : List Nat:=[0,0,2,7,15]
theorem lw7_12_tab : rtab .any (opsOf Tryd.f7 12) = lw7_12_T:=by kernel_rfl
theorem lw7_12_bits : waitsOk lw7_12_T.2 lw7_12_B = true:=by kernel_rfl

set_option maxHeartbeats 32000000 in
set_option maxRecDepth 100000 in
theorem cs_walk (l : List S60) (os : List ByteArray) (pred : ByteArray) (A_Da : Option Addr) (c_Da : Nat) (A_Db : Option Addr) (c_Db : Nat) (left m m2 : Int) (xd xg yd yg : List S48) (yo : List ByteArray) (w : World)
  (hs : pred.size ≤ 1048576)
  (hl1 : 0 ≤ left)
  (hm : 0 ≤ m)
  (hm2 : 0 ≤ m2)
  (hLa : l.length ≤ c_Da)
  (hCa : Kd.C k60 w A_Da l.length l)
  (hLb : os.length ≤ c_Db)
  (hCb : Kd.C Kd.string w A_Db os.length os)
  (c15 : ∀ W A c B d,l.length ≤ c → Kd.C k60 W A l.length l → os.length ≤ d → Kd.C Kd.string W B os.length os → Calls Tryd.prog 15 #[.agg #[.slice A l.length c,.slice B os.length d],.int .i64 1048576] W fun e W' => e = .returned (.int .i64 left) ∧ Below W.heap.size W W')
  (c17 : ∀ W A c B d,l.length ≤ c → Kd.C k60 W A l.length l → os.length ≤ d → Kd.C Kd.string W B os.length os → Calls Tryd.prog 17 #[.agg #[.slice A l.length c,.slice B os.length d]] W fun e W' => ∃ A c B d,e = .returned (.agg #[.slice A xd.length c,.slice B os.length d]) ∧ (adb (.slice A xd.length c) xd (.slice B os.length d) os).M W.heap.size W' (fun k => W.heap.size ≤ k) ∧ Below W.heap.size W W')
  (c28 : ∀ W (ok : Nat → Prop) A c B d,(adb (.slice A xd.length c) xd (.slice B os.length d) os).M w.heap.size W ok → Calls Tryd.prog 28 #[.agg #[.slice A xd.length c,.slice B os.length d],.string pred] W fun e W' => ∃ A c,e = .returned (.slice A xg.length c) ∧ (As.vrow k48 48 (.slice A xg.length c) xg).M w.heap.size W' (fun k => ok k ∨ W.heap.size ≤ k) ∧ Below W.heap.size W W')
  (c29 : ∀ W A c B d,Below w.heap.size w W → xd.length ≤ c → Kd.C k48 W A xd.length xd → os.length ≤ d → Kd.C Kd.string W B os.length os → Calls Tryd.prog 29 #[.agg #[.slice A xd.length c,.slice B os.length d],.string pred] W fun e W' => ∃ A c,e = .returned (.slice A xg.length c) ∧ (As.row kD59 48 (.slice A xg.length c) xg).M W.heap.size W' (fun k => W.heap.size ≤ k) ∧ Below W.heap.size W W')
  (c30 : ∀ W A c B d,xg.length ≤ c → Kd.C k48 W A xg.length xg → xg.length ≤ d → Kd.C k48 W B xg.length xg → Calls Tryd.prog 30 #[.slice A xg.length c,.slice B xg.length d] W fun e W' => e = .returned (.bool true) ∧ Below W.heap.size W W')
  (d19 : ∀ W A c B d A2 c2 B2 d2,xd.length ≤ c → Kd.C k48 W A xd.length xd → os.length ≤ d → Kd.C Kd.string W B os.length os → xd.length ≤ c2 → Kd.C k48 W A2 xd.length xd → os.length ≤ d2 → Kd.C Kd.string W B2 os.length os → Calls Tryd.prog 19 #[.agg #[.slice A xd.length c,.slice B os.length d],.agg #[.slice A2 xd.length c2,.slice B2 os.length d2]] W fun e W' => e = .returned (.bool true) ∧ Below W.heap.size W W')
  (c31 : ∀ W (ok : Nat → Prop) A c B d,Below w.heap.size w W → (∀ k,ok k → w.heap.size ≤ k) → (adb (.slice A xd.length c) xd (.slice B os.length d) os).M w.heap.size W ok → Calls Tryd.prog 31 #[.agg #[.slice A xd.length c,.slice B os.length d],.int .i64 1] W fun e W' => e = .returned (.int .i64 m2) ∧ (adb (.slice A xd.length c) yd (.slice B os.length d) yo).M w.heap.size W' (fun k => ok k ∨ W.heap.size ≤ k) ∧ Below w.heap.size W W' ∧ Kept W W' ok)
  (d32 : ∀ W (ok : Nat → Prop) A c,Below w.heap.size w W → (∀ k,ok k → w.heap.size ≤ k) → (As.row kD59 48 (.slice A xg.length c) xg).M w.heap.size W ok → Calls Tryd.prog 32 #[.slice A xg.length c,.int .i64 1] W fun e W' => e = .returned (.int .i64 m) ∧ (As.row kD59 48 (.slice A xg.length c) yg).M w.heap.size W' (fun k => ok k ∨ W.heap.size ≤ k) ∧ Below w.heap.size W W' ∧ Kept W W' ok)
  (c33 : ∀ W A c,xg.length ≤ c → Kd.C k48 W A xg.length yg → Calls Tryd.prog 33 #[.slice A xg.length c,.int .i64 1] W fun e W' => e = .returned (.int .i64 m) ∧ Below W.heap.size W W') :
  Calls Tryd.prog 7 #[.agg #[.slice A_Da l.length c_Da,.slice A_Db os.length c_Db],.string pred] w fun e w' => e = .returned (.bool true) ∧ Below w.heap.size w w':=by
 have HL_Da:=Aside0.mk hLa
 have HC_Da:=Aside0.mk hCa
 have HL_Db:=Aside0.mk hLb
 have HC_Db:=Aside0.mk hCb
 clear hLa hCa hLb hCb
 have cs0 : decide ((pred.size : Int) > 1048576) = false:=decide_eq_false (by omega)
 have cm0 : decide (m < 0) = false:=decide_eq_false (by omega)
 have cm1 : (m != m) = false:=by simp
 have cm2 : decide (m2 < 0) = false:=decide_eq_false (by omega)
 have cl0 : decide (left < 0) = false:=decide_eq_false (by omega)
 clear hs hm hm2 hl1
 have HR:=Aside0.mk (run_law w)
 go_enter Tryd.func7,Tryd.ntmps7
 go_wp2_with (first
  | ((with_reducible refine gate_dst (N := 2) rfl ?_); refine box_event ?hg2 (N := 2) ?hd2 (cs := #[.slice A_Da l.length c_Da, .slice A_Db os.length c_Db]) (t := 36) ?hr2 ?_; (case hd2 => rfl); (case hg2 => rfl); (case hr2 => first | (go_simp; done) | (go_simp; rfl)); intro g_b2 hg w1 hbox hb; have q_ := Aside0.mk (HR.out.box hg hb hbox); clear HR; have HR := q_; clear q_; clear hg hbox hb; have hc_b2_0 : w1.cell? ⟨g_b2, 0, none⟩ = some (.slice A_Da l.length c_Da) := HR.out.cell 0 rfl 0 rfl; have hc_b2_1 : w1.cell? ⟨g_b2, 1, none⟩ = some (.slice A_Db os.length c_Db) := HR.out.cell 0 rfl 1 rfl)
  | (go_at_call 15; with_reducible refine (c15 w1 _ _ _ _ HL_Da.out (Kd.C_below HC_Da.out HR.out.bel) HL_Db.out (Kd.C_below HC_Db.out HR.out.bel)).mono ?_; rintro e w2 ⟨rfl, hb⟩; have q_ := Aside0.mk (HR.out.step hb); clear HR; have HR := q_; clear q_; clear hb; clear hc_b2_0 hc_b2_1; have hc_b2_0 : w2.cell? ⟨g_b2, 0, none⟩ = some (.slice A_Da l.length c_Da) := HR.out.cell 0 rfl 0 rfl; have hc_b2_1 : w2.cell? ⟨g_b2, 1, none⟩ = some (.slice A_Db os.length c_Db) := HR.out.cell 0 rfl 1 rfl)
  | (go_at_call 17; with_reducible refine (c17 w2 _ _ _ _ HL_Da.out (Kd.C_below HC_Da.out HR.out.bel) HL_Db.out (Kd.C_below HC_Db.out HR.out.bel)).mono ?_; rintro e w3 ⟨A_e0a, c_e0a, A_e0b, c_e0b, rfl, ho, hb⟩; have q_ := Aside0.mk (HR.out.push _ hb ho); clear HR; have HR := q_; clear q_; clear hb ho; clear hc_b2_0 hc_b2_1)
  | (go_at_call 28; obtain ⟨oki, hi, hlo, hput⟩ := HR.out.all 0 rfl; with_reducible refine (c28 w3 oki _ _ _ _ hi).mono ?_; rintro e w4 ⟨A_w0, c_w0, rfl, ho, hb⟩; have q_ := Aside0.mk (hput _ _ (below_le hb HR.out.ww) (Kept.of_below hb _) ho); clear HR; have HR := q_; clear q_; clear hi hlo hput ho hb oki; have hc_b2_0 : w4.cell? ⟨g_b2, 0, none⟩ = some (.slice A_Da l.length c_Da) := HR.out.cell 1 rfl 0 rfl; have hc_b2_1 : w4.cell? ⟨g_b2, 1, none⟩ = some (.slice A_Db os.length c_Db) := HR.out.cell 1 rfl 1 rfl)
  | (go_at_call 17; with_reducible refine (c17 w4 _ _ _ _ HL_Da.out (Kd.C_below HC_Da.out HR.out.bel) HL_Db.out (Kd.C_below HC_Db.out HR.out.bel)).mono ?_; rintro e w5 ⟨A_x0a, c_x0a, A_x0b, c_x0b, rfl, ho, hb⟩; have q_ := Aside0.mk (HR.out.push _ hb ho); clear HR; have HR := q_; clear q_; clear hb ho; clear hc_b2_0 hc_b2_1)
  | ((with_reducible refine gate_dst (N := 7) rfl ?_); refine box_event ?hg7 (N := 7) ?hd7 (cs := #[.slice none 0 0, .slice none 0 0]) (t := 41) ?hr7 ?_; (case hd7 => rfl); (case hg7 => rfl); (case hr7 => first | (go_simp; done) | (go_simp; rfl)); intro g_b7 hg w6 hbox hb; have q_ := Aside0.mk (HR.out.box hg hb hbox); clear HR; have HR := q_; clear q_; clear hg hbox hb; have hz_0 : w6.cell? ⟨g_b7, 0, none⟩ = some (.slice none 0 0) := HR.out.cell 0 rfl 0 rfl; have hf_0 := HR.out.free 0 rfl 0; have hz_1 : w6.cell? ⟨g_b7, 1, none⟩ = some (.slice none 0 0) := HR.out.cell 0 rfl 1 rfl; have hf_1 := HR.out.free 0 rfl 1)
  | ((with_reducible refine gate_store (t := 41) (p := 7) rfl ?_); refine store_event (t := 41) (p := 7) (v := ?vo7) (w1 := w6.setCells g_b7 0 [.slice A_x0a xd.length c_x0a, .slice A_x0b os.length c_x0b]) ?hgs7 ?hos7 ?hns7 ?hrs7 ?_; (case hos7 => rfl); (case hgs7 => rfl); (case hns7 => rfl); (case hrs7 => first | (go_simp; done) | (go_simp; rfl)); intro w7 hw; have q_ := Aside0.mk (hw ▸ HR.out.store 0 rfl [.slice A_x0a xd.length c_x0a, .slice A_x0b os.length c_x0b] rfl); clear HR; have HR := q_; clear q_; clear hw hz_0 hf_0 hz_1 hf_1; have hc_b7_0 : w7.cell? ⟨g_b7, 0, none⟩ = some (.slice A_x0a xd.length c_x0a) := HR.out.cell 0 rfl 0 rfl; have hc_b7_1 : w7.cell? ⟨g_b7, 1, none⟩ = some (.slice A_x0b os.length c_x0b) := HR.out.cell 0 rfl 1 rfl)
  | (go_at_call 29; with_reducible refine (c29 w7 _ _ _ _ HR.out.bel (rdD (HR.out.has 1 rfl)).1 (rdD (HR.out.has 1 rfl)).2 (rdO (HR.out.has 1 rfl)).1 (rdO (HR.out.has 1 rfl)).2).mono ?_; rintro e w8 ⟨A_g0, c_g0, rfl, ho, hb⟩; have q_ := Aside0.mk (HR.out.push _ hb ho); clear HR; have HR := q_; clear q_; clear hb ho; clear hc_b7_0 hc_b7_1)
  | (go_at_call 30; with_reducible refine (c30 w8 _ _ _ _ (rdC (HR.out.has 0 rfl)).1 (rdC (HR.out.has 0 rfl)).2 (rdVC (HR.out.has 3 rfl)).1 (rdVC (HR.out.has 3 rfl)).2).mono ?_; rintro e w9 ⟨rfl, hb⟩; have q_ := Aside0.mk (HR.out.step hb); clear HR; have HR := q_; clear q_; clear hb))
 have q_:=Aside0.mk (HR.out.drew)
 clear HR
 have HR:=q_
 clear q_
 refine start_ (n:=5) (S:=fun w' => w'.cell? ⟨g_b7,0,none⟩ = some (.slice A_x0a xd.length c_x0a) ∧ w'.cell? ⟨g_b7,1,none⟩ = some (.slice A_x0b os.length c_x0b) ∧ w'.cell? ⟨g_b2,0,none⟩ = some (.slice A_Da l.length c_Da) ∧ w'.cell? ⟨g_b2,1,none⟩ = some (.slice A_Db os.length c_Db)) (ds:=[]) #[false,false,false,false,false] (by kernel_rfl) rfl rfl ⟨HR.out.cell 1 rfl 0 rfl,HR.out.cell 1 rfl 1 rfl,HR.out.cell 4 rfl 0 rfl,HR.out.cell 4 rfl 1 rfl⟩ (fun hHeld => ?_);refine with_tabW lw7_12_tab lw7_12_bits (fun HT_ HW_ => ?_)
 generalize w9.drew = w10 at HR hHeld ⊢
 refine take_ (i:=0) (N:=some 34) (v:=?_) (a':=?_) #[true,false,false,false,false] rfl rfl (take_ofW HT_.out HW_.out (by kernel_rfl)) (fun _ _ _ h => h) (Or.inl ⟨by rfl,?_⟩) hHeld ?_ ?_
 rotate_left
 ·rintro w' ⟨s0,s1,s2,s3⟩
  go_simp
  with_reducible rfl
 rotate_left
 ·simp only [Act.put,List.setIfInBounds_toArray,List.set_cons_zero,List.set_cons_succ,i64_w,i32_w]
  rfl
 refine take_ (i:=1) (N:=some 35) (v:=?_) (a':=?_) #[true,true,false,false,false] rfl rfl (take_ofW HT_.out HW_.out (by kernel_rfl)) (fun _ _ _ h => h) (Or.inl ⟨by rfl,?_⟩) hHeld ?_ ?_
 rotate_left
 ·rintro w' ⟨s0,s1,s2,s3⟩
  go_simp
  with_reducible rfl
 rotate_left
 ·simp only [Act.put,List.setIfInBounds_toArray,List.set_cons_zero,List.set_cons_succ,i64_w,i32_w]
  rfl
 refine one_ (i:=2) (N:=some 36) #[true,true,true,false,false] rfl rfl (one_of HT_.out (by kernel_rfl)) (by decide) (fun K hK => ?_)
 refine goes_ Tryd.func17 (by kernel_rfl) rfl #[.agg #[.slice A_Da l.length c_Da,.slice A_Db os.length c_Db]] (by rfl) rfl rfl (by (try simp only [List.map_toArray,List.map_cons,List.map_nil]);first|done|rfl) ?_
 refine (c17 w10 _ _ _ _ HL_Da.out (Kd.C_below HC_Da.out HR.out.bel) HL_Db.out (Kd.C_below HC_Db.out HR.out.bel)).mono ?_
 rintro e w11 ⟨A_e2a,c_e2a,A_e2b,c_e2b,rfl,ho,hb⟩
 refine ⟨_,rfl,?_⟩
 have q_:=Aside0.mk (HR.out.push _ hb ho)
 clear HR
 have HR:=q_
 clear q_
 clear hb ho
 refine hK.out _ _ ⟨HR.out.cell 2 rfl 0 rfl,HR.out.cell 2 rfl 1 rfl,HR.out.cell 5 rfl 0 rfl,HR.out.cell 5 rfl 1 rfl⟩ (fun hHeld => ?_)
 clear hK K
 refine norm_ (a':=?_) ?_ ?_
 rotate_left
 ·show Act.put _ (some 36) _ = _
  simp only [Act.put,List.setIfInBounds_toArray,List.set_cons_zero,List.set_cons_succ,i64_w,i32_w]
  rfl
 refine one_ (i:=3) (N:=some 37) #[true,true,true,true,false] rfl rfl (one_of HT_.out (by kernel_rfl)) (by decide) (fun K hK => ?_)
 refine goes_ Tryd.func19 (by kernel_rfl) rfl #[.agg #[.slice A_x0a xd.length c_x0a,.slice A_x0b os.length c_x0b],.agg #[.slice A_e2a xd.length c_e2a,.slice A_e2b os.length c_e2b]] (by rfl) rfl rfl (by (try simp only [List.map_toArray,List.map_cons,List.map_nil]);first|done|rfl) ?_
 refine (d19 w11 _ _ _ _ _ _ _ _ (rdD (HR.out.has 3 rfl)).1 (rdD (HR.out.has 3 rfl)).2 (rdO (HR.out.has 3 rfl)).1 (rdO (HR.out.has 3 rfl)).2 (rdD (HR.out.has 0 rfl)).1 (rdD (HR.out.has 0 rfl)).2 (rdO (HR.out.has 0 rfl)).1 (rdO (HR.out.has 0 rfl)).2).mono ?_
 rintro e w12 ⟨rfl,hb⟩
 refine ⟨_,rfl,?_⟩
 have q_:=Aside0.mk (HR.out.step hb)
 clear HR
 have HR:=q_
 clear q_
 clear hb
 refine hK.out _ _ ⟨HR.out.cell 2 rfl 0 rfl,HR.out.cell 2 rfl 1 rfl,HR.out.cell 5 rfl 0 rfl,HR.out.cell 5 rfl 1 rfl⟩ (fun hHeld => ?_)
 clear hK K
 refine norm_ (a':=?_) ?_ ?_
 rotate_left
 ·show Act.put _ (some 37) _ = _
  simp only [Act.put,List.setIfInBounds_toArray,List.set_cons_zero,List.set_cons_succ,i64_w,i32_w]
  rfl
 refine pure_ (i:=4) (N:=some 38) (v:=?_) (a':=?_) #[true,true,true,true,true] rfl rfl (any_of HT_.out (by kernel_rfl)) (fun _ _ _ h => h) (Or.inl ⟨by rfl,?_⟩) ?_ ?_
 rotate_left
 ·intro w'
  go_simp
  with_reducible rfl
 rotate_left
 ·simp only [Act.put,List.setIfInBounds_toArray,List.set_cons_zero,List.set_cons_succ,i64_w,i32_w]
  rfl
 refine done_ (done_of HT_.out (by kernel_rfl)) ?_
 have hc_b7_0 : w12.cell? ⟨g_b7,0,none⟩ = some (.slice A_x0a xd.length c_x0a):=HR.out.cell 2 rfl 0 rfl
 have hc_b7_1 : w12.cell? ⟨g_b7,1,none⟩ = some (.slice A_x0b os.length c_x0b):=HR.out.cell 2 rfl 1 rfl
 go_wp2_with (first
  | (go_at_call 31; obtain ⟨oki, hi, hlo, hput⟩ := HR.out.all 3 rfl; with_reducible refine (c31 w12 oki _ _ _ _ HR.out.bel (fun k_ hk_ => (hlo k_ hk_).1) hi).mono ?_; rintro e w13 ⟨rfl, ho, hb, hk⟩; have q_ := Aside0.mk (hput _ _ hb hk ho); clear HR; have HR := q_; clear q_; clear hi hlo hput ho hb hk oki; clear hc_b7_0 hc_b7_1)
  | (go_at_call 30; with_reducible refine (c30 w13 _ _ _ _ (rdC (HR.out.has 1 rfl)).1 (rdC (HR.out.has 1 rfl)).2 (rdVC (HR.out.has 4 rfl)).1 (rdVC (HR.out.has 4 rfl)).2).mono ?_; rintro e w14 ⟨rfl, hb⟩; have q_ := Aside0.mk (HR.out.step hb); clear HR; have HR := q_; clear q_; clear hb)
  | (go_at_call 32; obtain ⟨oki, hi, hlo, hput⟩ := HR.out.all 1 rfl; with_reducible refine (d32 w14 oki _ _ HR.out.bel (fun k_ hk_ => (hlo k_ hk_).1) hi).mono ?_; rintro e w15 ⟨rfl, ho, hb, hk⟩; have q_ := Aside0.mk (hput _ _ hb hk ho); clear HR; have HR := q_; clear q_; clear hi hlo hput ho hb hk oki)
  | (go_at_call 33; with_reducible refine (c33 w15 _ _ (rdC (HR.out.has 1 rfl)).1 (rdC (HR.out.has 1 rfl)).2).mono ?_; rintro e w16 ⟨rfl, hb⟩; have q_ := Aside0.mk (HR.out.step hb); clear HR; have HR := q_; clear q_; clear hb; have hc_b2_0 : w16.cell? ⟨g_b2, 0, none⟩ = some (.slice A_Da l.length c_Da) := HR.out.cell 5 rfl 0 rfl; have hc_b2_1 : w16.cell? ⟨g_b2, 1, none⟩ = some (.slice A_Db os.length c_Db) := HR.out.cell 5 rfl 1 rfl)
  | (go_at_call 17; with_reducible refine (c17 w16 _ _ _ _ HL_Da.out (Kd.C_below HC_Da.out HR.out.bel) HL_Db.out (Kd.C_below HC_Db.out HR.out.bel)).mono ?_; rintro e w17 ⟨A_e3a, c_e3a, A_e3b, c_e3b, rfl, ho, hb⟩; have q_ := Aside0.mk (HR.out.push _ hb ho); clear HR; have HR := q_; clear q_; clear hb ho; clear hc_b2_0 hc_b2_1)
  | (go_at_call 29; with_reducible refine (c29 w17 _ _ _ _ HR.out.bel (rdD (HR.out.has 0 rfl)).1 (rdD (HR.out.has 0 rfl)).2 (rdO (HR.out.has 0 rfl)).1 (rdO (HR.out.has 0 rfl)).2).mono ?_; rintro e w18 ⟨A_k0, c_k0, rfl, ho, hb⟩; have q_ := Aside0.mk (HR.out.push _ hb ho); clear HR; have HR := q_; clear q_; clear hb ho)
  | (go_at_call 30; with_reducible refine (c30 w18 _ _ _ _ (rdC (HR.out.has 0 rfl)).1 (rdC (HR.out.has 0 rfl)).2 (rdVC (HR.out.has 6 rfl)).1 (rdVC (HR.out.has 6 rfl)).2).mono ?_; rintro e w19 ⟨rfl, hb⟩; have q_ := Aside0.mk (HR.out.step hb); clear HR; have HR := q_; clear q_; clear hb)
  | (go_at_call 33; with_reducible refine (c33 w19 _ _ (rdC (HR.out.has 3 rfl)).1 (rdC (HR.out.has 3 rfl)).2).mono ?_; rintro e w20 ⟨rfl, hb⟩; have q_ := Aside0.mk (HR.out.step hb); clear HR; have HR := q_; clear q_; clear hb))
 go_ret
 exact ⟨rfl,HR.out.bel⟩
set_option maxHeartbeats 32000000 in
set_option maxRecDepth 100000 in
theorem cs_long (l : List S60) (os : List ByteArray) (pred : ByteArray) (A_Da : Option Addr) (c_Da : Nat) (A_Db : Option Addr) (c_Db : Nat) (w : World)
  (hs : ¬ pred.size ≤ 1048576)
  (hLa : l.length ≤ c_Da)
  (hCa : Kd.C k60 w A_Da l.length l)
  (hLb : os.length ≤ c_Db)
  (hCb : Kd.C Kd.string w A_Db os.length os) :
  Calls Tryd.prog 7 #[.agg #[.slice A_Da l.length c_Da,.slice A_Db os.length c_Db],.string pred] w fun e w' => e = .returned (.bool true) ∧ Below w.heap.size w w':=by
 have HL_Da:=Aside0.mk hLa
 have HC_Da:=Aside0.mk hCa
 have HL_Db:=Aside0.mk hLb
 have HC_Db:=Aside0.mk hCb
 clear hLa hCa hLb hCb
 have cs0 : decide ((pred.size : Int) > 1048576) = true:=decide_eq_true (by omega)
 clear hs
 have HR:=Aside0.mk (run_law w)
 go_enter Tryd.func7,Tryd.ntmps7
 go_wp2_with (first
  | ((with_reducible refine gate_dst (N := 2) rfl ?_); refine box_event ?hg2 (N := 2) ?hd2 (cs := #[.slice A_Da l.length c_Da, .slice A_Db os.length c_Db]) (t := 36) ?hr2 ?_; (case hd2 => rfl); (case hg2 => rfl); (case hr2 => first | (go_simp; done) | (go_simp; rfl)); intro g_b2 hg w1 hbox hb; have q_ := Aside0.mk (HR.out.box hg hb hbox); clear HR; have HR := q_; clear q_; clear hg hbox hb; have hc_b2_0 : w1.cell? ⟨g_b2, 0, none⟩ = some (.slice A_Da l.length c_Da) := HR.out.cell 0 rfl 0 rfl; have hc_b2_1 : w1.cell? ⟨g_b2, 1, none⟩ = some (.slice A_Db os.length c_Db) := HR.out.cell 0 rfl 1 rfl)
  | ((with_reducible refine gate_dst (N := 7) rfl ?_); refine box_event ?hg7 (N := 7) ?hd7 (cs := #[.slice none 0 0, .slice none 0 0]) (t := 41) ?hr7 ?_; (case hd7 => rfl); (case hg7 => rfl); (case hr7 => first | (go_simp; done) | (go_simp; rfl)); intro g_b7 hg w6 hbox hb; have q_ := Aside0.mk (HR.out.box hg hb hbox); clear HR; have HR := q_; clear q_; clear hg hbox hb; have hz_0 : w6.cell? ⟨g_b7, 0, none⟩ = some (.slice none 0 0) := HR.out.cell 0 rfl 0 rfl; have hf_0 := HR.out.free 0 rfl 0; have hz_1 : w6.cell? ⟨g_b7, 1, none⟩ = some (.slice none 0 0) := HR.out.cell 0 rfl 1 rfl; have hf_1 := HR.out.free 0 rfl 1)
  | ((with_reducible refine gate_store (t := 41) (p := 7) rfl ?_); refine store_event (t := 41) (p := 7) (v := ?vo7) (w1 := w6.setCells g_b7 0 [.slice A_x0a xd.length c_x0a, .slice A_x0b os.length c_x0b]) ?hgs7 ?hos7 ?hns7 ?hrs7 ?_; (case hos7 => rfl); (case hgs7 => rfl); (case hns7 => rfl); (case hrs7 => first | (go_simp; done) | (go_simp; rfl)); intro w7 hw; have q_ := Aside0.mk (hw ▸ HR.out.store 0 rfl [.slice A_x0a xd.length c_x0a, .slice A_x0b os.length c_x0b] rfl); clear HR; have HR := q_; clear q_; clear hw hz_0 hf_0 hz_1 hf_1; have hc_b7_0 : w7.cell? ⟨g_b7, 0, none⟩ = some (.slice A_x0a xd.length c_x0a) := HR.out.cell 0 rfl 0 rfl; have hc_b7_1 : w7.cell? ⟨g_b7, 1, none⟩ = some (.slice A_x0b os.length c_x0b) := HR.out.cell 0 rfl 1 rfl))
 go_ret
 exact ⟨rfl,HR.out.bel⟩
set_option maxHeartbeats 32000000 in
set_option maxRecDepth 100000 in
theorem cs_big (l : List S60) (os : List ByteArray) (pred : ByteArray) (A_Da : Option Addr) (c_Da : Nat) (A_Db : Option Addr) (c_Db : Nat) (left : Int) (w : World)
  (hs : pred.size ≤ 1048576)
  (hl1 : left < 0)
  (hLa : l.length ≤ c_Da)
  (hCa : Kd.C k60 w A_Da l.length l)
  (hLb : os.length ≤ c_Db)
  (hCb : Kd.C Kd.string w A_Db os.length os)
  (c15 : ∀ W A c B d,l.length ≤ c → Kd.C k60 W A l.length l → os.length ≤ d → Kd.C Kd.string W B os.length os → Calls Tryd.prog 15 #[.agg #[.slice A l.length c,.slice B os.length d],.int .i64 1048576] W fun e W' => e = .returned (.int .i64 left) ∧ Below W.heap.size W W') :
  Calls Tryd.prog 7 #[.agg #[.slice A_Da l.length c_Da,.slice A_Db os.length c_Db],.string pred] w fun e w' => e = .returned (.bool true) ∧ Below w.heap.size w w':=by
 have HL_Da:=Aside0.mk hLa
 have HC_Da:=Aside0.mk hCa
 have HL_Db:=Aside0.mk hLb
 have HC_Db:=Aside0.mk hCb
 clear hLa hCa hLb hCb
 have cs0 : decide ((pred.size : Int) > 1048576) = false:=decide_eq_false (by omega)
 have cl0 : decide (left < 0) = true:=decide_eq_true hl1
 clear hs hl1
 have HR:=Aside0.mk (run_law w)
 go_enter Tryd.func7,Tryd.ntmps7
 go_wp2_with (first
  | ((with_reducible refine gate_dst (N := 2) rfl ?_); refine box_event ?hg2 (N := 2) ?hd2 (cs := #[.slice A_Da l.length c_Da, .slice A_Db os.length c_Db]) (t := 36) ?hr2 ?_; (case hd2 => rfl); (case hg2 => rfl); (case hr2 => first | (go_simp; done) | (go_simp; rfl)); intro g_b2 hg w1 hbox hb; have q_ := Aside0.mk (HR.out.box hg hb hbox); clear HR; have HR := q_; clear q_; clear hg hbox hb; have hc_b2_0 : w1.cell? ⟨g_b2, 0, none⟩ = some (.slice A_Da l.length c_Da) := HR.out.cell 0 rfl 0 rfl; have hc_b2_1 : w1.cell? ⟨g_b2, 1, none⟩ = some (.slice A_Db os.length c_Db) := HR.out.cell 0 rfl 1 rfl)
  | (go_at_call 15; with_reducible refine (c15 w1 _ _ _ _ HL_Da.out (Kd.C_below HC_Da.out HR.out.bel) HL_Db.out (Kd.C_below HC_Db.out HR.out.bel)).mono ?_; rintro e w2 ⟨rfl, hb⟩; have q_ := Aside0.mk (HR.out.step hb); clear HR; have HR := q_; clear q_; clear hb; clear hc_b2_0 hc_b2_1; have hc_b2_0 : w2.cell? ⟨g_b2, 0, none⟩ = some (.slice A_Da l.length c_Da) := HR.out.cell 0 rfl 0 rfl; have hc_b2_1 : w2.cell? ⟨g_b2, 1, none⟩ = some (.slice A_Db os.length c_Db) := HR.out.cell 0 rfl 1 rfl)
  | ((with_reducible refine gate_dst (N := 7) rfl ?_); refine box_event ?hg7 (N := 7) ?hd7 (cs := #[.slice none 0 0, .slice none 0 0]) (t := 41) ?hr7 ?_; (case hd7 => rfl); (case hg7 => rfl); (case hr7 => first | (go_simp; done) | (go_simp; rfl)); intro g_b7 hg w6 hbox hb; have q_ := Aside0.mk (HR.out.box hg hb hbox); clear HR; have HR := q_; clear q_; clear hg hbox hb; have hz_0 : w6.cell? ⟨g_b7, 0, none⟩ = some (.slice none 0 0) := HR.out.cell 0 rfl 0 rfl; have hf_0 := HR.out.free 0 rfl 0; have hz_1 : w6.cell? ⟨g_b7, 1, none⟩ = some (.slice none 0 0) := HR.out.cell 0 rfl 1 rfl; have hf_1 := HR.out.free 0 rfl 1)
  | ((with_reducible refine gate_store (t := 41) (p := 7) rfl ?_); refine store_event (t := 41) (p := 7) (v := ?vo7) (w1 := w6.setCells g_b7 0 [.slice A_x0a xd.length c_x0a, .slice A_x0b os.length c_x0b]) ?hgs7 ?hos7 ?hns7 ?hrs7 ?_; (case hos7 => rfl); (case hgs7 => rfl); (case hns7 => rfl); (case hrs7 => first | (go_simp; done) | (go_simp; rfl)); intro w7 hw; have q_ := Aside0.mk (hw ▸ HR.out.store 0 rfl [.slice A_x0a xd.length c_x0a, .slice A_x0b os.length c_x0b] rfl); clear HR; have HR := q_; clear q_; clear hw hz_0 hf_0 hz_1 hf_1; have hc_b7_0 : w7.cell? ⟨g_b7, 0, none⟩ = some (.slice A_x0a xd.length c_x0a) := HR.out.cell 0 rfl 0 rfl; have hc_b7_1 : w7.cell? ⟨g_b7, 1, none⟩ = some (.slice A_x0b os.length c_x0b) := HR.out.cell 0 rfl 1 rfl))
 go_ret
 exact ⟨rfl,HR.out.bel⟩
end
/-! #### FnExactClausesOf -/
theorem cns59_wt : ∀ l : List S60,cns59 (l.map toC) ≤ 3 * wtCs l + 7 * l.length
 | [] => by simp [cns59, wtCs]
 | c :: l => by
  have h:=cns59_wt l
  have h1:=cn_wt c.f0
  have h2:=cn_wt c.f1
  rw [List.map_cons,cns59,wtCs,List.length_cons]
  show cn59 (toC c) + _ ≤ _
  have h3 : cn59 (toC c) = 3 * cn29 (to29 c.f0) + 3 * cn29 (to29 c.f1) + 1:=rfl
  have h4 : wtC c = wt24 c.f0 + (wt24 c.f1 + c.f2.size):=rfl
  omega
set_option maxHeartbeats 4000000 in
theorem cs_all (l : List S60) (os : List ByteArray) (A : Option Addr) (c : Nat) (B : Option Addr) (d : Nat) (pred : ByteArray) (w : World)
  (hC : Kd.C k60 w A l.length l) (hl : l.length ≤ c) (hD : Kd.C Kd.string w B os.length os) (hm : os.length ≤ d) (ho : (∀ x ∈ l, ok60 x) ∧ l.length ≤ 9223372036854775807 ∧ os.length ≤ 9223372036854775807 ∧ ∀ x ∈ os, x.size ≤ 9223372036854775807) (_hp : pred.size ≤ 140737488351232) (hT0 : Lib.TabBelow Tryd.prog w.heap.size w "internal/strconv.uint64pow10" .u64 Lib.pow10Tab) :
  Calls Tryd.prog 7 #[.agg #[.slice A l.length c,.slice B os.length d],.string pred] w fun e w' => e = .returned (.bool true) ∧ Below w.heap.size w w':=by
 obtain ⟨ho1,ho2,ho3,ho4⟩:=ho
 obtain ⟨n,hn⟩ : ∃ n,n = htCs l:=⟨_,rfl⟩
 letI:=i_sz n
 letI:=i_eq n
 letI:=i_34 n
 letI:=i_it
 by_cases hs : pred.size ≤ 1048576
 case neg => exact cs_long l os pred A c B d w hs hl hC hm hD
 have hh : ∀ x ∈ l,htC x ≤ n + 1:=fun x hx => by have:=htCs_mem hx;omega
 obtain ⟨k0,hsz⟩:=Ev.rounds (szD_ev n l os ho2 ho3 ho1 ho4 hh)
 have c15 : ∀ W A c B d,l.length ≤ c → Kd.C k60 W A l.length l → os.length ≤ d → Kd.C Kd.string W B os.length os → Calls Tryd.prog 15 #[.agg #[.slice A l.length c,.slice B os.length d],.int .i64 1048576] W fun e W' => e = .returned (.int .i64 (szr (l.length + wtCs l + (os.length + wtS os)) 1048576)) ∧ Below W.heap.size W W' :=
  fun W A c B d h1 h2 h3 h4 => laws_szDb.calls k0 A c l B d os 1048576 _ W h2 h1 h4 h3 hsz
 by_cases hw : ((l.length + wtCs l + (os.length + wtS os) : Nat) : Int) ≤ 1048576
 case neg =>
  refine cs_big l os pred A c B d (szr (l.length + wtCs l + (os.length + wtS os)) 1048576) w hs (by rw [szr_neg hw];decide) hl hC hm hD c15
 have hx : l.length ≤ 1048576:=by omega
 have hxo : os.length ≤ 1048576:=by omega
 have hww : ∀ x ∈ l,wtC x ≤ 1048576:=fun x hx => by have:=wtCs_mem hx;omega
 obtain ⟨xd,hxd⟩ : ∃ xd,xd = l.map toC:=⟨_,rfl⟩
 have hxl : xd.length = l.length:=by rw [hxd,List.length_map]
 have hcs:=cns59_wt l
 rw [← hxd] at hcs
 have hT : ∀ x ∈ xd,hts29 x.f0.f3 ≤ n ∧ hts29 x.f1.f3 ≤ n ∧ cns29 x.f0.f3 ≤ 1048576 ∧ cns29 x.f1.f3 ≤ 1048576 ∧ ht29 x.f0 ≤ n + 1 ∧ ht29 x.f1 ≤ n + 1 ∧ cn29 x.f0 ≤ 1048577 ∧ cn29 x.f1 ≤ 1048577:=by
  intro x hx2
  rw [hxd] at hx2
  obtain ⟨y,hy,rfl⟩:=List.mem_map.1 hx2
  have h1:=hh y hy
  have h2:=hww y hy
  have q1:=cn_wt y.f0
  have q2:=cn_wt y.f1
  have q3:=ht_to y.f0
  have q4:=ht_to y.f1
  have q5:=ht29_eq (to29 y.f0)
  have q6:=ht29_eq (to29 y.f1)
  have q7:=cn29_eq (to29 y.f0)
  have q8:=cn29_eq (to29 y.f1)
  unfold htC at h1
  unfold wtC at h2
  show hts29 (to29 y.f0).f3 ≤ n ∧ hts29 (to29 y.f1).f3 ≤ n ∧ cns29 (to29 y.f0).f3 ≤ 1048576 ∧ cns29 (to29 y.f1).f3 ≤ 1048576 ∧ ht29 (to29 y.f0) ≤ n + 1 ∧ ht29 (to29 y.f1) ≤ n + 1 ∧ cn29 (to29 y.f0) ≤ 1048577 ∧ cn29 (to29 y.f1) ≤ 1048577
  omega
 have hMK : ∀ x ∈ xd,MarkOf mtx x.f0.f3 ∧ MarkOf mtx x.f1.f3:=fun x hx2 => ⟨mark_calls mtx 11 (fun n h0 h1 => mtx_ok n h0 h1) n _ (hT x hx2).1,mark_calls mtx 11 (fun n h0 h1 => mtx_ok n h0 h1) n _ (hT x hx2).2.1⟩
 have hHD : ∀ x ∈ xd,HeldOf x.f0.f3 ∧ HeldOf x.f1.f3:=fun x hx2 => ⟨held_ev n _ (hT x hx2).1 (hT x hx2).2.2.1,held_ev n _ (hT x hx2).2.1 (hT x hx2).2.2.2.1⟩
 have hCP : ∀ x ∈ xd,CpCl x:=fun x hx2 => by
  obtain ⟨t1,t2,t3,t4,t5,t6,_⟩:=hT x hx2
  exact cpCl x (cp_all _ (rn_all (n + 1) _ t5 t3)) (cp_all _ (rn_all (n + 1) _ t6 t4))
 have hF : ∀ x ∈ xd,fineK (n + 1) x:=fun x hx2 => by
  rw [hxd] at hx2
  obtain ⟨y,hy,rfl⟩:=List.mem_map.1 hx2
  exact fineK_to (n + 1) y (hh y hy) (hww y hy)
 obtain ⟨xg,hxg⟩ : ∃ xg,xg = xd.filter (kpB pred):=⟨_,rfl⟩
 have hsub : ∀ x ∈ xg,x ∈ xd:=fun x hx2 => by rw [hxg] at hx2;exact (List.mem_filter.1 hx2).1
 have hgl : xg.length ≤ 1048576:=by rw [hxg];exact Nat.le_trans (List.length_filter_le _ _) (by omega)
 have hgc : cns59 xg ≤ cns59 xd:=by
  rw [hxg]
  clear hxg hsub hgl
  generalize xd = zs
  induction zs with
  | nil => simp
  | cons z zs ih =>
   rw [List.filter_cons,cns59]
   split
   ·rw [cns59];omega
   ·omega
 obtain ⟨k1,hts⟩:=Ev.rounds (toTexts_ev os hxo)
 obtain ⟨k2,hsp⟩:=Ev.rounds (spec_of (n + 1) xd os pred (by omega) hF)
 rw [← hxg] at hsp
 obtain ⟨k4,he2⟩ : ∃ k,laws_eqDb.f k xd os xd os = some true:=by
  have:=Ev.rounds (eqD_ev n l os hx hxo hh hww)
  rw [← hxd] at this
  exact this
 obtain ⟨k3,he1⟩ : ∃ k,laws_eqClauseS.f k xg xg = some true:=by
  obtain ⟨l',hl',hl1⟩ : ∃ l' : List S60,l'.map toC = xg ∧ ∀ y ∈ l',y ∈ l:=by
   refine ⟨l.filter (fun y => kpB pred (toC y)),?_,fun y hy => (List.mem_filter.1 hy).1⟩
   rw [hxg,hxd,List.filter_map]
   rfl
  have h1 : l'.length ≤ 1048576:=by rw [← List.length_map (f:=toC),hl'];exact hgl
  have : Ev (fun k => @laws_eqClauseS.f (i_eq n) k (l'.map toC) (l'.map toC)) true:=by
   unfold laws_eqClauseS.f
   exact Ev.pos rfl (eqCs_l n l' h1 (fun y hy => hh y (hl1 y hy)) (fun y hy => hww y (hl1 y hy)) _ 0 (by omega) rfl)
  have:=Ev.rounds this
  rw [hl'] at this
  exact this
 have hCl : ∀ (A : Option Addr) (c : Nat) (W : World),Kd.C k60 W A l.length l → l.length ≤ c → Calls Tryd.prog 49 #[.slice A l.length c] W fun e W' => ∃ v,e = .returned v ∧ Kd.S kD59 48 W' W.heap.size (fun _ => True) v xd ∧ Below W.heap.size W W':=fun A c W h1 h2 => by
  rw [hxd]
  exact toCs_calls l hx (fun x hx2 => ⟨(toT_all (n + 1)).1 x.f0 (by have:=hh x hx2;unfold htC at this;omega) (by have:=hww x hx2;unfold wtC at this;omega),(toT_all (n + 1)).1 x.f1 (by have:=hh x hx2;unfold htC at this;omega) (by have:=hww x hx2;unfold wtC at this;omega)⟩) A c W h1 h2
 have hlq : szr (l.length + wtCs l + (os.length + wtS os)) 1048576 = 1048576 - ((l.length + wtCs l + (os.length + wtS os) : Nat) : Int):=szr_pos hw
 refine cs_walk l os pred A c B d (szr (l.length + wtCs l + (os.length + wtS os)) 1048576) (1 + (cns59 xg : Int)) (1 + (cns59 xd : Int) + (os.length : Int)) xd xg (mks59 mtx xd 1) (mks59 mtx xg 1) (mkS mtx os (1 + (cns59 xd : Int))) w hs (by rw [hlq];omega) (by omega) (by omega) hl hC hm hD c15 ?_ ?_ ?_ ?_ ?_ ?_ ?_ ?_
 ·exact fun W A c B d h1 h2 h3 h4 => toDb_calls l os xd A c B d W h2 h1 h4 h3 hCl (fun A c W q1 q2 => laws_toStringS.calls k1 A c os os W q1 q2 hts)
 ·intro W ok A c B d hA
  have hf:=as_fst hA
  have hr : os.length ≤ d ∧ Kd.C Kd.string W B os.length os:=rdO hA
  refine (letI:=i_34 (n + 1);spec_ClausesOf.calls k2 ok A c xd B d os pred xg W (Kd.R_V (S_k59 hf)) hr.2 hr.1 hsp).mono ?_
  rintro e W' ⟨v0,rfl,hN,hb⟩
  have hV:=Kd.N_V (base':=0) hN
  obtain ⟨A1,c1,rfl⟩:=Kd.V_slice hV
  exact ⟨A1,c1,rfl,hV,hb⟩
 ·intro W A c B d hB h1 h2 h3 h4
  rw [hxg]
  exact csOf xd os pred (fun x => (pv x.f0).toList) (by omega) (fun x hx2 => ⟨hCP x hx2,1,pv x.f0,impl_pred x.f0 (hF x hx2).1 (hF x hx2).2.1 1,rfl⟩) A c B d W (tab_at hT0 hB) h2 h1
 ·exact fun W A c B d h1 h2 h3 h4 => laws_eqClauseS.calls k3 A c xg B d xg true W h2 h1 h4 h3 he1
 ·exact fun W A c B d A2 c2 B2 d2 h1 h2 h3 h4 g1 g2 g3 g4 => laws_eqDb.calls k4 A c xd B d os A2 c2 xd B2 d2 os true W h2 h1 h4 h3 g2 g1 g4 g3 he2
 ·exact fun W ok A c B d q1 q2 q3 => markDb_calls mtx 11 (fun n h0 h1 => mtx_ok n h0 h1) xd os hMK 1 (by omega) (by omega) w W ok A c B d q1 q2 q3
 ·intro W ok A c q1 q2 q3
  refine (markCs_calls mtx 11 (fun n h0 h1 => mtx_ok n h0 h1) xg (fun x hx2 => hMK x (hsub x hx2)) A c 1 W w.heap.size ok (by omega) (by omega) q1.size q3).mono ?_
  rintro e W' ⟨rfl,ho,hb,hk⟩
  exact ⟨rfl,Kd.S_mono ho (fun _ h_ => .inl h_),hb,hk⟩
 ·exact fun W A c h1 h2 => heldCs_calls xg (fun x hx2 => hHD x (hsub x hx2)) A c 1 W (by omega) (by omega) h2 h1
end Go.Proofs.YtojedbogbodkiaaDoor.KCs
