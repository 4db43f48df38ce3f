/- PredOf of the program and of the reference tell the same text for every term. No condition. -/
import Derived.Test.YtojedbogbodkiaaDoorKKnx6
import Derived.Test.YtojedbogbodkiaaDoorKKnx5
import Derived.Test.YtojedbogbodkiaaDoorKKnx4
import Derived.Test.YtojedbogbodkiaaDoorKKnx3
import Derived.Test.YtojedbogbodkiaaDoorKKnx2
import Derived.Test.YtojedbogbodkiaaDoorKKnx1
import Derived.Test.YtojedbogbodkiaaDoorShelf
import Derived.Deep.Slices
import Derived.Lib.ItoaNum
import Derived.Lib.ItoaLen
import Derived.Lib.AppendIntMem
import Derived.OpenShut
set_option linter.unusedVariables false
set_option linter.unusedSimpArgs false
namespace Go.Proofs.YtojedbogbodkiaaDoor.KKn
open Go.RowKit Go.Proofs.YtojedbogbodkiaaDoorW.PrintWords Go.Proofs.YtojedbogbodkiaaDoorW.PrintLast Go.Proofs.YtojedbogbodkiaaDoorW.PrintMore
/-! #### PredOf -/
/- Decimal of the program and of the reference tell the same figures. No condition. -/
/-! #### strconv.Itoa by the shelf's contract -/
@[reducible] def i_it : fk_strconv_Itoa := ⟨fun _ n => if -9223372036854775808 ≤ n ∧ n ≤ 9223372036854775807 then some ⟨(Lib.itoa n).toArray⟩ else none, fun _ _ => LeO.refl _, fun k n r w hT h => by
  by_cases hn : -9223372036854775808 ≤ n ∧ n ≤ 9223372036854775807
  · rw [if_pos hn] at h
    cases h
    refine (Tryd.strconv_Itoa n hn.1 hn.2 w hT.here).mono ?_
    rintro e w' ⟨rfl, k, os, rfl⟩
    refine ⟨rfl, ?_⟩
    exact Lib.below_grow w.heap.size w (Nat.le_refl _) k os
  · rw [if_neg hn] at h
    cases h⟩
/-! #### impl.Known, with the function that it hands on -/
section
set_option linter.unusedSectionVars false
variable [fk_laws_szTerm] [fk_laws_toTerm] [fk_laws_eqTerm] [fk_spec_l34Term] [fk_strconv_Itoa] [fk_impl_Known]
def kn1_T : Bool × List (List Nat × List Nat) := (true, [([], []), ([0], [0]), ([1], [1]), ([], []), ([2, 3], [2, 3]), ([4, 2, 0, 1, 2, 3, 4], [4])])
def kn1_B : List Nat := [0, 1, 3, 0, 15, 31]
theorem kn1_tab : rtab .any (opsOf Tryd.f53 1) = kn1_T := by kernel_rfl
theorem kn1_bits : waitsOk kn1_T.2 kn1_B = true := by kernel_rfl

set_option maxHeartbeats 8000000 in
set_option maxRecDepth 100000 in
theorem kn1_calls (k : Nat) (x : S48) (A : Option Addr) (c : Nat) (B : Option Addr) (d : Nat) (p : ByteArray) (g : Nat) (t : ByteArray) (w : World) (hT : Lib.TabBelow Tryd.prog w.heap.size w "internal/strconv.uint64pow10" .u64 Lib.pow10Tab) (hp : w.cell? ⟨g, 0, none⟩ = some (.string p)) (hr : Kd.C k29 w A x.f0.f3.length x.f0.f3) (hc : x.f0.f3.length ≤ c) (h : impl_PredOf.f k x.f0.f0 x.f0.f1 x.f0.f2 x.f0.f3 = some t) :
    Calls Tryd.prog 53 #[.agg #[.int .i64 x.f0.f0, .string x.f0.f1, .int .i64 x.f0.f2, .slice A x.f0.f3.length c, .int .i64 x.f1.f0, .string x.f1.f1, .int .i64 x.f1.f2, .slice B x.f1.f3.length d, .string x.f2], .pointer (some ⟨g, 0, none⟩)] w fun e w' => e = .returned (.bool (t.toList == p.toList)) ∧ Below w.heap.size w w' := by
  have HT := Aside0.mk hT
  have HP := Aside0.mk hp
  have HPL := Aside0.mk (World.block_lt_of_cell? w _ hp)
  have HR := Aside0.mk hr
  have HC := Aside0.mk hc
  have HH := Aside0.mk h
  have HB := Aside0.mk (Below.refl w.heap.size w)
  clear hT hp hr hc h
  go_enter Tryd.func53, Tryd.ntmps53
  go_wp2_with (first
    | ((with_reducible refine gate_dst (N := 2) rfl ?_); refine box_event ?hg2 (N := 2) ?hd2 (cs := #[.int .i64 x.f0.f0, .string x.f0.f1, .int .i64 x.f0.f2, .slice A x.f0.f3.length c, .int .i64 x.f1.f0, .string x.f1.f1, .int .i64 x.f1.f2, .slice B x.f1.f3.length d, .string x.f2]) (t := 48) ?hr2 ?_; (case hd2 => rfl); (case hg2 => rfl); (case hr2 => first | (go_simp; done) | (go_simp; rfl)); intro ga hg w1 hbox hb; have HG_ga := Aside0.mk hg; have BK_ga := Aside0.mk hbox; have q_ := Aside0.mk (below_step HB.out hb); have HGE_ga := Aside0.mk (show w.heap.size ≤ ga by have := HB.out.size; omega); clear HB; have HB := q_; clear q_; have HLT_ga := Aside0.mk (blk_lt hbox); clear hg hbox hb))
  have q1_ := Aside0.mk (blk_drew BK_ga.out)
  have q3_ := Aside0.mk (below_drew1 HB.out)
  clear BK_ga HB
  have BK_ga := q1_
  have HB := q3_
  clear q1_ q3_
  refine start_ (n := 6) (S := fun w' => w'.cell? ⟨ga, 0, none⟩ = some (.int .i64 x.f0.f0) ∧ w'.cell? ⟨ga, 1, none⟩ = some (.string x.f0.f1) ∧ w'.cell? ⟨ga, 2, none⟩ = some (.int .i64 x.f0.f2) ∧ w'.cell? ⟨ga, 3, none⟩ = some (.slice A x.f0.f3.length c) ∧ w'.cell? ⟨g, 0, none⟩ = some (.string p)) (ds := []) #[false, false, false, false, false, false] (by kernel_rfl) rfl rfl ⟨(blk_cell BK_ga.out 0).trans rfl, (blk_cell BK_ga.out 1).trans rfl, (blk_cell BK_ga.out 2).trans rfl, (blk_cell BK_ga.out 3).trans rfl, (HB.out.cell HPL.out).trans HP.out⟩ (fun hHeld => ?_); refine with_tabW kn1_tab kn1_bits (fun HT_ HW_ => ?_)
  generalize w1.drew = w2 at BK_ga HB hHeld ⊢
  refine pure_ (i := 0) (N := some 4) (v := ?_) (a' := ?_) #[true, false, false, false, false, false] rfl rfl (any_of HT_.out (by kernel_rfl)) (fun _ _ _ h => h) (Or.inl ⟨by rfl, ?_⟩) ?_ ?_
  rotate_left
  · intro w'
    go_simp
    with_reducible rfl
  rotate_left
  · simp only [Act.put, List.setIfInBounds_toArray, List.set_cons_zero, List.set_cons_succ, i64_w, i32_w]
    rfl
  refine take_ (i := 1) (N := some 5) (v := ?_) (a' := ?_) #[true, true, false, false, false, false] rfl rfl (take_ofW HT_.out HW_.out (by kernel_rfl)) (fun _ _ _ h => h) (Or.inl ⟨by rfl, ?_⟩) hHeld ?_ ?_
  rotate_left
  · rintro w' ⟨s0, s1, s2, s3, s4⟩
    go_simp
    with_reducible rfl
  rotate_left
  · simp only [Act.put, List.setIfInBounds_toArray, List.set_cons_zero, List.set_cons_succ, i64_w, i32_w]
    rfl
  refine take_ (i := 3) (N := some 7) (v := ?_) (a' := ?_) #[true, true, false, true, false, false] rfl rfl (take_ofW HT_.out HW_.out (by kernel_rfl)) (fun _ _ _ h => h) (Or.inl ⟨by rfl, ?_⟩) hHeld ?_ ?_
  rotate_left
  · rintro w' ⟨s0, s1, s2, s3, s4⟩
    go_simp
    with_reducible rfl
  rotate_left
  · simp only [Act.put, List.setIfInBounds_toArray, List.set_cons_zero, List.set_cons_succ, i64_w, i32_w]
    rfl
  refine one_ (i := 2) (N := some 6) #[true, true, true, true, false, false] rfl rfl (one_of HT_.out (by kernel_rfl)) (by decide) (fun K hK => ?_)
  refine goes_ Tryd.func13 (by kernel_rfl) rfl #[.agg #[.int .i64 x.f0.f0, .string x.f0.f1, .int .i64 x.f0.f2, .slice A x.f0.f3.length c]] (by rfl) rfl rfl (by (try simp only [List.map_toArray, List.map_cons, List.map_nil]); first | done | rfl) ?_
  refine (impl_PredOf.calls k _ _ _ A c _ t _ (tab_at HT.out HB.out) (Kd.C_below HR.out HB.out) HC.out HH.out).mono ?_
  rintro e w3 ⟨rfl, hb⟩
  refine ⟨_, rfl, ?_⟩
  have q1_ := Aside0.mk (blk_below BK_ga.out hb)
  have q3_ := Aside0.mk (below_step HB.out hb)
  clear BK_ga HB
  have BK_ga := q1_
  have HB := q3_
  clear q1_ q3_ hb
  refine hK.out _ _ ⟨(blk_cell BK_ga.out 0).trans rfl, (blk_cell BK_ga.out 1).trans rfl, (blk_cell BK_ga.out 2).trans rfl, (blk_cell BK_ga.out 3).trans rfl, (HB.out.cell HPL.out).trans HP.out⟩ (fun hHeld => ?_)
  clear hK K
  refine norm_ (a' := ?_) ?_ ?_
  rotate_left
  · show Act.put _ (some 6) _ = _
    simp only [Act.put, List.setIfInBounds_toArray, List.set_cons_zero, List.set_cons_succ, i64_w, i32_w]
    rfl
  refine pure_ (i := 4) (N := some 8) (v := ?_) (a' := ?_) #[true, true, true, true, true, false] rfl rfl (any_of HT_.out (by kernel_rfl)) (fun _ _ _ h => h) (Or.inl ⟨by rfl, ?_⟩) ?_ ?_
  rotate_left
  · intro w'
    go_simp
    with_reducible rfl
  rotate_left
  · simp only [Act.put, List.setIfInBounds_toArray, List.set_cons_zero, List.set_cons_succ, i64_w, i32_w]
    rfl
  refine pure_ (i := 5) (N := some 3) (v := ?_) (a' := ?_) #[true, true, true, true, true, true] rfl rfl (any_of HT_.out (by kernel_rfl)) (fun _ _ _ h => h) (Or.inl ⟨by rfl, ?_⟩) ?_ ?_
  rotate_left
  · intro w'
    go_simp
    with_reducible rfl
  rotate_left
  · simp only [Act.put, List.setIfInBounds_toArray, List.set_cons_zero, List.set_cons_succ, i64_w, i32_w]
    rfl
  refine done_ (done_of HT_.out (by kernel_rfl)) ?_
  try go_wp2
  go_ret
  exact ⟨rfl, HB.out⟩

def idxS : Nat → List S48 → ByteArray → Int → Option Int
  | 0, _, _, _ => none
  | k + 1, xs, p, i => if i < (xs.length : Int) then ((impl_PredOf.f k (rd_T48 xs i).f0.f0 (rd_T48 xs i).f0.f1 (rd_T48 xs i).f0.f2 (rd_T48 xs i).f0.f3).bind fun t => if (t.toList == p.toList) = true then some i else idxS k xs p (i + 1)) else some (-1)
theorem idxS_mono : ∀ (k : Nat) (xs : List S48) (p : ByteArray) (i : Int), LeO (idxS k xs p i) (idxS (k + 1) xs p i)
  | 0, _, _, _ => LeO.none _
  | k + 1, xs, p, i => by
    rw [idxS, idxS]
    refine LeO.ite ?_ (LeO.refl _)
    refine LeO.bind (impl_PredOf.mono _ _ _ _ k) fun t => ?_
    exact LeO.ite (LeO.refl _) (idxS_mono k xs p (i + 1))
set_option maxHeartbeats 8000000 in
set_option maxRecDepth 100000 in
theorem ixf_calls (k : Nat) (A : Option Addr) (c : Nat) (xs : List S48) (p : ByteArray) (g : Nat) (r : Int) (w : World) (hT : Lib.TabBelow Tryd.prog w.heap.size w "internal/strconv.uint64pow10" .u64 Lib.pow10Tab) (hp : w.cell? ⟨g, 0, none⟩ = some (.string p)) (hx : Kd.C k48 w A xs.length xs) (hxc : xs.length ≤ c) (h : idxS k xs p 0 = some r) :
    Calls Tryd.prog 85 #[.slice A xs.length c, .func (.func 53) #[] #[.pointer (some ⟨g, 0, none⟩)]] w fun e w' => e = .returned (.int .i64 r) ∧ Below w.heap.size w w' := by
  have HT := Aside0.mk hT
  have HP := Aside0.mk hp
  have HPL := Aside0.mk (World.block_lt_of_cell? w _ hp)
  have HX := Aside0.mk hx
  have HXC := Aside0.mk hxc
  have HH := Aside0.mk h
  have hm := hx.2.1
  clear hT hp hx hxc h
  go_enter Tryd.func85, Tryd.ntmps85
  go_wp2
  go_loopg [8] k (fun kq v8 w' => ∃ i : Nat, v8 = .int .i64 i ∧ Aside0 (i ≤ xs.length) ∧ Aside0 (idxS kq xs p i = some r) ∧ Aside0 (Below w.heap.size w w'))
  case atStart => exact ⟨0, rfl, ⟨by omega⟩, HH, ⟨Below.refl _ _⟩⟩
  case round =>
    clear HH
    obtain ⟨i, rfl, hi, HA, HB⟩ := hrel
    cases gk with
    | zero => exact absurd HA.out (by simp [idxS])
    | succ k1 =>
      have H := HA.out
      clear HA
      simp only [idxS] at H
      by_cases hlt : (i : Int) < (xs.length : Int)
      · rw [if_pos hlt] at H
        have c3b0 : decide ((i : Int) < (xs.length : Int)) = true := decide_eq_true hlt
        have c3b1 : decide (i < xs.length) = true := decide_eq_true (by omega)
        obtain ⟨t, hb, H⟩ := Option.bind_eq_some_iff.1 H
        have Hb := Aside0.mk hb
        have H' : Aside0 ((if (t.toList == p.toList) = true then some (i : Int) else idxS k1 xs p ((i : Int) + 1)) = some r) := ⟨H⟩
        clear hb H
        obtain ⟨ad, A3, c3, A7, c7, e1, hx0, hx1, hx2, hx3, hx4, hx5, hx6, hx7, hx8, hl3, hi3, hl7, hi7⟩ := at_T48 HX.out (i : Int) (by omega) hlt
        cases e1
        have HX3 := Aside0.mk (Kd.C_below hi3 HB.out)
        have HXl := Aside0.mk hl3
        clear hi3 hl3 hl7 hi7
        replace hx0 := (HB.out.cell (World.block_lt_of_cell? w _ hx0)).trans hx0
        replace hx1 := (HB.out.cell (World.block_lt_of_cell? w _ hx1)).trans hx1
        replace hx2 := (HB.out.cell (World.block_lt_of_cell? w _ hx2)).trans hx2
        replace hx3 := (HB.out.cell (World.block_lt_of_cell? w _ hx3)).trans hx3
        replace hx4 := (HB.out.cell (World.block_lt_of_cell? w _ hx4)).trans hx4
        replace hx5 := (HB.out.cell (World.block_lt_of_cell? w _ hx5)).trans hx5
        replace hx6 := (HB.out.cell (World.block_lt_of_cell? w _ hx6)).trans hx6
        replace hx7 := (HB.out.cell (World.block_lt_of_cell? w _ hx7)).trans hx7
        replace hx8 := (HB.out.cell (World.block_lt_of_cell? w _ hx8)).trans hx8
        simp only [Int.toNat_natCast] at hx0 hx1 hx2 hx3 hx4 hx5 hx6 hx7 hx8
        have HN := Aside0.mk ((HB.out.cell HPL.out).trans HP.out)
        by_cases hq : (t.toList == p.toList) = true
        · rw [if_pos hq] at H'
          go_wp2_with (go_at_call 53; refine (kn1_calls k1 (rd_T48 xs (i : Int)) _ _ _ _ p g t _ (tab_at HT.out HB.out) HN.out HX3.out HXl.out Hb.out).mono ?_; rw [hq]; rintro e w2 ⟨rfl, hb2⟩)
          obtain rfl := Option.some.inj H'.out
          go_ret
          exact ⟨rfl, below_then HB.out HB.out.size hb2⟩
        · have hq' : (t.toList == p.toList) = false := by simpa using hq
          rw [if_neg hq] at H'
          go_wp2_with (go_at_call 53; refine (kn1_calls k1 (rd_T48 xs (i : Int)) _ _ _ _ p g t _ (tab_at HT.out HB.out) HN.out HX3.out HXl.out Hb.out).mono ?_; rw [hq']; rintro e w2 ⟨rfl, hb2⟩)
          go_roundg k1
          case measure => omega
          case rel => exact ⟨i + 1, by go_num, ⟨by omega⟩, ⟨by have h := H'.out; rw [show ((i + 1 : Nat) : Int) = (i : Int) + 1 by omega]; exact h⟩, ⟨below_then HB.out HB.out.size hb2⟩⟩
      · have c3b0 : decide ((i : Int) < (xs.length : Int)) = false := decide_eq_false hlt
        have c3b1 : decide (i < xs.length) = false := decide_eq_false (by omega)
        rw [if_neg hlt] at H
        obtain rfl := Option.some.inj H
        go_wp2
        go_ret
        exact ⟨rfl, HB.out⟩
set_option maxHeartbeats 8000000 in
set_option maxRecDepth 100000 in
theorem cnf_calls (k : Nat) (A : Option Addr) (c : Nat) (xs : List S48) (p : ByteArray) (g : Nat) (r : Int) (w : World) (hT : Lib.TabBelow Tryd.prog w.heap.size w "internal/strconv.uint64pow10" .u64 Lib.pow10Tab) (hp : w.cell? ⟨g, 0, none⟩ = some (.string p)) (hx : Kd.C k48 w A xs.length xs) (hxc : xs.length ≤ c) (h : idxS k xs p 0 = some r) :
    Calls Tryd.prog 52 #[.slice A xs.length c, .func (.func 53) #[] #[.pointer (some ⟨g, 0, none⟩)]] w fun e w' => e = .returned (.bool (decide (r ≥ 0))) ∧ Below w.heap.size w w' := by
  have HT := Aside0.mk hT
  have HP := Aside0.mk hp
  have HX := Aside0.mk hx
  have HXC := Aside0.mk hxc
  have HH := Aside0.mk h
  clear hT hp hx hxc h
  go_enter Tryd.func52, Tryd.ntmps52
  go_wp2_with (go_at_call 85; refine (ixf_calls k A c xs p g r _ HT.out HP.out HX.out HXC.out HH.out).mono ?_; rintro e w2 ⟨rfl, hb2⟩)
  go_ret
  exact ⟨rfl, hb2⟩

def knownF (k : Nat) (xs : List S48) (op : List ByteArray) (p : ByteArray) : Option Bool :=
  (slices_Contains_string_string.f k op p).bind fun b => if b = true then some true else (idxS k xs p 0).bind fun j => some (decide (j ≥ 0))
theorem knownF_mono (xs : List S48) (op : List ByteArray) (p : ByteArray) (k : Nat) : LeO (knownF k xs op p) (knownF (k + 1) xs op p) := by
  unfold knownF
  exact LeO.bind (slices_Contains_string_string.mono _ _ k) fun b => LeO.ite (LeO.refl _) (LeO.bind (idxS_mono k _ _ _) fun _ => LeO.refl _)
set_option maxHeartbeats 8000000 in
set_option maxRecDepth 100000 in
theorem known_calls (k : Nat) (A : Option Addr) (c : Nat) (xs : List S48) (B : Option Addr) (d : Nat) (op : List ByteArray) (p : ByteArray) (r : Bool) (w : World) (hT : Lib.TabBelow Tryd.prog w.heap.size w "internal/strconv.uint64pow10" .u64 Lib.pow10Tab) (hx : Kd.C k48 w A xs.length xs) (hxc : xs.length ≤ c) (hy : Kd.C Kd.string w B op.length op) (hyc : op.length ≤ d) (h : knownF k xs op p = some r) :
    Calls Tryd.prog 18 #[.agg #[.slice A xs.length c, .slice B op.length d], .string p] w fun e w' => e = .returned (.bool r) ∧ Below w.heap.size w w' := by
  unfold knownF at h
  obtain ⟨b, hb, h⟩ := Option.bind_eq_some_iff.1 h
  have HT := Aside0.mk hT
  have HX := Aside0.mk hx
  have HXC := Aside0.mk hxc
  have HY := Aside0.mk hy
  have HYC := Aside0.mk hyc
  have Hb := Aside0.mk hb
  have HH := Aside0.mk h
  have HB := Aside0.mk (Below.refl w.heap.size w)
  clear hT hx hxc hy hyc hb h
  cases b with
  | true =>
    obtain rfl := Option.some.inj HH.out
    go_enter Tryd.func18, Tryd.ntmps18
    go_wp2_with (first
      | ((with_reducible refine gate_dst (N := 2) rfl ?_); refine box_event ?hg2 (N := 2) ?hd2 (cs := #[.slice A xs.length c, .slice B op.length d]) (t := 41) ?hr2 ?_; (case hd2 => rfl); (case hg2 => rfl); (case hr2 => first | (go_simp; done) | (go_simp; rfl)); intro ga hg w1 hbox hb; have HG_ga := Aside0.mk hg; have BK_ga := Aside0.mk hbox; have q_ := Aside0.mk (below_step HB.out hb); have HGE_ga := Aside0.mk (show w.heap.size ≤ ga by have := HB.out.size; omega); clear HB; have HB := q_; clear q_; have HLT_ga := Aside0.mk (blk_lt hbox); clear hg hbox hb)
      | ((with_reducible refine gate_dst (N := 3) rfl ?_); refine box_event ?hg3 (N := 3) ?hd3 (cs := #[.string p]) (t := 9) ?hr3 ?_; (case hd3 => rfl); (case hg3 => rfl); (case hr3 => first | (go_simp; done) | (go_simp; rfl)); intro gp hg w2 hbox hb; have HG_gp := Aside0.mk hg; have q_ := Aside0.mk (blk_below BK_ga.out hb); clear BK_ga; have BK_ga := q_; clear q_; have BK_gp := Aside0.mk hbox; have q_ := Aside0.mk (below_step HB.out hb); have HGE_gp := Aside0.mk (show w.heap.size ≤ gp by have := HB.out.size; omega); clear HB; have HB := q_; clear q_; have HN_ga_gp := Aside0.mk (show ga ≠ gp by have := blk_lt hbox; intro e_; subst e_; have h1_ := HG_gp.out; have h2_ := HLT_ga.out; omega); have HLT_gp := Aside0.mk (blk_lt hbox); have q_ := Aside0.mk (Nat.lt_of_lt_of_le HLT_ga.out hb.size); clear HLT_ga; have HLT_ga := q_; clear q_; have hc_ga_0 : w2.cell? ⟨ga, 0, none⟩ = some (.slice A xs.length c) := (blk_cell BK_ga.out 0).trans rfl; have fc_ga_0 := blk_frozen BK_ga.out 0; have hc_ga_1 : w2.cell? ⟨ga, 1, none⟩ = some (.slice B op.length d) := (blk_cell BK_ga.out 1).trans rfl; have fc_ga_1 := blk_frozen BK_ga.out 1; have hc_gp_0 : w2.cell? ⟨gp, 0, none⟩ = some (.string p) := (blk_cell BK_gp.out 0).trans rfl; have fc_gp_0 := blk_frozen BK_gp.out 0; clear hg hbox hb)
      | (go_at_call 51; refine (slices_Contains_string_string.calls k B d op p true _ (Kd.C_below HY.out HB.out) HYC.out Hb.out).mono ?_; rintro e w3 ⟨rfl, hd⟩; have hb := hd.below; have q_ := Aside0.mk (below_step HB.out hb); clear HB; have HB := q_; clear q_ hb))
    go_ret
    exact ⟨rfl, HB.out⟩
  | false =>
    have h1 := HH.out
    rw [if_neg (by decide)] at h1
    obtain ⟨j, hj, h2⟩ := Option.bind_eq_some_iff.1 h1
    obtain rfl := Option.some.inj h2
    have Hj := Aside0.mk hj
    clear h1 hj h2 HH
    go_enter Tryd.func18, Tryd.ntmps18
    go_wp2_with (first
      | ((with_reducible refine gate_dst (N := 2) rfl ?_); refine box_event ?hg2 (N := 2) ?hd2 (cs := #[.slice A xs.length c, .slice B op.length d]) (t := 41) ?hr2 ?_; (case hd2 => rfl); (case hg2 => rfl); (case hr2 => first | (go_simp; done) | (go_simp; rfl)); intro ga hg w1 hbox hb; have HG_ga := Aside0.mk hg; have BK_ga := Aside0.mk hbox; have q_ := Aside0.mk (below_step HB.out hb); have HGE_ga := Aside0.mk (show w.heap.size ≤ ga by have := HB.out.size; omega); clear HB; have HB := q_; clear q_; have HLT_ga := Aside0.mk (blk_lt hbox); clear hg hbox hb)
      | ((with_reducible refine gate_dst (N := 3) rfl ?_); refine box_event ?hg3 (N := 3) ?hd3 (cs := #[.string p]) (t := 9) ?hr3 ?_; (case hd3 => rfl); (case hg3 => rfl); (case hr3 => first | (go_simp; done) | (go_simp; rfl)); intro gp hg w2 hbox hb; have HG_gp := Aside0.mk hg; have q_ := Aside0.mk (blk_below BK_ga.out hb); clear BK_ga; have BK_ga := q_; clear q_; have BK_gp := Aside0.mk hbox; have q_ := Aside0.mk (below_step HB.out hb); have HGE_gp := Aside0.mk (show w.heap.size ≤ gp by have := HB.out.size; omega); clear HB; have HB := q_; clear q_; have HN_ga_gp := Aside0.mk (show ga ≠ gp by have := blk_lt hbox; intro e_; subst e_; have h1_ := HG_gp.out; have h2_ := HLT_ga.out; omega); have HLT_gp := Aside0.mk (blk_lt hbox); have q_ := Aside0.mk (Nat.lt_of_lt_of_le HLT_ga.out hb.size); clear HLT_ga; have HLT_ga := q_; clear q_; have hc_ga_0 : w2.cell? ⟨ga, 0, none⟩ = some (.slice A xs.length c) := (blk_cell BK_ga.out 0).trans rfl; have fc_ga_0 := blk_frozen BK_ga.out 0; have hc_ga_1 : w2.cell? ⟨ga, 1, none⟩ = some (.slice B op.length d) := (blk_cell BK_ga.out 1).trans rfl; have fc_ga_1 := blk_frozen BK_ga.out 1; have hc_gp_0 : w2.cell? ⟨gp, 0, none⟩ = some (.string p) := (blk_cell BK_gp.out 0).trans rfl; have fc_gp_0 := blk_frozen BK_gp.out 0; clear hg hbox hb)
      | (go_at_call 51; refine (slices_Contains_string_string.calls k B d op p false _ (Kd.C_below HY.out HB.out) HYC.out Hb.out).mono ?_; rintro e w3 ⟨rfl, hd⟩; have hb := hd.below; have q_ := Aside0.mk (blk_below BK_ga.out hb); clear BK_ga; have BK_ga := q_; clear q_; have q_ := Aside0.mk (blk_below BK_gp.out hb); clear BK_gp; have BK_gp := q_; clear q_; have q_ := Aside0.mk (below_step HB.out hb); clear HB; have HB := q_; clear q_ hb hd; have hd_ga_0 : w3.cell? ⟨ga, 0, none⟩ = some (.slice A xs.length c) := (blk_cell BK_ga.out 0).trans rfl; have fd_ga_0 := blk_frozen BK_ga.out 0; have hd_ga_1 : w3.cell? ⟨ga, 1, none⟩ = some (.slice B op.length d) := (blk_cell BK_ga.out 1).trans rfl; have fd_ga_1 := blk_frozen BK_ga.out 1)
      | (go_at_call 52; refine (cnf_calls k A c xs p gp j _ (tab_at HT.out HB.out) ((blk_cell BK_gp.out 0).trans rfl) (Kd.C_below HX.out HB.out) HXC.out Hj.out).mono ?_; rintro e w4 ⟨rfl, hb⟩; have q_ := Aside0.mk (below_step HB.out hb); clear HB; have HB := q_; clear q_ hb))
    go_ret
    exact ⟨rfl, HB.out⟩
end
/-! #### the pairs of functions that call each other: level by level -/
@[reducible] def d_sz : fk_laws_szTerm := ⟨fun _ _ _ _ _ _ => none, fun _ _ _ _ _ _ => LeO.none _, by intros; contradiction⟩
@[reducible] def d_to : fk_laws_toTerm := ⟨fun _ _ _ _ _ => none, fun _ _ _ _ _ => LeO.none _, by intros; contradiction⟩
@[reducible] def d_eq : fk_laws_eqTerm := ⟨fun _ _ _ _ _ _ _ _ _ => none, fun _ _ _ _ _ _ _ _ _ => LeO.none _, by intros; contradiction⟩
@[reducible] def d_34 : fk_spec_l34Term := ⟨fun _ _ _ _ _ => none, fun _ _ _ _ _ => LeO.none _, by intros; contradiction⟩
@[reducible] def d_kn : fk_impl_Known := ⟨fun _ _ _ _ => none, fun _ _ _ _ => LeO.none _, by intros; contradiction⟩
@[reducible] def i_sz : Nat → fk_laws_szTerm
  | 0 => d_sz
  | n + 1 => letI := i_sz n; letI := d_to; letI := d_eq; letI := d_34; letI := i_it; letI := d_kn; ⟨laws_szTerm.f, laws_szTerm.mono, laws_szTerm.calls⟩
@[reducible] def i_to : Nat → fk_laws_toTerm
  | 0 => d_to
  | n + 1 => letI := i_to n; letI := d_sz; letI := d_eq; letI := d_34; letI := i_it; letI := d_kn; ⟨laws_toTerm.f, laws_toTerm.mono, laws_toTerm.calls⟩
@[reducible] def i_eq : Nat → fk_laws_eqTerm
  | 0 => d_eq
  | n + 1 => letI := i_eq n; letI := d_sz; letI := d_to; letI := d_34; letI := i_it; letI := d_kn; ⟨laws_eqTerm.f, laws_eqTerm.mono, laws_eqTerm.calls⟩
@[reducible] def i_34 : Nat → fk_spec_l34Term
  | 0 => d_34
  | n + 1 => letI := i_34 n; letI := d_sz; letI := d_to; letI := d_eq; letI := i_it; letI := d_kn; ⟨spec_l34Term.f, spec_l34Term.mono, spec_l34Term.calls⟩
@[reducible] def i_kn : fk_impl_Known := letI := d_sz; letI := d_to; letI := d_eq; letI := d_34; letI := i_it; letI := d_kn; ⟨knownF, knownF_mono, known_calls⟩
/-! #### trees: height, weight, the copy -/
mutual
def ht24 : S24 → Nat
  | ⟨_, _, _, ks⟩ => hts24 ks + 1
def hts24 : List S24 → Nat
  | [] => 0
  | t :: ts => max (ht24 t) (hts24 ts)
end
mutual
def wt24 : S24 → Nat
  | ⟨_, n, _, ks⟩ => n.size + (ks.length + wts24 ks)
def wts24 : List S24 → Nat
  | [] => 0
  | t :: ts => wt24 t + wts24 ts
end
mutual
def ok24 : S24 → Prop
  | ⟨_, n, _, ks⟩ => n.size ≤ 9223372036854775807 ∧ ks.length ≤ 9223372036854775807 ∧ oks24 ks
def oks24 : List S24 → Prop
  | [] => True
  | t :: ts => ok24 t ∧ oks24 ts
end
mutual
def to29 : S24 → S29
  | ⟨a, n, b, ks⟩ => ⟨a, n, b, tos29 ks⟩
def tos29 : List S24 → List S29
  | [] => []
  | t :: ts => to29 t :: tos29 ts
end
mutual
def ht29 : S29 → Nat
  | ⟨_, _, _, ks⟩ => hts29 ks + 1
def hts29 : List S29 → Nat
  | [] => 0
  | t :: ts => max (ht29 t) (hts29 ts)
end
mutual
def cn29 : S29 → Nat
  | ⟨_, _, _, ks⟩ => cns29 ks + 1
def cns29 : List S29 → Nat
  | [] => 0
  | t :: ts => cn29 t + cns29 ts
end
theorem ht24_eq (t : S24) : ht24 t = hts24 t.f3 + 1 := by cases t; rw [ht24]
theorem wt24_eq (t : S24) : wt24 t = t.f1.size + (t.f3.length + wts24 t.f3) := by cases t; rw [wt24]
theorem ok24_eq (t : S24) : ok24 t ↔ t.f1.size ≤ 9223372036854775807 ∧ t.f3.length ≤ 9223372036854775807 ∧ oks24 t.f3 := by cases t; rw [ok24]
theorem to29_eq (t : S24) : to29 t = ⟨t.f0, t.f1, t.f2, tos29 t.f3⟩ := by cases t; rw [to29]
theorem ht29_eq (t : S29) : ht29 t = hts29 t.f3 + 1 := by cases t; rw [ht29]
theorem cn29_eq (t : S29) : cn29 t = cns29 t.f3 + 1 := by cases t; rw [cn29]
theorem hts24_mem {ts : List S24} {t : S24} (h : t ∈ ts) : ht24 t ≤ hts24 ts := by
  induction ts with
  | nil => simp at h
  | cons a l ih =>
    rw [hts24]
    rcases List.mem_cons.1 h with rfl | h
    · omega
    · have := ih h; omega
theorem hts29_mem {ts : List S29} {t : S29} (h : t ∈ ts) : ht29 t ≤ hts29 ts := by
  induction ts with
  | nil => simp at h
  | cons a l ih =>
    rw [hts29]
    rcases List.mem_cons.1 h with rfl | h
    · omega
    · have := ih h; omega
theorem wts24_mem {ts : List S24} {t : S24} (h : t ∈ ts) : wt24 t ≤ wts24 ts := by
  induction ts with
  | nil => simp at h
  | cons a l ih =>
    rw [wts24]
    rcases List.mem_cons.1 h with rfl | h
    · omega
    · have := ih h; omega
theorem oks24_mem {ts : List S24} {t : S24} (h : t ∈ ts) (ho : oks24 ts) : ok24 t := by
  induction ts with
  | nil => simp at h
  | cons a l ih =>
    rw [oks24] at ho
    rcases List.mem_cons.1 h with rfl | h
    · exact ho.1
    · exact ih h ho.2
theorem tos29_map (ts : List S24) : tos29 ts = ts.map to29 := by
  induction ts with
  | nil => rw [tos29]; rfl
  | cons a l ih => rw [tos29, ih]; rfl
theorem tos29_length (ts : List S24) : (tos29 ts).length = ts.length := by rw [tos29_map, List.length_map]
theorem hts_to (n : Nat) : (∀ t : S24, ht24 t ≤ n → ht29 (to29 t) = ht24 t) ∧ (∀ ts : List S24, hts24 ts ≤ n → hts29 (tos29 ts) = hts24 ts) := by
  induction n with
  | zero =>
    have h1 : ∀ t : S24, ht24 t ≤ 0 → ht29 (to29 t) = ht24 t := fun t h => by rw [ht24_eq] at h; omega
    refine ⟨h1, fun ts h => ?_⟩
    cases ts with
    | nil => rw [tos29, hts29, hts24]
    | cons a l => rw [hts24] at h; have := ht24_eq a; omega
  | succ n ih =>
    have h1 : ∀ t : S24, ht24 t ≤ n + 1 → ht29 (to29 t) = ht24 t := fun t h => by
      rw [ht24_eq] at h ⊢
      rw [to29_eq, ht29_eq]
      rw [ih.2 _ (by omega)]
    refine ⟨h1, fun ts => ?_⟩
    induction ts with
    | nil => intro _; rw [tos29, hts29, hts24]
    | cons a l ihl =>
      intro h
      rw [hts24] at h
      rw [tos29, hts29, hts24, h1 a (by omega), ihl (by omega)]
theorem ht_to (t : S24) : ht29 (to29 t) = ht24 t := (hts_to (ht24 t)).1 t (Nat.le_refl _)
theorem cns_wt (n : Nat) : (∀ t : S24, ht24 t ≤ n → cn29 (to29 t) ≤ wt24 t + 1) ∧ (∀ ts : List S24, hts24 ts ≤ n → cns29 (tos29 ts) ≤ wts24 ts + ts.length) := by
  induction n with
  | zero =>
    refine ⟨fun t h => by rw [ht24_eq] at h; omega, fun ts h => ?_⟩
    cases ts with
    | nil => rw [tos29, cns29]; omega
    | cons a l => rw [hts24] at h; have := ht24_eq a; omega
  | succ n ih =>
    have h1 : ∀ t : S24, ht24 t ≤ n + 1 → cn29 (to29 t) ≤ wt24 t + 1 := fun t h => by
      rw [ht24_eq] at h
      rw [to29_eq, cn29_eq, wt24_eq]
      have := ih.2 t.f3 (by omega)
      show cns29 (tos29 t.f3) + 1 ≤ _
      omega
    refine ⟨h1, fun ts => ?_⟩
    induction ts with
    | nil => intro _; rw [tos29, cns29]; omega
    | cons a l ihl =>
      intro h
      rw [hts24] at h
      rw [tos29, cns29, wts24]
      have h2 := h1 a (by omega)
      have h3 := ihl (by omega)
      simp only [List.length_cons]
      omega
theorem cn_wt (t : S24) : cn29 (to29 t) ≤ wt24 t + 1 := (cns_wt (ht24 t)).1 t (Nat.le_refl _)
theorem t_wrap {i : Int} (h0 : -4611686018427387904 ≤ i) (h1 : i ≤ 4611686018427387904) : wrap64 i = i := by
  unfold wrap64; omega
theorem rd24_at (xs : List S24) (i : Nat) (h : i < xs.length) : rd_T24 xs (i : Int) = xs[i] := by
  unfold rd_T24; simp [List.getD, h]
theorem rd29_at (xs : List S29) (i : Nat) (h : i < xs.length) : rd_T29 xs (i : Int) = xs[i] := by
  unfold rd_T29; simp [List.getD, h]
theorem eta29 (t : S29) : (⟨t.f0, t.f1, t.f2, t.f3⟩ : S29) = t := by cases t; rfl
theorem next_i (i n : Nat) (h : i < n) (hn : n ≤ 1048576) : wrap64 ((i : Int) + 1) = ((i + 1 : Nat) : Int) := by
  rw [t_wrap (by omega) (by omega)]; omega
theorem cns29_mem {ts : List S29} {t : S29} (h : t ∈ ts) : cn29 t ≤ cns29 ts := by
  induction ts with
  | nil => simp at h
  | cons a l ih =>
    rw [cns29]
    rcases List.mem_cons.1 h with rfl | h
    · omega
    · have := ih h; omega
theorem cns29_len (ts : List S29) : ts.length ≤ cns29 ts := by
  induction ts with
  | nil => simp
  | cons a l ih => rw [cns29]; have := cn29_eq a; simp only [List.length_cons]; omega
/-! #### a term that came in, read as a tree -/
open Go.ChangeShapes Go.WideShapes
section
variable {H : Type} {enc : TypeId × Value → H} {w : World} {base : Nat} {spare : Nat → Bool} {held : Bool}
theorem list_of {α : Type} {Q : Nat → α → Prop} : ∀ (n : Nat), (∀ i, i < n → ∃ t, Q i t) → ∃ l : List α, l.length = n ∧ ∀ i t, l[i]? = some t → Q i t
  | 0, _ => ⟨[], rfl, fun i t h => by simp at h⟩
  | n + 1, h => by
    obtain ⟨l, hl, hq⟩ := list_of n (fun i hi => h i (by omega))
    obtain ⟨t, ht⟩ := h n (by omega)
    refine ⟨l ++ [t], by simp [hl], fun i t' hi => ?_⟩
    rcases Nat.lt_or_ge i n with h1 | h1
    · rw [List.getElem?_append_left (by omega)] at hi; exact hq i t' hi
    · rw [List.getElem?_append_right (by omega), hl] at hi
      have : i = n := by
        rcases Nat.eq_or_lt_of_le h1 with h2 | h2
        · exact h2.symm
        · rw [List.getElem?_eq_none (by simp; omega)] at hi; simp at hi
      subst this
      simp at hi; rw [← hi]; exact ht
theorem oks24_of {ts : List S24} (h : ∀ t ∈ ts, ok24 t) : oks24 ts := by
  induction ts with
  | nil => rw [oks24]; trivial
  | cons a l ih => rw [oks24]; exact ⟨h a (by simp), ih fun t ht => h t (by simp [ht])⟩
set_option maxRecDepth 100000 in
theorem open_T (fuel : Nat) : ∀ (cs : List Value) (x : DataW H × List MemPlace), DataW.trod enc Tryd.prog w base spare held fuel 24 cs = some x → ∃ t : S24, k24.K w t cs ∧ ok24 t := by
  induction fuel using Nat.strongRecOn with
  | _ fuel IH =>
    intro cs x h
    obtain ⟨xs, n, rfl, rfl, hlen, hxl, hf⟩ := DataW.trod_struct Tryd.underlying24 h
    have hC : Tryd.prog.cellsOf 24 = 4 := by kernel_rfl
    rw [hC] at hlen
    match cs, hlen, xs, hxl with
    | [c0, c1, c2, c3], _, [y0, y1, y2, y3], _ =>
      have C3 : Tryd.prog.cellsOf 3 = 1 := by kernel_rfl
      have C9 : Tryd.prog.cellsOf 9 = 1 := by kernel_rfl
      have C22 : Tryd.prog.cellsOf 22 = 1 := by kernel_rfl
      have g0 : DataW.trod enc Tryd.prog w base spare held n 3 [c0] = some y0 := by
        have g : DataW.trod enc Tryd.prog w base spare held n 3 (([c0, c1, c2, c3].drop 0).take (Tryd.prog.cellsOf 3)) = some y0 := hf 0 _ rfl
        rw [C3] at g
        exact g
      have g1 : DataW.trod enc Tryd.prog w base spare held n 9 [c1] = some y1 := by
        have g : DataW.trod enc Tryd.prog w base spare held n 9 (([c0, c1, c2, c3].drop 1).take (Tryd.prog.cellsOf 9)) = some y1 := hf 1 _ rfl
        rw [C9] at g
        exact g
      have g2 : DataW.trod enc Tryd.prog w base spare held n 3 [c2] = some y2 := by
        have g : DataW.trod enc Tryd.prog w base spare held n 3 (([c0, c1, c2, c3].drop 2).take (Tryd.prog.cellsOf 3)) = some y2 := hf 2 _ rfl
        rw [C3] at g
        exact g
      have g3 : DataW.trod enc Tryd.prog w base spare held n 22 [c3] = some y3 := by
        have g : DataW.trod enc Tryd.prog w base spare held n 22 (([c0, c1, c2, c3].drop 3).take (Tryd.prog.cellsOf 22)) = some y3 := hf 3 _ rfl
        rw [C22] at g
        exact g
      obtain ⟨a, ha, _, _⟩ := DataW.trod_int Tryd.underlying3 g0
      obtain ⟨nm, hn, _, hsz⟩ := DataW.trod_string Tryd.underlying9 g1
      obtain ⟨b, hb, _, _⟩ := DataW.trod_int Tryd.underlying3 g2
      simp only [List.cons.injEq, and_true] at ha hn hb
      subst ha hn hb
      have hm : maxLen = 9223372036854775807 := by decide +kernel
      rcases DataW.trod_slice Tryd.underlying22 g3 with ⟨h3, _⟩ | ⟨ad, len, cap, elems, rest, m, hm1, h3, _, _, hl, hcap, hel, hrd, _, _⟩
      · simp only [List.cons.injEq, and_true] at h3
        subst h3
        refine ⟨⟨a, nm, b, []⟩, k24_mk w ⟨a, nm, b, []⟩ (A3 := none) (c3 := 0) (Nat.le_refl _) ⟨rfl, by simp, fun h => by simp at h⟩, ?_⟩
        rw [ok24]; exact ⟨by omega, by simp, by rw [oks24]; trivial⟩
      · simp only [List.cons.injEq, and_true] at h3
        subst h3
        have hall : ∀ i, i < len → ∃ t : S24, ok24 t ∧ ∃ c : List Value, c.length = 4 ∧ k24.K w t c ∧ ∀ j u, c[j]? = some u → w.cell? (ad.add (i * 4 + j)) = some u := by
          intro i hi
          have h4 := hrd i hi
          rw [hC, List.getElem?_eq_getElem (by omega)] at h4
          obtain ⟨c, hc, ht⟩ := Option.bind_eq_some_iff.1 h4
          obtain ⟨t, hK, hok⟩ := IH m (by omega) c _ ht
          obtain ⟨_, hcl, hat⟩ := World.cells?_some hc
          refine ⟨t, hok, c, hcl, hK, fun j u hj => ?_⟩
          have hj4 : j < 4 := by
            rcases Nat.lt_or_ge j 4 with h | h
            · exact h
            · rw [List.getElem?_eq_none (by omega)] at hj; simp at hj
          rw [← hj, ← hat j hj4, Go.Deep.add_add]
        obtain ⟨l, hll, hq⟩ := list_of len hall
        have hoks : oks24 l := oks24_of fun t ht => by
          obtain ⟨i, hi, rfl⟩ := List.getElem_of_mem ht
          exact (hq i _ (List.getElem?_eq_getElem hi)).1
        have hlc : l.length ≤ cap := by omega
        have hk := k24_mk w ⟨a, nm, b, l⟩ (A3 := some ad) (c3 := cap) hlc ⟨rfl, by show l.length ≤ _; omega, fun _ => ⟨ad, rfl, fun j p hj => by
          obtain ⟨_, c, h1, h2, h3⟩ := hq j p hj
          exact ⟨c, h1, h2, h3⟩⟩⟩
        refine ⟨⟨a, nm, b, l⟩, ?_, ?_⟩
        · have : (⟨a, nm, b, l⟩ : S24).f3.length = len := hll
          rw [this] at hk; exact hk
        · rw [ok24]; exact ⟨by omega, by omega, hoks⟩
end
/-! #### a clause that came in, read -/
section
variable {H : Type} {enc : TypeId × Value → H} {w : World} {base : Nat} {spare : Nat → Bool} {held : Bool}
set_option maxRecDepth 100000 in
theorem open_C (fuel : Nat) (cs : List Value) (x : DataW H × List MemPlace) (h : DataW.trod enc Tryd.prog w base spare held fuel 60 cs = some x) :
    ∃ (h b : S24) (s : ByteArray) (A : Option Addr) (c : Nat) (B : Option Addr) (d : Nat), cs = [.int .i64 h.f0, .string h.f1, .int .i64 h.f2, .slice A h.f3.length c, .int .i64 b.f0, .string b.f1, .int .i64 b.f2, .slice B b.f3.length d, .string s] ∧
      h.f3.length ≤ c ∧ Kd.C k24 w A h.f3.length h.f3 ∧ b.f3.length ≤ d ∧ Kd.C k24 w B b.f3.length b.f3 ∧ ok24 h ∧ ok24 b ∧ s.size ≤ 9223372036854775807 := by
  obtain ⟨xs, n, rfl, rfl, hlen, hxl, hf⟩ := DataW.trod_struct Tryd.underlying60 h
  have hC : Tryd.prog.cellsOf 60 = 9 := by kernel_rfl
  rw [hC] at hlen
  match cs, hlen, xs, hxl with
  | [c0, c1, c2, c3, c4, c5, c6, c7, c8], _, [y0, y1, y2], _ =>
    have C24 : Tryd.prog.cellsOf 24 = 4 := by kernel_rfl
    have C9 : Tryd.prog.cellsOf 9 = 1 := by kernel_rfl
    have g0 : DataW.trod enc Tryd.prog w base spare held n 24 [c0, c1, c2, c3] = some y0 := by
      have g : DataW.trod enc Tryd.prog w base spare held n 24 (([c0, c1, c2, c3, c4, c5, c6, c7, c8].drop 0).take (Tryd.prog.cellsOf 24)) = some y0 := hf 0 _ rfl
      rw [C24] at g
      exact g
    have g1 : DataW.trod enc Tryd.prog w base spare held n 24 [c4, c5, c6, c7] = some y1 := by
      have g : DataW.trod enc Tryd.prog w base spare held n 24 (([c0, c1, c2, c3, c4, c5, c6, c7, c8].drop 4).take (Tryd.prog.cellsOf 24)) = some y1 := hf 1 _ rfl
      rw [C24] at g
      exact g
    have g2 : DataW.trod enc Tryd.prog w base spare held n 9 [c8] = some y2 := by
      have g : DataW.trod enc Tryd.prog w base spare held n 9 (([c0, c1, c2, c3, c4, c5, c6, c7, c8].drop 8).take (Tryd.prog.cellsOf 9)) = some y2 := hf 2 _ rfl
      rw [C9] at g
      exact g
    obtain ⟨t, hK, ho⟩ := open_T n _ _ g0
    obtain ⟨u, hK2, ho2⟩ := open_T n _ _ g1
    obtain ⟨s, hs, _, hsz⟩ := DataW.trod_string Tryd.underlying9 g2
    obtain ⟨A, c, e1, hl, hCt⟩ := k24_open hK
    obtain ⟨B, d, e2, hm, hCu⟩ := k24_open hK2
    simp only [List.cons.injEq, and_true] at e1 e2 hs
    obtain ⟨rfl, rfl, rfl, rfl⟩ := e1
    obtain ⟨rfl, rfl, rfl, rfl⟩ := e2
    subst hs
    have hm9 : maxLen = 9223372036854775807 := by decide +kernel
    exact ⟨t, u, s, A, c, B, d, rfl, hl, hCt, hm, hCu, ho, ho2, by omega⟩
end
/-! #### rows of clauses and of texts, and a database, that came in, read -/
def ok60 (x : S60) : Prop := ok24 x.f0 ∧ ok24 x.f1 ∧ x.f2.size ≤ 9223372036854775807
section
variable {H : Type} {enc : TypeId × Value → H} {w : World} {base : Nat} {spare : Nat → Bool} {held : Bool}
set_option maxRecDepth 100000 in
theorem open_rowC (n : Nat) (c3 : Value) (y : DataW H × List MemPlace) (g3 : DataW.trod enc Tryd.prog w base spare held n 33 [c3] = some y) :
    ∃ (l : List S60) (A : Option Addr) (c : Nat), c3 = .slice A l.length c ∧ l.length ≤ c ∧ Kd.C k60 w A l.length l ∧ l.length ≤ 9223372036854775807 ∧ ∀ x ∈ l, ok60 x := by
  have hm : maxLen = 9223372036854775807 := by decide +kernel
  have hC : Tryd.prog.cellsOf 60 = 9 := by kernel_rfl
  rcases DataW.trod_slice Tryd.underlying33 g3 with ⟨h3, _⟩ | ⟨ad, len, cap, elems, rest, m, hm1, h3, _, _, hl, hcap, hel, hrd, _, _⟩
  · simp only [List.cons.injEq, and_true] at h3
    subst h3
    exact ⟨[], none, 0, rfl, Nat.le_refl _, ⟨rfl, by simp, fun h => by simp at h⟩, by simp, fun x hx => by simp at hx⟩
  · simp only [List.cons.injEq, and_true] at h3
    subst h3
    have hall : ∀ i, i < len → ∃ t : S60, ok60 t ∧ ∃ c : List Value, c.length = 9 ∧ k60.K w t c ∧ ∀ j u, c[j]? = some u → w.cell? (ad.add (i * 9 + j)) = some u := by
      intro i hi
      have h4 := hrd i hi
      rw [hC, List.getElem?_eq_getElem (by omega)] at h4
      obtain ⟨c, hc, ht⟩ := Option.bind_eq_some_iff.1 h4
      obtain ⟨h, b, s, A, ca, B, d, e, hla, hCa, hlb, hCb, oh, ob, os⟩ := open_C m c _ ht
      obtain ⟨_, hcl, hat⟩ := World.cells?_some hc
      refine ⟨⟨h, b, s⟩, ⟨oh, ob, os⟩, c, hcl, by rw [e]; exact k60_mk w ⟨h, b, s⟩ hla hCa hlb hCb, fun j u hj => ?_⟩
      have hj4 : j < 9 := by
        rcases Nat.lt_or_ge j 9 with h | h
        · exact h
        · rw [List.getElem?_eq_none (by omega)] at hj; simp at hj
      rw [← hj, ← hat j hj4, Go.Deep.add_add]
    obtain ⟨l, hll, hq⟩ := list_of len hall
    have hoks : ∀ x ∈ l, ok60 x := fun t ht => by
      obtain ⟨i, hi, rfl⟩ := List.getElem_of_mem ht
      exact (hq i _ (List.getElem?_eq_getElem hi)).1
    subst hll
    exact ⟨l, some ad, cap, rfl, hl, ⟨rfl, by omega, fun _ => ⟨ad, rfl, fun j p hj => by
      obtain ⟨_, c, h1, h2, h3⟩ := hq j p hj
      exact ⟨c, h1, h2, h3⟩⟩⟩, by omega, hoks⟩
set_option maxRecDepth 100000 in
theorem open_rowS (n : Nat) (c3 : Value) (y : DataW H × List MemPlace) (g3 : DataW.trod enc Tryd.prog w base spare held n 34 [c3] = some y) :
    ∃ (l : List ByteArray) (A : Option Addr) (c : Nat), c3 = .slice A l.length c ∧ l.length ≤ c ∧ Kd.C Kd.string w A l.length l ∧ l.length ≤ 9223372036854775807 ∧ ∀ x ∈ l, x.size ≤ 9223372036854775807 := by
  have hm : maxLen = 9223372036854775807 := by decide +kernel
  have hC : Tryd.prog.cellsOf 9 = 1 := by kernel_rfl
  rcases DataW.trod_slice Tryd.underlying34 g3 with ⟨h3, _⟩ | ⟨ad, len, cap, elems, rest, m, hm1, h3, _, _, hl, hcap, hel, hrd, _, _⟩
  · simp only [List.cons.injEq, and_true] at h3
    subst h3
    exact ⟨[], none, 0, rfl, Nat.le_refl _, ⟨rfl, by simp, fun h => by simp at h⟩, by simp, fun x hx => by simp at hx⟩
  · simp only [List.cons.injEq, and_true] at h3
    subst h3
    have hall : ∀ i, i < len → ∃ t : ByteArray, t.size ≤ 9223372036854775807 ∧ ∃ c : List Value, c.length = 1 ∧ Kd.string.K w t c ∧ ∀ j u, c[j]? = some u → w.cell? (ad.add (i * 1 + j)) = some u := by
      intro i hi
      have h4 := hrd i hi
      rw [hC, List.getElem?_eq_getElem (by omega)] at h4
      obtain ⟨c, hc, ht⟩ := Option.bind_eq_some_iff.1 h4
      obtain ⟨s, e, _, os⟩ := DataW.trod_string Tryd.underlying9 ht
      obtain ⟨_, hcl, hat⟩ := World.cells?_some hc
      refine ⟨s, by omega, c, hcl, e, fun j u hj => ?_⟩
      have hj4 : j < 1 := by
        rcases Nat.lt_or_ge j 1 with h | h
        · exact h
        · rw [List.getElem?_eq_none (by omega)] at hj; simp at hj
      rw [← hj, ← hat j hj4, Go.Deep.add_add]
    obtain ⟨l, hll, hq⟩ := list_of len hall
    have hoks : ∀ x ∈ l, x.size ≤ 9223372036854775807 := fun t ht => by
      obtain ⟨i, hi, rfl⟩ := List.getElem_of_mem ht
      exact (hq i _ (List.getElem?_eq_getElem hi)).1
    subst hll
    exact ⟨l, some ad, cap, rfl, hl, ⟨rfl, by omega, fun _ => ⟨ad, rfl, fun j p hj => by
      obtain ⟨_, c, h1, h2, h3⟩ := hq j p hj
      exact ⟨c, h1, h2, h3⟩⟩⟩, by omega, hoks⟩
set_option maxRecDepth 100000 in
theorem open_D (fuel : Nat) (cs : List Value) (x : DataW H × List MemPlace) (h : DataW.trod enc Tryd.prog w base spare held fuel 36 cs = some x) :
    ∃ (l : List S60) (o : List ByteArray) (A : Option Addr) (c : Nat) (B : Option Addr) (d : Nat), cs = [.slice A l.length c, .slice B o.length d] ∧ l.length ≤ c ∧ Kd.C k60 w A l.length l ∧ o.length ≤ d ∧ Kd.C Kd.string w B o.length o ∧ (∀ x ∈ l, ok60 x) ∧ l.length ≤ 9223372036854775807 ∧ o.length ≤ 9223372036854775807 ∧ ∀ x ∈ o, x.size ≤ 9223372036854775807 := by
  obtain ⟨xs, n, rfl, rfl, hlen, hxl, hf⟩ := DataW.trod_struct Tryd.underlying36 h
  have hC : Tryd.prog.cellsOf 36 = 2 := by kernel_rfl
  rw [hC] at hlen
  match cs, hlen, xs, hxl with
  | [c0, c1], _, [y0, y1], _ =>
    have C22 : Tryd.prog.cellsOf 33 = 1 := by kernel_rfl
    have C23 : Tryd.prog.cellsOf 34 = 1 := by kernel_rfl
    have g0 : DataW.trod enc Tryd.prog w base spare held n 33 [c0] = some y0 := by
      have g : DataW.trod enc Tryd.prog w base spare held n 33 (([c0, c1].drop 0).take (Tryd.prog.cellsOf 33)) = some y0 := hf 0 _ rfl
      rw [C22] at g
      exact g
    have g1 : DataW.trod enc Tryd.prog w base spare held n 34 [c1] = some y1 := by
      have g : DataW.trod enc Tryd.prog w base spare held n 34 (([c0, c1].drop 1).take (Tryd.prog.cellsOf 34)) = some y1 := hf 1 _ rfl
      rw [C23] at g
      exact g
    obtain ⟨l, A, c, rfl, hl, hCr, hm, ho⟩ := open_rowC n c0 y0 g0
    obtain ⟨o, B, d, rfl, hl2, hCr2, hm2, ho2⟩ := open_rowS n c1 y1 g1
    exact ⟨l, o, A, c, B, d, rfl, hl, hCr, hl2, hCr2, ho, hm, hm2, ho2⟩
end
/-! #### szTerm tells what is left of the weight -/
def szr (w : Nat) (left : Int) : Int := if (w : Int) ≤ left then left - w else -1
theorem szS_ev (n : Nat) (xs : List S24) (hlen : xs.length ≤ 1048576)
    (IH : ∀ x ∈ xs, ∀ left : Int, 0 ≤ left → left ≤ 1048576 → Ev (fun k => (i_sz n).f k x.f0 x.f1 x.f2 x.f3 left) (szr (wt24 x) left)) (d : Nat) :
    ∀ (i : Nat) (left : Int), i ≤ xs.length → xs.length - i = d → 0 ≤ left → left ≤ 1048576 →
    Ev (fun k => @laws_szTermS.l0 (i_sz n) k xs left i) (szr (wts24 (xs.drop i)) left) := by
  induction d with
  | zero =>
    intro i left hi hd h0 h1
    refine Ev.step (f := fun _ => some left) (fun k => ?_) ?_
    · simp only [laws_szTermS.l0]; rw [if_neg (by omega)]
    · rw [List.drop_eq_nil_of_le (by omega), wts24]
      unfold szr; rw [if_pos (by simpa using h0)]
      simpa using Ev.now left
  | succ d ih =>
    intro i left hi hd h0 h1
    have hlt : i < xs.length := by omega
    refine Ev.step (f := fun k => ((i_sz n).f k xs[i].f0 xs[i].f1 xs[i].f2 xs[i].f3 left).bind fun t => if t < 0 then some (-1) else @laws_szTermS.l0 (i_sz n) k xs t ((i + 1 : Nat) : Int)) (fun k => ?_) ?_
    · simp only [laws_szTermS.l0]
      rw [if_pos (by omega), if_pos (by omega), rd24_at xs i hlt, next_i i _ hlt hlen]
    · refine Ev.bind (f := fun k t => if t < 0 then some (-1) else @laws_szTermS.l0 (i_sz n) k xs t ((i + 1 : Nat) : Int)) (IH xs[i] (List.getElem_mem hlt) left h0 h1) ?_
      rw [List.drop_eq_getElem_cons hlt, wts24]
      unfold szr
      by_cases hc : (wt24 xs[i] : Int) ≤ left
      · rw [if_pos hc]
        have h2 := ih (i + 1) (left - wt24 xs[i]) (by omega) (by omega) (by omega) (by omega)
        unfold szr at h2
        have e : (if ((wt24 xs[i] + wts24 (xs.drop (i + 1)) : Nat) : Int) ≤ left then left - ((wt24 xs[i] + wts24 (xs.drop (i + 1)) : Nat) : Int) else -1) = (if (wts24 (xs.drop (i + 1)) : Int) ≤ left - wt24 xs[i] then left - wt24 xs[i] - (wts24 (xs.drop (i + 1)) : Int) else -1) := by
          by_cases h3 : (wts24 (xs.drop (i + 1)) : Int) ≤ left - wt24 xs[i]
          · rw [if_pos h3, if_pos (by omega)]; omega
          · rw [if_neg h3, if_neg (by omega)]
        rw [e]
        exact Ev.congr (fun k => if_neg (by omega)) h2
      · rw [if_neg hc, if_neg (by omega)]
        exact Ev.congr (fun k => if_pos (by omega)) (Ev.now (-1))
theorem sz_ev (n : Nat) : ∀ (t : S24), ok24 t → ht24 t ≤ n → ∀ left : Int, 0 ≤ left → left ≤ 1048576 → Ev (fun k => (i_sz n).f k t.f0 t.f1 t.f2 t.f3 left) (szr (wt24 t) left) := by
  induction n with
  | zero => intro t _ h; rw [ht24_eq] at h; omega
  | succ n ih =>
    intro t ho h left h0 h1
    rw [ht24_eq] at h
    obtain ⟨o1, o2, o3⟩ := (ok24_eq t).1 ho
    show Ev (fun k => @laws_szTerm.f (i_sz n) k t.f0 t.f1 t.f2 t.f3 left) _
    unfold laws_szTerm.f
    have e1 : wrap64 (left - (t.f1.size : Int)) = left - t.f1.size := by unfold wrap64; omega
    rw [e1, wt24_eq]
    by_cases c1 : left - (t.f1.size : Int) < 0
    · refine Ev.congr (fun k => if_pos c1) ?_
      unfold szr; rw [if_neg (by omega)]; exact Ev.now _
    refine Ev.congr (fun k => if_neg c1) ?_
    have hS : Ev (fun k => @laws_szTermS.f (i_sz n) k t.f3 (left - (t.f1.size : Int))) (szr (t.f3.length + wts24 t.f3) (left - (t.f1.size : Int))) := by
      unfold laws_szTermS.f
      have e2 : wrap64 (left - (t.f1.size : Int) - (t.f3.length : Int)) = left - t.f1.size - t.f3.length := by unfold wrap64; omega
      rw [e2]
      by_cases c2 : left - (t.f1.size : Int) - (t.f3.length : Int) < 0
      · refine Ev.congr (fun k => if_pos c2) ?_
        unfold szr; rw [if_neg (by omega)]; exact Ev.now _
      · refine Ev.congr (fun k => if_neg c2) ?_
        have := szS_ev n t.f3 (by omega) (fun x hx left h0 h1 => ih x (oks24_mem hx o3) (by have := hts24_mem hx; omega) left h0 h1) t.f3.length 0 (left - t.f1.size - t.f3.length) (by omega) (by omega) (by omega) (by omega)
        rw [List.drop_zero] at this
        have e : szr (t.f3.length + wts24 t.f3) (left - (t.f1.size : Int)) = szr (wts24 t.f3) (left - t.f1.size - t.f3.length) := by
          unfold szr
          by_cases h3 : (wts24 t.f3 : Int) ≤ left - t.f1.size - t.f3.length
          · rw [if_pos h3, if_pos (by omega)]; omega
          · rw [if_neg h3, if_neg (by omega)]
        rw [e]; exact this
    refine Ev.bind (f := fun _ t => if t < 0 then some (-1) else some t) hS ?_
    have e : szr (t.f1.size + (t.f3.length + wts24 t.f3)) left = szr (t.f3.length + wts24 t.f3) (left - (t.f1.size : Int)) := by
      unfold szr
      by_cases h3 : ((t.f3.length + wts24 t.f3 : Nat) : Int) ≤ left - t.f1.size
      · rw [if_pos h3, if_pos (by omega)]; omega
      · rw [if_neg h3, if_neg (by omega)]
    rw [e]
    by_cases c3 : szr (t.f3.length + wts24 t.f3) (left - (t.f1.size : Int)) < 0
    · have : szr (t.f3.length + wts24 t.f3) (left - (t.f1.size : Int)) = -1 := by
        unfold szr at c3 ⊢; split at c3 <;> rename_i h
        · omega
        · rw [if_neg h]
      rw [this]; exact Ev.now _
    · exact Ev.congr (fun k => if_neg c3) (Ev.now _)
/-! #### toTerm is the copy -/
theorem toS_ev (n : Nat) (xs : List S24) (hlen : xs.length ≤ 1048576)
    (IH : ∀ x ∈ xs, Ev (fun k => (i_to n).f k x.f0 x.f1 x.f2 x.f3) ((to29 x).f0, (to29 x).f1, (to29 x).f2, (to29 x).f3)) (d : Nat) :
    ∀ (i : Nat) (ys : List S29), i ≤ xs.length → xs.length - i = d → ys.length = xs.length →
    Ev (fun k => @laws_toTermS.l0 (i_to n) k xs ys i) (ys.take i ++ (xs.drop i).map to29) := by
  induction d with
  | zero =>
    intro i ys hi hd hy
    refine Ev.step (f := fun _ => some ys) (fun k => ?_) ?_
    · simp only [laws_toTermS.l0]; rw [if_neg (by omega)]
    · rw [List.drop_eq_nil_of_le (by omega), List.take_of_length_le (by omega)]
      simpa using Ev.now ys
  | succ d ih =>
    intro i ys hi hd hy
    have hlt : i < xs.length := by omega
    refine Ev.step (f := fun k => ((i_to n).f k xs[i].f0 xs[i].f1 xs[i].f2 xs[i].f3).bind fun b => @laws_toTermS.l0 (i_to n) k xs (ys.set i ⟨b.1, b.2.1, b.2.2.1, b.2.2.2⟩) ((i + 1 : Nat) : Int)) (fun k => ?_) ?_
    · simp only [laws_toTermS.l0]
      rw [if_pos (by omega), if_pos (by omega), rd24_at xs i hlt, next_i i _ hlt hlen]
      have : (i : Int) < (ys.length : Int) := by omega
      simp only [if_pos this, Int.toNat_natCast]
    · refine Ev.bind (f := fun k b => @laws_toTermS.l0 (i_to n) k xs (ys.set i ⟨b.1, b.2.1, b.2.2.1, b.2.2.2⟩) ((i + 1 : Nat) : Int)) (IH xs[i] (List.getElem_mem hlt)) ?_
      have h2 := ih (i + 1) (ys.set i (to29 xs[i])) (by omega) (by omega) (by rw [List.length_set]; exact hy)
      have e : ys.take i ++ (xs.drop i).map to29 = (ys.set i (to29 xs[i])).take (i + 1) ++ (xs.drop (i + 1)).map to29 := by
        have hl : i < (ys.set i (to29 xs[i])).length := by rw [List.length_set]; omega
        rw [List.drop_eq_getElem_cons hlt, List.map_cons, List.take_succ_eq_append_getElem hl, List.getElem_set_self, List.take_set_of_le (Nat.le_refl i)]
        simp
      rw [e]
      show Ev (fun k => @laws_toTermS.l0 (i_to n) k xs (ys.set i ⟨(to29 xs[i]).f0, (to29 xs[i]).f1, (to29 xs[i]).f2, (to29 xs[i]).f3⟩) ((i + 1 : Nat) : Int)) _
      rw [eta29]; exact h2
theorem to_ev (n : Nat) : ∀ (t : S24), ht24 t ≤ n → wt24 t ≤ 1048576 → Ev (fun k => (i_to n).f k t.f0 t.f1 t.f2 t.f3) ((to29 t).f0, (to29 t).f1, (to29 t).f2, (to29 t).f3) := by
  induction n with
  | zero => intro t h; rw [ht24_eq] at h; omega
  | succ n ih =>
    intro t h hw
    rw [ht24_eq] at h
    rw [wt24_eq] at hw
    show Ev (fun k => @laws_toTerm.f (i_to n) k t.f0 t.f1 t.f2 t.f3) _
    rw [to29_eq]
    unfold laws_toTerm.f
    refine Ev.bind (f := fun _ t119 => some (t.f0, t.f1, t.f2, t119)) (a := tos29 t.f3) ?_ (Ev.now _)
    unfold laws_toTermS.f
    refine Ev.congr (fun k => by rw [if_pos (by omega), if_pos (by omega)]) ?_
    have := toS_ev n t.f3 (by omega) (fun x hx => ih x (by have := hts24_mem hx; omega) (by have := wts24_mem hx; omega)) t.f3.length 0 (List.replicate t.f3.length z29) (by omega) (by omega) (by simp)
    rw [List.take_zero, List.drop_zero, List.nil_append, ← tos29_map] at this
    exact this
/-! #### eqTerm tells true of what is the same -/
theorem eqS_ev (n : Nat) (xs : List S29) (hlen : xs.length ≤ 1048576)
    (IH : ∀ x ∈ xs, Ev (fun k => (i_eq n).f k x.f0 x.f1 x.f2 x.f3 x.f0 x.f1 x.f2 x.f3) true) (d : Nat) :
    ∀ (i : Nat), i ≤ xs.length → xs.length - i = d → Ev (fun k => @laws_eqTermS.l0 (i_eq n) k xs xs i) true := by
  induction d with
  | zero =>
    intro i hi hd
    refine Ev.step (f := fun _ => some true) (fun k => ?_) (Ev.now _)
    simp only [laws_eqTermS.l0]; rw [if_neg (by omega)]
  | succ d ih =>
    intro i hi hd
    have hlt : i < xs.length := by omega
    refine Ev.step (f := fun k => ((i_eq n).f k xs[i].f0 xs[i].f1 xs[i].f2 xs[i].f3 xs[i].f0 xs[i].f1 xs[i].f2 xs[i].f3).bind fun b => if b = true then @laws_eqTermS.l0 (i_eq n) k xs xs ((i + 1 : Nat) : Int) else some false) (fun k => ?_) ?_
    · simp only [laws_eqTermS.l0]
      rw [if_pos (by omega), if_pos (by omega), if_pos (by omega), rd29_at xs i hlt, next_i i _ hlt hlen]
    · refine Ev.bind (f := fun k b => if b = true then @laws_eqTermS.l0 (i_eq n) k xs xs ((i + 1 : Nat) : Int) else some false) (IH xs[i] (List.getElem_mem hlt)) ?_
      exact Ev.congr (fun k => if_pos rfl) (ih (i + 1) (by omega) (by omega))
theorem eq_ev (n : Nat) : ∀ (t : S29), ht29 t ≤ n → cn29 t ≤ 1048577 → Ev (fun k => (i_eq n).f k t.f0 t.f1 t.f2 t.f3 t.f0 t.f1 t.f2 t.f3) true := by
  induction n with
  | zero => intro t h; rw [ht29_eq] at h; omega
  | succ n ih =>
    intro t h hc
    rw [ht29_eq] at h
    rw [cn29_eq] at hc
    have hcm : ∀ (ts : List S29), (∀ x ∈ ts, cn29 x ≤ cns29 ts) ∧ ts.length ≤ cns29 ts := by
      intro ts
      induction ts with
      | nil => exact ⟨fun x hx => by simp at hx, by simp⟩
      | cons a l ihl =>
        rw [cns29]
        have := cn29_eq a
        refine ⟨fun x hx => ?_, by simp only [List.length_cons]; have := ihl.2; omega⟩
        rcases List.mem_cons.1 hx with rfl | hx
        · omega
        · have := ihl.1 x hx; omega
    show Ev (fun k => @laws_eqTerm.f (i_eq n) k t.f0 t.f1 t.f2 t.f3 t.f0 t.f1 t.f2 t.f3) _
    unfold laws_eqTerm.f
    refine Ev.congr (fun k => by rw [if_pos rfl, if_pos rfl, if_pos rfl]) ?_
    refine Ev.bind (f := fun _ b => if b = true then some true else some false) (a := true) ?_ (Ev.now _)
    unfold laws_eqTermS.f
    refine Ev.congr (fun k => if_pos rfl) ?_
    exact eqS_ev n t.f3 (by have := (hcm t.f3).2; omega) (fun x hx => ih x (by have := hts29_mem hx; omega) (by have := (hcm t.f3).1 x hx; omega)) t.f3.length 0 (by omega) (by omega)
/-! #### the reference's figures -/
theorem Ev.pos {α : Type} {c : Prop} [Decidable c] {g f : Nat → Option α} {r : α} (h : c) (k : Ev g r) : Ev (fun n => if c then g n else f n) r := Ev.congr (fun _ => if_pos h) k
theorem Ev.neg {α : Type} {c : Prop} [Decidable c] {g f : Nat → Option α} {r : α} (h : ¬c) (k : Ev f r) : Ev (fun n => if c then g n else f n) r := Ev.congr (fun _ => if_neg h) k
def dg0 (u : Nat) : List UInt8 := if u = 0 then [] else Lib.decDigits u
theorem dg0_step (u : Nat) (h : 0 < u) : dg0 u = dg0 (u / 10) ++ [UInt8.ofNat (48 + u % 10)] := by
  unfold dg0
  rw [if_neg (by omega), Lib.decDigits]
  by_cases h10 : u < 10
  · rw [dif_pos h10, if_pos (by omega), show u % 10 = u by omega]; rfl
  · rw [dif_neg h10, if_neg (by omega)]
theorem push_fig (d : Nat) (hd : d < 10) (L : List UInt8) : strOfNums [((48 + d : Nat) : Int)] ++ (⟨L.toArray⟩ : ByteArray) = ⟨(UInt8.ofNat (48 + d) :: L).toArray⟩ := by
  apply ByteArray.ext
  rw [ByteArray.data_append]
  apply Array.toList_inj.1
  rw [Array.toList_append]
  have : d = 0 ∨ d = 1 ∨ d = 2 ∨ d = 3 ∨ d = 4 ∨ d = 5 ∨ d = 6 ∨ d = 7 ∨ d = 8 ∨ d = 9 := by omega
  rcases this with rfl | rfl | rfl | rfl | rfl | rfl | rfl | rfl | rfl | rfl <;> rfl
theorem fig_ok (d : Nat) (hd : d < 10) : spec_l01Figure.f (d : Int) = some ((48 + d : Nat) : Int) := by
  unfold spec_l01Figure.f
  rw [if_pos (by omega)]
  congr 1
  unfold wrap64
  omega
theorem dec_loop (b : Bool) (m : Nat) : ∀ (n : Int) (L : List UInt8), -9223372036854775808 ≤ n → n ≤ 9223372036854775807 → n.natAbs < 10 ^ m → L.length + m ≤ 100 →
    Ev (fun k => spec_Decimal.l0 k n b ⟨L.toArray⟩) (⟨((if b then [45] else []) ++ (dg0 n.natAbs ++ L)).toArray⟩ : ByteArray) := by
  induction m with
  | zero =>
    intro n L h0 h1 hm hl
    have hn : n = 0 := by omega
    subst hn
    cases b with
    | false =>
      refine Ev.step (f := fun _ => some (⟨L.toArray⟩ : ByteArray)) (fun k => ?_) (Ev.now _)
      simp only [spec_Decimal.l0, if_true, Bool.false_eq_true, if_false]
    | true =>
      refine Ev.step (f := fun _ => some ((⟨#[45]⟩ : ByteArray) ++ (⟨L.toArray⟩ : ByteArray))) (fun k => ?_) ?_
      · simp only [spec_Decimal.l0, if_true]
        rw [if_pos (by show 1 + L.toArray.size ≤ _; rw [List.size_toArray]; omega)]
      · rw [show ((⟨#[45]⟩ : ByteArray) ++ (⟨L.toArray⟩ : ByteArray)) = (⟨((if true then [45] else []) ++ (dg0 (0 : Int).natAbs ++ L)).toArray⟩ : ByteArray) by
          apply ByteArray.ext; rw [ByteArray.data_append]; apply Array.toList_inj.1; rw [Array.toList_append]; rfl]
        exact Ev.now _
  | succ m ih =>
    intro n L h0 h1 hm hl
    by_cases hn : n = 0
    · subst hn
      cases b with
      | false =>
        refine Ev.step (f := fun _ => some (⟨L.toArray⟩ : ByteArray)) (fun k => ?_) (Ev.now _)
        simp only [spec_Decimal.l0, if_true, Bool.false_eq_true, if_false]
      | true =>
        refine Ev.step (f := fun _ => some ((⟨#[45]⟩ : ByteArray) ++ (⟨L.toArray⟩ : ByteArray))) (fun k => ?_) ?_
        · simp only [spec_Decimal.l0, if_true]
          rw [if_pos (by show 1 + L.toArray.size ≤ _; rw [List.size_toArray]; omega)]
        · rw [show ((⟨#[45]⟩ : ByteArray) ++ (⟨L.toArray⟩ : ByteArray)) = (⟨((if true then [45] else []) ++ (dg0 (0 : Int).natAbs ++ L)).toArray⟩ : ByteArray) by
            apply ByteArray.ext; rw [ByteArray.data_append]; apply Array.toList_inj.1; rw [Array.toList_append]; rfl]
          exact Ev.now _
    · have hqa : (Int.tdiv n 10).natAbs = n.natAbs / 10 := Int.natAbs_tdiv n 10
      have hma : (Int.tmod n 10).natAbs = n.natAbs % 10 := Int.natAbs_tmod n 10
      have hqb : -1000000000000000000 ≤ Int.tdiv n 10 ∧ Int.tdiv n 10 ≤ 1000000000000000000 := by
        generalize Int.tdiv n 10 = q at hqa
        omega
      have hq : wrap64 (Int.tdiv n 10) = Int.tdiv n 10 := by
        generalize Int.tdiv n 10 = q at hqb
        unfold wrap64; omega
      have hlt : n.natAbs / 10 < 10 ^ m := by rw [Nat.pow_succ] at hm; omega
      have hd : n.natAbs % 10 < 10 := Nat.mod_lt _ (by omega)
      have hres : dg0 n.natAbs ++ L = dg0 (Int.tdiv n 10).natAbs ++ (UInt8.ofNat (48 + n.natAbs % 10) :: L) := by
        rw [hqa, dg0_step n.natAbs (by omega), List.append_assoc]; rfl
      have hnext := ih (Int.tdiv n 10) (UInt8.ofNat (48 + n.natAbs % 10) :: L) (by have := hqb.1; omega) (by have := hqb.2; omega) (by rw [hqa]; exact hlt) (by rw [List.length_cons]; omega)
      rw [hres]
      refine Ev.step (fun k => ?_) hnext
      have hsz : (strOfNums [((48 + n.natAbs % 10 : Nat) : Int)]).size + (⟨L.toArray⟩ : ByteArray).size ≤ 9223372036854775807 := by
        show 1 + L.toArray.size ≤ _
        rw [List.size_toArray]; omega
      by_cases hneg : Int.tmod n 10 < 0
      · have e1 : wrap64 (-(Int.tmod n 10)) = ((n.natAbs % 10 : Nat) : Int) := by
          generalize Int.tmod n 10 = q at hma hneg
          unfold wrap64; omega
        simp only [spec_Decimal.l0, Option.bind_some]
        rw [if_neg hn, if_pos hneg, e1, fig_ok _ hd, Option.bind_some, if_pos hsz, push_fig _ hd, hq]
      · have e1 : Int.tmod n 10 = ((n.natAbs % 10 : Nat) : Int) := by
          generalize Int.tmod n 10 = q at hma hneg
          omega
        simp only [spec_Decimal.l0, Option.bind_some]
        rw [if_neg hn, if_neg hneg, e1, fig_ok _ hd, Option.bind_some, if_pos hsz, push_fig _ hd, hq]
theorem dec_ev (n : Int) (h0 : -9223372036854775808 ≤ n) (h1 : n ≤ 9223372036854775807) : Ev (fun k => spec_Decimal.f k n) (⟨(Lib.itoa n).toArray⟩ : ByteArray) := by
  unfold spec_Decimal.f
  by_cases hn : n = 0
  · subst hn
    refine Ev.pos rfl ?_
    rw [show (⟨#[48]⟩ : ByteArray) = (⟨(Lib.itoa 0).toArray⟩ : ByteArray) by unfold Lib.itoa; rw [if_neg (by decide), Lib.decDigits]; rfl]
    exact Ev.now _
  · refine Ev.neg hn ?_
    have := dec_loop (decide (n < 0)) 20 n [] h0 h1 (by omega) (by decide)
    have e : (if decide (n < 0) = true then [45] else []) ++ (dg0 n.natAbs ++ []) = Lib.itoa n := by
      have hd : dg0 n.natAbs = Lib.decDigits n.natAbs := by unfold dg0; rw [if_neg (by omega)]
      unfold Lib.itoa
      rw [List.append_nil, hd]
      by_cases hneg : n < 0
      · rw [if_pos hneg, decide_eq_true hneg]; rfl
      · rw [if_neg hneg, decide_eq_false hneg, show n.toNat = n.natAbs by omega]; rfl
    rw [e] at this
    exact this
theorem impl_dec (k : Nat) (n : Int) (h0 : -9223372036854775808 ≤ n) (h1 : n ≤ 9223372036854775807) : @impl_Decimal.f i_it k n = some (⟨(Lib.itoa n).toArray⟩ : ByteArray) := by
  unfold impl_Decimal.f
  show ((if -9223372036854775808 ≤ n ∧ n ≤ 9223372036854775807 then some (⟨(Lib.itoa n).toArray⟩ : ByteArray) else none) : Option ByteArray).bind _ = _
  rw [if_pos ⟨h0, h1⟩]; rfl
/-! #### clauses, rows of them, rows of texts, a database: weighed, copied, compared -/
theorem szr_pos {w : Nat} {left : Int} (h : (w : Int) ≤ left) : szr w left = left - w := if_pos h
theorem szr_neg {w : Nat} {left : Int} (h : ¬ (w : Int) ≤ left) : szr w left = -1 := if_neg h
def wtC (c : S60) : Nat := wt24 c.f0 + (wt24 c.f1 + c.f2.size)
def wtCs : List S60 → Nat
  | [] => 0
  | c :: l => wtC c + wtCs l
def wtS : List ByteArray → Nat
  | [] => 0
  | s :: l => s.size + wtS l
def htC (c : S60) : Nat := max (ht24 c.f0) (ht24 c.f1)
def htCs : List S60 → Nat
  | [] => 0
  | c :: l => max (htC c) (htCs l)
def toC (c : S60) : S48 := ⟨to29 c.f0, to29 c.f1, c.f2⟩
theorem wtCs_mem {l : List S60} {c : S60} (h : c ∈ l) : wtC c ≤ wtCs l := by
  induction l with
  | nil => simp at h
  | cons a l ih =>
    rw [wtCs]
    rcases List.mem_cons.1 h with rfl | h
    · omega
    · have := ih h; omega
theorem htCs_mem {l : List S60} {c : S60} (h : c ∈ l) : htC c ≤ htCs l := by
  induction l with
  | nil => simp at h
  | cons a l ih =>
    rw [htCs]
    rcases List.mem_cons.1 h with rfl | h
    · omega
    · have := ih h; omega
theorem rd60_at (xs : List S60) (i : Nat) (h : i < xs.length) : rd_T60 xs (i : Int) = xs[i] := by
  unfold rd_T60; simp [List.getD, h]
theorem rd48_at (xs : List S48) (i : Nat) (h : i < xs.length) : rd_T48 xs (i : Int) = xs[i] := by
  unfold rd_T48; simp [List.getD, h]
theorem rdS_at (xs : List ByteArray) (i : Nat) (h : i < xs.length) : rdOf ByteArray.empty xs (i : Int) = xs[i] := by
  unfold rdOf; simp [List.getD, h]
theorem t_wrap' {i : Int} (h0 : -9223372036854775808 ≤ i) (h1 : i ≤ 9223372036854775807) : wrap64 i = i := by unfold wrap64; omega
theorem szC_ev (n : Nat) (c : S60) (ho : ok60 c) (hh : htC c ≤ n + 1) (left : Int) (h0 : 0 ≤ left) (h1 : left ≤ 1048576) :
    Ev (fun k => @laws_szClause.f (i_sz n) k c.f0.f0 c.f0.f1 c.f0.f2 c.f0.f3 c.f1.f0 c.f1.f1 c.f1.f2 c.f1.f3 c.f2 left) (szr (wtC c) left) := by
  unfold htC at hh
  have e1 := sz_ev (n + 1) c.f0 ho.1 (by omega) left h0 h1
  have h2s := ho.2.2
  unfold laws_szClause.f
  refine Ev.bind (g := fun k => @laws_szTerm.f (i_sz n) k c.f0.f0 c.f0.f1 c.f0.f2 c.f0.f3 left) e1 ?_
  by_cases c1 : (wt24 c.f0 : Int) ≤ left
  · rw [szr_pos c1]
    refine Ev.neg (by omega) ?_
    have e2 := sz_ev (n + 1) c.f1 ho.2.1 (by omega) (left - wt24 c.f0) (by omega) (by omega)
    refine Ev.bind (g := fun k => @laws_szTerm.f (i_sz n) k c.f1.f0 c.f1.f1 c.f1.f2 c.f1.f3 (left - wt24 c.f0)) e2 ?_
    by_cases c2 : (wt24 c.f1 : Int) ≤ left - wt24 c.f0
    · rw [szr_pos c2]
      refine Ev.neg (by omega) ?_
      have e3 : wrap64 (left - (wt24 c.f0 : Int) - (wt24 c.f1 : Int) - (c.f2.size : Int)) = left - wt24 c.f0 - wt24 c.f1 - c.f2.size := t_wrap' (by omega) (by omega)
      rw [e3]
      by_cases c3 : (c.f2.size : Int) ≤ left - wt24 c.f0 - wt24 c.f1
      · rw [szr_pos (show ((wtC c : Nat) : Int) ≤ left by unfold wtC; omega)]
        refine Ev.neg (by omega) ?_
        rw [show left - ((wtC c : Nat) : Int) = left - wt24 c.f0 - wt24 c.f1 - c.f2.size by unfold wtC; omega]
        exact Ev.now _
      · rw [szr_neg (show ¬ ((wtC c : Nat) : Int) ≤ left by unfold wtC; omega)]
        exact Ev.pos (by omega) (Ev.now _)
    · rw [szr_neg c2, szr_neg (show ¬ ((wtC c : Nat) : Int) ≤ left by unfold wtC; omega)]
      exact Ev.pos (by omega) (Ev.now _)
  · rw [szr_neg c1, szr_neg (show ¬ ((wtC c : Nat) : Int) ≤ left by unfold wtC; omega)]
    exact Ev.pos (by omega) (Ev.now _)
theorem szCs_l (n : Nat) (xs : List S60) (hx : xs.length ≤ 1048576) (ho : ∀ x ∈ xs, ok60 x) (hh : ∀ x ∈ xs, htC x ≤ n + 1) (d : Nat) :
    ∀ (i : Nat) (left : Int), i ≤ xs.length → xs.length - i = d → 0 ≤ left → left ≤ 1048576 → Ev (fun k => @laws_szClauseS.l0 (i_sz n) k xs left i) (szr (wtCs (xs.drop i)) left) := by
  induction d with
  | zero =>
    intro i left hi hd h0 h1
    refine Ev.step (f := fun _ => some left) (fun k => ?_) ?_
    · simp only [laws_szClauseS.l0]; rw [if_neg (by omega)]
    · rw [List.drop_eq_nil_of_le (by omega), wtCs, szr_pos (by omega)]
      simpa using Ev.now left
  | succ d ih =>
    intro i left hi hd h0 h1
    have hlt : i < xs.length := by omega
    refine Ev.step (f := fun k => (@laws_szClause.f (i_sz n) k xs[i].f0.f0 xs[i].f0.f1 xs[i].f0.f2 xs[i].f0.f3 xs[i].f1.f0 xs[i].f1.f1 xs[i].f1.f2 xs[i].f1.f3 xs[i].f2 left).bind fun t => if t < 0 then some (-1) else @laws_szClauseS.l0 (i_sz n) k xs t ((i + 1 : Nat) : Int)) (fun k => ?_) ?_
    · simp only [laws_szClauseS.l0]
      rw [if_pos (by omega), if_pos (by omega), rd60_at xs i hlt, next_i i _ hlt hx]
    · refine Ev.bind (f := fun k t => if t < 0 then some (-1) else @laws_szClauseS.l0 (i_sz n) k xs t ((i + 1 : Nat) : Int)) (szC_ev n xs[i] (ho _ (List.getElem_mem hlt)) (hh _ (List.getElem_mem hlt)) left h0 h1) ?_
      rw [List.drop_eq_getElem_cons hlt, wtCs]
      by_cases c1 : ((wtC xs[i] : Nat) : Int) ≤ left
      · rw [szr_pos c1]
        refine Ev.neg (by omega) ?_
        have := ih (i + 1) (left - wtC xs[i]) (by omega) (by omega) (by omega) (by omega)
        by_cases c2 : ((wtCs (xs.drop (i + 1)) : Nat) : Int) ≤ left - wtC xs[i]
        · rw [szr_pos c2] at this
          rw [szr_pos (by omega), show left - ((wtC xs[i] + wtCs (xs.drop (i + 1)) : Nat) : Int) = left - wtC xs[i] - wtCs (xs.drop (i + 1)) by omega]
          exact this
        · rw [szr_neg c2] at this
          rw [szr_neg (by omega)]
          exact this
      · rw [szr_neg c1, szr_neg (by omega)]
        exact Ev.pos (by omega) (Ev.now _)
theorem szS_l (xs : List ByteArray) (hx : xs.length ≤ 1048576) (ho : ∀ x ∈ xs, x.size ≤ 9223372036854775807) (d : Nat) :
    ∀ (i : Nat) (left : Int), i ≤ xs.length → xs.length - i = d → 0 ≤ left → left ≤ 1048576 → Ev (fun k => laws_szStringS.l0 k xs left i) (szr (wtS (xs.drop i)) left) := by
  induction d with
  | zero =>
    intro i left hi hd h0 h1
    refine Ev.step (f := fun _ => some left) (fun k => ?_) ?_
    · simp only [laws_szStringS.l0]; rw [if_neg (by omega)]
    · rw [List.drop_eq_nil_of_le (by omega), wtS, szr_pos (by omega)]
      simpa using Ev.now left
  | succ d ih =>
    intro i left hi hd h0 h1
    have hlt : i < xs.length := by omega
    have hs := ho _ (List.getElem_mem hlt)
    have e3 : wrap64 (left - (xs[i].size : Int)) = left - xs[i].size := t_wrap' (by omega) (by omega)
    refine Ev.step (f := fun k => if left - (xs[i].size : Int) < 0 then some (-1) else laws_szStringS.l0 k xs (left - xs[i].size) ((i + 1 : Nat) : Int)) (fun k => ?_) ?_
    · simp only [laws_szStringS.l0]
      rw [if_pos (by omega), if_pos (by omega), rdS_at xs i hlt, next_i i _ hlt hx, e3]
    · rw [List.drop_eq_getElem_cons hlt, wtS]
      by_cases c1 : (xs[i].size : Int) ≤ left
      · refine Ev.neg (by omega) ?_
        have := ih (i + 1) (left - xs[i].size) (by omega) (by omega) (by omega) (by omega)
        by_cases c2 : ((wtS (xs.drop (i + 1)) : Nat) : Int) ≤ left - xs[i].size
        · rw [szr_pos c2] at this
          rw [szr_pos (by omega), show left - ((xs[i].size + wtS (xs.drop (i + 1)) : Nat) : Int) = left - xs[i].size - wtS (xs.drop (i + 1)) by omega]
          exact this
        · rw [szr_neg c2] at this
          rw [szr_neg (by omega)]
          exact this
      · rw [szr_neg (by omega)]
        exact Ev.pos (by omega) (Ev.now _)
/-! #### a database copied -/
theorem toC_ev (n : Nat) (c : S60) (hh : htC c ≤ n + 1) (hw : wtC c ≤ 1048576) :
    Ev (fun k => @laws_toClause.f (i_to n) k c.f0.f0 c.f0.f1 c.f0.f2 c.f0.f3 c.f1.f0 c.f1.f1 c.f1.f2 c.f1.f3 c.f2) ((to29 c.f0).f0, (to29 c.f0).f1, (to29 c.f0).f2, (to29 c.f0).f3, (to29 c.f1).f0, (to29 c.f1).f1, (to29 c.f1).f2, (to29 c.f1).f3, c.f2) := by
  unfold htC at hh
  unfold wtC at hw
  have e1 := to_ev (n + 1) c.f0 (by omega) (by omega)
  have e2 := to_ev (n + 1) c.f1 (by omega) (by omega)
  unfold laws_toClause.f
  exact Ev.bind e1 (Ev.bind e2 (Ev.now _))
theorem set_row {α : Type} (xs : List α) (z : α) (r : Nat) (i : Nat) (y : α) (hi : i = xs.length) : (xs ++ List.replicate (r + 1) z).set i y = (xs ++ [y]) ++ List.replicate r z := by
  subst hi
  rw [List.set_append_right _ _ (Nat.le_refl _), Nat.sub_self, List.replicate_succ, List.set_cons_zero, List.append_assoc]
  rfl
theorem toCs_l (n : Nat) (xs : List S60) (hx : xs.length ≤ 1048576) (hh : ∀ x ∈ xs, htC x ≤ n + 1) (hw : ∀ x ∈ xs, wtC x ≤ 1048576) (d : Nat) :
    ∀ i : Nat, i ≤ xs.length → xs.length - i = d → Ev (fun k => @laws_toClauseS.l0 (i_to n) k xs ((xs.take i).map toC ++ List.replicate d z48) i) (xs.map toC) := by
  induction d with
  | zero =>
    intro i hi hd
    refine Ev.step (f := fun _ => some ((xs.take i).map toC ++ List.replicate 0 z48)) (fun k => ?_) ?_
    · simp only [laws_toClauseS.l0]; rw [if_neg (by omega)]
    · rw [List.take_of_length_le (by omega), List.replicate_zero, List.append_nil]
      exact Ev.now _
  | succ d ih =>
    intro i hi hd
    have hlt : i < xs.length := by omega
    have hl : ((xs.take i).map toC).length = i := by rw [List.length_map, List.length_take]; omega
    have hn := ih (i + 1) (by omega) (by omega)
    rw [List.take_succ_eq_append_getElem hlt, List.map_append, List.map_cons, List.map_nil] at hn
    refine Ev.step (f := fun k => (@laws_toClause.f (i_to n) k xs[i].f0.f0 xs[i].f0.f1 xs[i].f0.f2 xs[i].f0.f3 xs[i].f1.f0 xs[i].f1.f1 xs[i].f1.f2 xs[i].f1.f3 xs[i].f2).bind fun b => @laws_toClauseS.l0 (i_to n) k xs (((xs.take i).map toC ++ List.replicate (d + 1) z48).set i (⟨⟨b.1, b.2.1, b.2.2.1, b.2.2.2.1⟩, ⟨b.2.2.2.2.1, b.2.2.2.2.2.1, b.2.2.2.2.2.2.1, b.2.2.2.2.2.2.2.1⟩, b.2.2.2.2.2.2.2.2⟩ : S48)) ((i + 1 : Nat) : Int)) (fun k => ?_) ?_
    · simp only [laws_toClauseS.l0]
      rw [if_pos (by omega), if_pos (by omega), rd60_at xs i hlt, next_i i _ hlt hx]
      refine congrArg _ (funext fun b => ?_)
      rw [if_pos (by rw [List.length_append, hl, List.length_replicate]; omega), Int.toNat_natCast]
    · refine Ev.bind (toC_ev n xs[i] (hh _ (List.getElem_mem hlt)) (hw _ (List.getElem_mem hlt))) ?_
      rw [set_row _ z48 d i _ hl.symm]
      have e : (⟨⟨(to29 xs[i].f0).f0, (to29 xs[i].f0).f1, (to29 xs[i].f0).f2, (to29 xs[i].f0).f3⟩, ⟨(to29 xs[i].f1).f0, (to29 xs[i].f1).f1, (to29 xs[i].f1).f2, (to29 xs[i].f1).f3⟩, xs[i].f2⟩ : S48) = toC xs[i] := by
        unfold toC
        rw [eta29, eta29]
      rw [← e] at hn
      exact hn
theorem toCs_ev (n : Nat) (xs : List S60) (hx : xs.length ≤ 1048576) (hh : ∀ x ∈ xs, htC x ≤ n + 1) (hw : ∀ x ∈ xs, wtC x ≤ 1048576) : Ev (fun k => @laws_toClauseS.f (i_to n) k xs) (xs.map toC) := by
  unfold laws_toClauseS.f
  refine Ev.pos (by omega) (Ev.pos (by omega) ?_)
  have := toCs_l n xs hx hh hw xs.length 0 (by omega) (by omega)
  rw [Int.toNat_natCast]
  exact this
theorem toS_l (xs : List ByteArray) (hx : xs.length ≤ 1048576) (d : Nat) :
    ∀ i : Nat, i ≤ xs.length → xs.length - i = d → Ev (fun k => laws_toStringS.l0 k xs (xs.take i ++ List.replicate d (⟨#[]⟩ : ByteArray)) i) xs := by
  induction d with
  | zero =>
    intro i hi hd
    refine Ev.step (f := fun _ => some (xs.take i ++ List.replicate 0 (⟨#[]⟩ : ByteArray))) (fun k => ?_) ?_
    · simp only [laws_toStringS.l0]; rw [if_neg (by omega)]
    · rw [List.take_of_length_le (by omega), List.replicate_zero, List.append_nil]
      exact Ev.now _
  | succ d ih =>
    intro i hi hd
    have hlt : i < xs.length := by omega
    have hl : (xs.take i).length = i := by rw [List.length_take]; omega
    have hn := ih (i + 1) (by omega) (by omega)
    rw [List.take_succ_eq_append_getElem hlt] at hn
    refine Ev.step (fun k => ?_) hn
    simp only [laws_toStringS.l0]
    rw [if_pos (by omega), if_pos (by omega), rdS_at xs i hlt, next_i i _ hlt hx, if_pos (by rw [List.length_append, hl, List.length_replicate]; omega), Int.toNat_natCast, set_row _ _ d i _ hl.symm]
theorem toTexts_ev (xs : List ByteArray) (hx : xs.length ≤ 1048576) : Ev (fun k => laws_toStringS.f k xs) xs := by
  unfold laws_toStringS.f
  refine Ev.pos (by omega) (Ev.pos (by omega) ?_)
  have := toS_l xs hx xs.length 0 (by omega) (by omega)
  rw [Int.toNat_natCast]
  exact this
theorem toD_ev (n : Nat) (xs : List S60) (o : List ByteArray) (hx : xs.length ≤ 1048576) (ho : o.length ≤ 1048576) (hh : ∀ x ∈ xs, htC x ≤ n + 1) (hw : ∀ x ∈ xs, wtC x ≤ 1048576) : Ev (fun k => @laws_toDb.f (i_to n) k xs o) (xs.map toC, o) := by
  unfold laws_toDb.f
  exact Ev.bind (toCs_ev n xs hx hh hw) (Ev.bind (toTexts_ev o ho) (Ev.now _))
/-! #### a database compared with itself -/
theorem eqC_ev (n : Nat) (c : S60) (hh : htC c ≤ n + 1) (hw : wtC c ≤ 1048576) :
    Ev (fun k => @laws_eqClause.f (i_eq n) k (toC c).f0.f0 (toC c).f0.f1 (toC c).f0.f2 (toC c).f0.f3 (toC c).f1.f0 (toC c).f1.f1 (toC c).f1.f2 (toC c).f1.f3 (toC c).f2 (toC c).f0.f0 (toC c).f0.f1 (toC c).f0.f2 (toC c).f0.f3 (toC c).f1.f0 (toC c).f1.f1 (toC c).f1.f2 (toC c).f1.f3 (toC c).f2) true := by
  unfold htC at hh
  unfold wtC at hw
  have n0 := cn_wt c.f0
  have n1 := cn_wt c.f1
  have e1 := eq_ev (n + 1) (to29 c.f0) (by rw [ht_to]; omega) (by omega)
  have e2 := eq_ev (n + 1) (to29 c.f1) (by rw [ht_to]; omega) (by omega)
  unfold laws_eqClause.f
  exact Ev.bind e1 (Ev.pos rfl (Ev.bind e2 (Ev.pos rfl (Ev.pos rfl (Ev.now _)))))
theorem eqCs_l (n : Nat) (xs : List S60) (hx : xs.length ≤ 1048576) (hh : ∀ x ∈ xs, htC x ≤ n + 1) (hw : ∀ x ∈ xs, wtC x ≤ 1048576) (d : Nat) :
    ∀ i : Nat, i ≤ xs.length → xs.length - i = d → Ev (fun k => @laws_eqClauseS.l0 (i_eq n) k (xs.map toC) (xs.map toC) i) true := by
  have hl : (xs.map toC).length = xs.length := List.length_map ..
  induction d with
  | zero =>
    intro i hi hd
    refine Ev.step (f := fun _ => some true) (fun k => ?_) (Ev.now _)
    simp only [laws_eqClauseS.l0]; rw [if_neg (by omega)]
  | succ d ih =>
    intro i hi hd
    have hlt : i < xs.length := by omega
    have hn := ih (i + 1) (by omega) (by omega)
    refine Ev.step (f := fun k => (@laws_eqClause.f (i_eq n) k (toC xs[i]).f0.f0 (toC xs[i]).f0.f1 (toC xs[i]).f0.f2 (toC xs[i]).f0.f3 (toC xs[i]).f1.f0 (toC xs[i]).f1.f1 (toC xs[i]).f1.f2 (toC xs[i]).f1.f3 (toC xs[i]).f2 (toC xs[i]).f0.f0 (toC xs[i]).f0.f1 (toC xs[i]).f0.f2 (toC xs[i]).f0.f3 (toC xs[i]).f1.f0 (toC xs[i]).f1.f1 (toC xs[i]).f1.f2 (toC xs[i]).f1.f3 (toC xs[i]).f2).bind fun t => if t = true then @laws_eqClauseS.l0 (i_eq n) k (xs.map toC) (xs.map toC) ((i + 1 : Nat) : Int) else some false) (fun k => ?_) ?_
    · simp only [laws_eqClauseS.l0]
      rw [if_pos (by omega), if_pos (by omega), if_pos (by omega), rd48_at (xs.map toC) i (by omega), List.getElem_map, next_i i _ hlt hx]
    · exact Ev.bind (f := fun k t => if t = true then @laws_eqClauseS.l0 (i_eq n) k (xs.map toC) (xs.map toC) ((i + 1 : Nat) : Int) else some false) (eqC_ev n xs[i] (hh _ (List.getElem_mem hlt)) (hw _ (List.getElem_mem hlt))) (Ev.pos rfl hn)
theorem eqS_l (xs : List ByteArray) (hx : xs.length ≤ 1048576) (d : Nat) : ∀ i : Nat, i ≤ xs.length → xs.length - i = d → Ev (fun k => laws_eqStringS.l0 k xs xs i) true := by
  induction d with
  | zero =>
    intro i hi hd
    refine Ev.step (f := fun _ => some true) (fun k => ?_) (Ev.now _)
    simp only [laws_eqStringS.l0]
    rw [if_neg (by omega)]
  | succ d ih =>
    intro i hi hd
    refine Ev.step (fun k => ?_) (ih (i + 1) (by omega) (by omega))
    simp only [laws_eqStringS.l0]
    rw [if_pos (by omega), if_pos (by omega), if_pos (by omega), next_i i _ (by omega) hx]
    exact if_pos trivial
theorem eqD_ev (n : Nat) (xs : List S60) (o : List ByteArray) (hx : xs.length ≤ 1048576) (ho : o.length ≤ 1048576) (hh : ∀ x ∈ xs, htC x ≤ n + 1) (hw : ∀ x ∈ xs, wtC x ≤ 1048576) : Ev (fun k => @laws_eqDb.f (i_eq n) k (xs.map toC) o (xs.map toC) o) true := by
  have h1 : Ev (fun k => @laws_eqClauseS.f (i_eq n) k (xs.map toC) (xs.map toC)) true := by
    unfold laws_eqClauseS.f
    exact Ev.pos rfl (eqCs_l n xs hx hh hw _ 0 (by omega) rfl)
  have h2 : Ev (fun k => laws_eqStringS.f k o o) true := by
    unfold laws_eqStringS.f
    exact Ev.pos rfl (eqS_l o ho _ 0 (by omega) rfl)
  unfold laws_eqDb.f
  exact Ev.bind h1 (Ev.pos rfl (Ev.bind h2 (Ev.pos rfl (Ev.now _))))
/-! #### a database weighed -/
theorem szD_ev (n : Nat) (xs : List S60) (o : List ByteArray) (hl1 : xs.length ≤ 9223372036854775807) (hl2 : o.length ≤ 9223372036854775807) (ho : ∀ x ∈ xs, ok60 x) (hs : ∀ x ∈ o, x.size ≤ 9223372036854775807) (hh : ∀ x ∈ xs, htC x ≤ n + 1) :
    Ev (fun k => @laws_szDb.f (i_sz n) k xs o 1048576) (szr (xs.length + wtCs xs + (o.length + wtS o)) 1048576) := by
  have h1 : Ev (fun k => @laws_szClauseS.f (i_sz n) k xs 1048576) (szr (xs.length + wtCs xs) 1048576) := by
    unfold laws_szClauseS.f
    rw [t_wrap' (i := 1048576 - (xs.length : Int)) (by omega) (by omega)]
    by_cases c : (1048576 : Int) - xs.length < 0
    · rw [szr_neg (by omega)]
      exact Ev.pos c (Ev.now _)
    · refine Ev.neg c ?_
      have := szCs_l n xs (by omega) ho hh xs.length 0 (1048576 - xs.length) (by omega) (by omega) (by omega) (by omega)
      rw [List.drop_zero] at this
      have e : szr (wtCs xs) (1048576 - xs.length) = szr (xs.length + wtCs xs) 1048576 := by unfold szr; split <;> split <;> omega
      rw [e] at this
      exact this
  unfold laws_szDb.f
  refine Ev.bind h1 ?_
  by_cases c1 : ((xs.length + wtCs xs : Nat) : Int) ≤ 1048576
  · rw [szr_pos c1]
    refine Ev.neg (by omega) ?_
    have h2 : Ev (fun k => laws_szStringS.f k o (1048576 - ((xs.length + wtCs xs : Nat) : Int))) (szr (o.length + wtS o) (1048576 - ((xs.length + wtCs xs : Nat) : Int))) := by
      unfold laws_szStringS.f
      rw [t_wrap' (i := 1048576 - ((xs.length + wtCs xs : Nat) : Int) - (o.length : Int)) (by omega) (by omega)]
      by_cases c : 1048576 - ((xs.length + wtCs xs : Nat) : Int) - (o.length : Int) < 0
      · rw [szr_neg (by omega)]
        exact Ev.pos c (Ev.now _)
      · refine Ev.neg c ?_
        have := szS_l o (by omega) hs o.length 0 (1048576 - ((xs.length + wtCs xs : Nat) : Int) - o.length) (by omega) (by omega) (by omega) (by omega)
        rw [List.drop_zero] at this
        have e : szr (wtS o) (1048576 - ((xs.length + wtCs xs : Nat) : Int) - o.length) = szr (o.length + wtS o) (1048576 - ((xs.length + wtCs xs : Nat) : Int)) := by unfold szr; split <;> split <;> omega
        rw [e] at this
        exact this
    refine Ev.bind h2 ?_
    by_cases c2 : ((o.length + wtS o : Nat) : Int) ≤ 1048576 - ((xs.length + wtCs xs : Nat) : Int)
    · rw [szr_pos c2, szr_pos (by omega), show (1048576 : Int) - ((xs.length + wtCs xs + (o.length + wtS o) : Nat) : Int) = 1048576 - ((xs.length + wtCs xs : Nat) : Int) - ((o.length + wtS o : Nat) : Int) by omega]
      exact Ev.neg (by omega) (Ev.now _)
    · rw [szr_neg c2, szr_neg (by omega)]
      exact Ev.pos (by omega) (Ev.now _)
  · rw [szr_neg c1, szr_neg (by omega)]
    exact Ev.pos (by omega) (Ev.now _)
/-! #### PredOf, both ways -/
def dtx (n : Nat) : ByteArray := ⟨(Lib.itoa (n : Int)).toArray⟩
def pv (t : S29) : ByteArray := if t.f0 = 2 ∨ t.f0 = 4 then t.f1 ++ ⟨#[47]⟩ ++ dtx t.f3.length else ⟨#[]⟩
theorem dtx_size (n : Nat) (h : n ≤ 1048576) : (dtx n).size ≤ 21 := by
  have := Lib.itoa_length_le (n : Int) (by omega) (by omega)
  show (Lib.itoa (n : Int)).toArray.size ≤ 21
  rw [List.size_toArray]
  exact this
theorem spec_pred (t : S29) (h1 : t.f1.size ≤ 1048576) (h2 : t.f3.length ≤ 1048576) : Ev (fun k => spec_PredOf.f k t.f0 t.f1 t.f2 t.f3) (pv t) := by
  have hd : Ev (fun k => spec_Decimal.f k (t.f3.length : Int)) (dtx t.f3.length) := dec_ev _ (by omega) (by omega)
  have hz := dtx_size t.f3.length h2
  have hz2 : (t.f1 ++ (⟨#[47]⟩ : ByteArray)).size = t.f1.size + 1 := by rw [ByteArray.size_append]; rfl
  unfold spec_PredOf.f pv
  by_cases c2 : t.f0 = 2
  · rw [if_pos (Or.inl c2)]
    refine Ev.pos c2 (Ev.pos (by omega) ?_)
    exact Ev.bind (f := fun _ t131 => (if (t.f1 ++ (⟨#[47]⟩ : ByteArray)).size + t131.size ≤ 9223372036854775807 then (some ((t.f1 ++ (⟨#[47]⟩ : ByteArray)) ++ t131)) else (none))) hd (Ev.pos (by omega) (Ev.now _))
  · refine Ev.neg c2 ?_
    by_cases c4 : t.f0 = 4
    · rw [if_pos (Or.inr c4)]
      refine Ev.pos c4 (Ev.pos (by omega) ?_)
      exact Ev.bind (f := fun _ t131 => (if (t.f1 ++ (⟨#[47]⟩ : ByteArray)).size + t131.size ≤ 9223372036854775807 then (some ((t.f1 ++ (⟨#[47]⟩ : ByteArray)) ++ t131)) else (none))) hd (Ev.pos (by omega) (Ev.now _))
    · rw [if_neg (fun h => h.elim c2 c4)]
      exact Ev.neg c4 (Ev.now _)
theorem impl_pred (t : S29) (h1 : t.f1.size ≤ 1048576) (h2 : t.f3.length ≤ 1048576) (k : Nat) : @impl_PredOf.f i_it k t.f0 t.f1 t.f2 t.f3 = some (pv t) := by
  have hd : @impl_Decimal.f i_it k (t.f3.length : Int) = some (dtx t.f3.length) := impl_dec k _ (by omega) (by omega)
  have hz := dtx_size t.f3.length h2
  have hz2 : (t.f1 ++ (⟨#[47]⟩ : ByteArray)).size = t.f1.size + 1 := by rw [ByteArray.size_append]; rfl
  unfold impl_PredOf.f pv
  by_cases c2 : t.f0 = 2
  · rw [if_pos (Or.inl c2), if_pos c2, if_pos (by omega), hd, Option.bind_some, if_pos (by omega)]
  · rw [if_neg c2]
    by_cases c4 : t.f0 = 4
    · rw [if_pos (Or.inr c4), if_pos c4, if_pos (by omega), hd, Option.bind_some, if_pos (by omega)]
    · rw [if_neg c4, if_neg (fun h => h.elim c2 c4)]
/-! #### l34Term tells the same term -/
theorem l34S_ev (n : Nat) (xs : List S29) (hlen : xs.length ≤ 1048576) (IH : ∀ x ∈ xs, Ev (fun k => (i_34 n).f k x.f0 x.f1 x.f2 x.f3) (x.f0, x.f1, x.f2, x.f3)) (d : Nat) :
    ∀ (i : Nat) (ys : List S29), i ≤ xs.length → xs.length - i = d → ys.length = i → Ev (fun k => @spec_l34Terms.l0 (i_34 n) k xs ys i) (ys ++ xs.drop i) := by
  induction d with
  | zero =>
    intro i ys hi hd hy
    refine Ev.step (f := fun _ => some ys) (fun k => ?_) ?_
    · simp only [spec_l34Terms.l0]; rw [if_neg (by omega)]
    · rw [List.drop_eq_nil_of_le (by omega), List.append_nil]; exact Ev.now ys
  | succ d ih =>
    intro i ys hi hd hy
    have hlt : i < xs.length := by omega
    refine Ev.step (f := fun k => ((i_34 n).f k xs[i].f0 xs[i].f1 xs[i].f2 xs[i].f3).bind fun b => @spec_l34Terms.l0 (i_34 n) k xs (ys ++ [⟨b.1, b.2.1, b.2.2.1, b.2.2.2⟩]) ((i + 1 : Nat) : Int)) (fun k => ?_) ?_
    · simp only [spec_l34Terms.l0]
      rw [if_pos (by omega), if_pos (by omega), rd29_at xs i hlt, next_i i _ hlt hlen]
      have : ys.length < 2513169434916 := by omega
      simp only [if_pos this]
    · refine Ev.bind (f := fun k b => @spec_l34Terms.l0 (i_34 n) k xs (ys ++ [⟨b.1, b.2.1, b.2.2.1, b.2.2.2⟩]) ((i + 1 : Nat) : Int)) (IH xs[i] (List.getElem_mem hlt)) ?_
      have h2 := ih (i + 1) (ys ++ [xs[i]]) (by omega) (by omega) (by simp; omega)
      rw [List.append_assoc, List.singleton_append, ← List.drop_eq_getElem_cons hlt] at h2
      show Ev (fun k => @spec_l34Terms.l0 (i_34 n) k xs (ys ++ [(⟨xs[i].f0, xs[i].f1, xs[i].f2, xs[i].f3⟩ : S29)]) ((i + 1 : Nat) : Int)) _
      rw [eta29]
      exact h2
theorem l34_ev (n : Nat) : ∀ (t : S29), ht29 t ≤ n → cn29 t ≤ 1048577 → Ev (fun k => (i_34 n).f k t.f0 t.f1 t.f2 t.f3) (t.f0, t.f1, t.f2, t.f3) := by
  induction n with
  | zero => intro t h; rw [ht29_eq] at h; omega
  | succ n ih =>
    intro t h hc
    rw [ht29_eq] at h
    rw [cn29_eq] at hc
    show Ev (fun k => @spec_l34Term.f (i_34 n) k t.f0 t.f1 t.f2 t.f3) _
    unfold spec_l34Term.f
    refine Ev.bind (f := fun _ b => some (t.f0, t.f1, t.f2, b)) (a := t.f3) ?_ (Ev.now _)
    unfold spec_l34Terms.f
    have := l34S_ev n t.f3 (by have := cns29_len t.f3; omega) (fun x hx => ih x (by have := hts29_mem hx; omega) (by have := cns29_mem hx; omega)) t.f3.length 0 [] (by omega) (by omega) rfl
    rw [List.drop_zero, List.nil_append] at this
    exact this
/-! #### slices.Index of a row of texts -/
theorem si_wrap {i : Int} (h0 : -4611686018427387904 ≤ i) (h1 : i ≤ 4611686018427387904) : wrap64 i = i := by
  unfold wrap64; omega
theorem str_index (xs : List ByteArray) (v : ByteArray) (hx : xs.length ≤ 4611686018427387000) (d : Nat) : ∀ (k i : Nat), i ≤ xs.length → xs.length - i = d → d < k →
    ∃ r, slices_Index_string_string.l0 k xs v xs.length i = some r ∧ decide (r ≥ 0) = (xs.drop i).any fun y => v.toList == y.toList := by
  induction d with
  | zero =>
    intro k i hi hd hk
    obtain ⟨k, rfl⟩ : ∃ m, k = m + 1 := ⟨k - 1, by omega⟩
    refine ⟨-1, ?_, ?_⟩
    · simp only [slices_Index_string_string.l0]; rw [if_neg (by omega)]
    · rw [List.drop_eq_nil_of_le (by omega)]; rfl
  | succ d ih =>
    intro k i hi hd hk
    obtain ⟨k, rfl⟩ : ∃ m, k = m + 1 := ⟨k - 1, by omega⟩
    have hlt : i < xs.length := by omega
    have e : rdOf ByteArray.empty xs (i : Int) = xs[i] := by simp [rdOf, List.getD, hlt]
    rw [List.drop_eq_getElem_cons hlt, List.any_cons]
    simp only [slices_Index_string_string.l0]
    rw [if_pos (by omega), if_pos (by omega), if_pos (by omega), e]
    by_cases h : v.toList = (xs[i]).toList
    · rw [if_pos h]; exact ⟨i, rfl, by rw [h]; simp⟩
    · rw [if_neg h]
      obtain ⟨r, hr, h2⟩ := ih k (i + 1) (by omega) (by omega) (by omega)
      refine ⟨r, ?_, ?_⟩
      · rw [si_wrap (by omega) (by omega)]; exact hr
      · rw [h2]; simp [h]
/-! #### Known, both ways -/
def kpB (p : ByteArray) (c : S48) : Bool := (pv c.f0).toList == p.toList
def knB (xs : List S48) (o : List ByteArray) (p : ByteArray) : Bool := (o.any fun y => p.toList == y.toList) || xs.any (kpB p)
def fineK (n : Nat) (c : S48) : Prop := c.f0.f1.size ≤ 1048576 ∧ c.f0.f3.length ≤ 1048576 ∧ cn29 c.f0 ≤ 1048577 ∧ cn29 c.f1 ≤ 1048577 ∧ ht29 c.f0 ≤ n ∧ ht29 c.f1 ≤ n
theorem Ev.tt {α : Type} {g f : Nat → Option α} {r : α} (k : Ev g r) : Ev (fun n => if true = true then g n else f n) r := Ev.pos rfl k
theorem Ev.ff {α : Type} {g f : Nat → Option α} {r : α} (k : Ev f r) : Ev (fun n => if false = true then g n else f n) r := Ev.neg (by decide) k
theorem eta48 (c : S48) : (⟨⟨c.f0.f0, c.f0.f1, c.f0.f2, c.f0.f3⟩, ⟨c.f1.f0, c.f1.f1, c.f1.f2, c.f1.f3⟩, c.f2⟩ : S48) = c := by
  obtain ⟨a, b, s⟩ := c
  cases a; cases b; rfl
theorem raw_l (n : Nat) (xs : List S48) (o : List ByteArray) (p : ByteArray) (hx : xs.length ≤ 1048576) (hf : ∀ c ∈ xs, fineK n c) (d : Nat) : ∀ (i : Nat) (acc : List S48), i ≤ xs.length → xs.length - i = d → acc.length ≤ i →
    Ev (fun k => spec_l08ClausesOfRaw.l0 k p acc i xs o) (acc ++ (xs.drop i).filter (kpB p)) := by
  induction d with
  | zero =>
    intro i acc hi hd ha
    refine Ev.step (f := fun _ => some acc) (fun k => ?_) ?_
    · simp only [spec_l08ClausesOfRaw.l0]; rw [if_neg (by omega)]
    · rw [List.drop_eq_nil_of_le (by omega), List.filter_nil, List.append_nil]; exact Ev.now _
  | succ d ih =>
    intro i acc hi hd ha
    have hlt : i < xs.length := by omega
    obtain ⟨h1, h2, _⟩ := hf _ (List.getElem_mem hlt)
    refine Ev.step (f := fun k => (spec_PredOf.f k xs[i].f0.f0 xs[i].f0.f1 xs[i].f0.f2 xs[i].f0.f3).bind fun t => if t.toList = p.toList then spec_l08ClausesOfRaw.l0 k p (acc ++ [xs[i]]) ((i + 1 : Nat) : Int) xs o else spec_l08ClausesOfRaw.l0 k p acc ((i + 1 : Nat) : Int) xs o) (fun k => ?_) ?_
    · simp only [spec_l08ClausesOfRaw.l0]
      rw [if_pos (by omega), if_pos (by omega), rd48_at xs i hlt, next_i i _ hlt hx, eta48]
      simp only [if_pos (show acc.length < 1099511627776 by omega)]
    · refine Ev.bind (f := fun k t => if t.toList = p.toList then spec_l08ClausesOfRaw.l0 k p (acc ++ [xs[i]]) ((i + 1 : Nat) : Int) xs o else spec_l08ClausesOfRaw.l0 k p acc ((i + 1 : Nat) : Int) xs o) (spec_pred xs[i].f0 h1 h2) ?_
      rw [List.drop_eq_getElem_cons hlt]
      by_cases c : (pv xs[i].f0).toList = p.toList
      · refine Ev.pos c ?_
        rw [List.filter_cons_of_pos (show kpB p xs[i] = true by unfold kpB; simp [c])]
        have := ih (i + 1) (acc ++ [xs[i]]) (by omega) (by omega) (by rw [List.length_append, List.length_singleton]; omega)
        rw [List.append_assoc, List.singleton_append] at this
        exact this
      · refine Ev.neg c ?_
        rw [List.filter_cons_of_neg (show ¬ kpB p xs[i] = true by unfold kpB; simp [c])]
        exact ih (i + 1) acc (by omega) (by omega) (by omega)
theorem l34C_ev (n : Nat) (c : S48) (h : fineK n c) : Ev (fun k => @spec_l34Clause.f (i_34 n) k c.f0.f0 c.f0.f1 c.f0.f2 c.f0.f3 c.f1.f0 c.f1.f1 c.f1.f2 c.f1.f3 c.f2) (c.f0.f0, c.f0.f1, c.f0.f2, c.f0.f3, c.f1.f0, c.f1.f1, c.f1.f2, c.f1.f3, c.f2) := by
  obtain ⟨_, _, h1, h2, h3, h4⟩ := h
  unfold spec_l34Clause.f
  exact Ev.bind (l34_ev (n + 1) c.f0 (by omega) h1) (Ev.bind (l34_ev (n + 1) c.f1 (by omega) h2) (Ev.now _))
theorem l34Cs_l (n : Nat) (xs : List S48) (hx : xs.length ≤ 1048576) (hf : ∀ c ∈ xs, fineK n c) (d : Nat) : ∀ (i : Nat) (ys : List S48), i ≤ xs.length → xs.length - i = d → ys.length = i → Ev (fun k => @spec_l34Clauses.l0 (i_34 n) k xs ys i) (ys ++ xs.drop i) := by
  induction d with
  | zero =>
    intro i ys hi hd hy
    refine Ev.step (f := fun _ => some ys) (fun k => ?_) ?_
    · simp only [spec_l34Clauses.l0]; rw [if_neg (by omega)]
    · rw [List.drop_eq_nil_of_le (by omega), List.append_nil]; exact Ev.now ys
  | succ d ih =>
    intro i ys hi hd hy
    have hlt : i < xs.length := by omega
    refine Ev.step (f := fun k => (@spec_l34Clause.f (i_34 n) k xs[i].f0.f0 xs[i].f0.f1 xs[i].f0.f2 xs[i].f0.f3 xs[i].f1.f0 xs[i].f1.f1 xs[i].f1.f2 xs[i].f1.f3 xs[i].f2).bind fun b => @spec_l34Clauses.l0 (i_34 n) k xs (ys ++ [⟨⟨b.1, b.2.1, b.2.2.1, b.2.2.2.1⟩, ⟨b.2.2.2.2.1, b.2.2.2.2.2.1, b.2.2.2.2.2.2.1, b.2.2.2.2.2.2.2.1⟩, b.2.2.2.2.2.2.2.2⟩]) ((i + 1 : Nat) : Int)) (fun k => ?_) ?_
    · simp only [spec_l34Clauses.l0]
      rw [if_pos (by omega), if_pos (by omega), rd48_at xs i hlt, next_i i _ hlt hx]
      simp only [if_pos (show ys.length < 1099511627776 by omega)]
    · refine Ev.bind (f := fun k b => @spec_l34Clauses.l0 (i_34 n) k xs (ys ++ [⟨⟨b.1, b.2.1, b.2.2.1, b.2.2.2.1⟩, ⟨b.2.2.2.2.1, b.2.2.2.2.2.1, b.2.2.2.2.2.2.1, b.2.2.2.2.2.2.2.1⟩, b.2.2.2.2.2.2.2.2⟩]) ((i + 1 : Nat) : Int)) (l34C_ev n xs[i] (hf _ (List.getElem_mem hlt))) ?_
      have h2 := ih (i + 1) (ys ++ [xs[i]]) (by omega) (by omega) (by rw [List.length_append, List.length_singleton]; omega)
      rw [List.append_assoc, List.singleton_append, ← List.drop_eq_getElem_cons hlt] at h2
      show Ev (fun k => @spec_l34Clauses.l0 (i_34 n) k xs (ys ++ [(⟨⟨xs[i].f0.f0, xs[i].f0.f1, xs[i].f0.f2, xs[i].f0.f3⟩, ⟨xs[i].f1.f0, xs[i].f1.f1, xs[i].f1.f2, xs[i].f1.f3⟩, xs[i].f2⟩ : S48)]) ((i + 1 : Nat) : Int)) _
      rw [eta48]
      exact h2
theorem spec_of (n : Nat) (xs : List S48) (o : List ByteArray) (p : ByteArray) (hx : xs.length ≤ 1048576) (hf : ∀ c ∈ xs, fineK n c) : Ev (fun k => @spec_ClausesOf.f (i_34 n) k xs o p) (xs.filter (kpB p)) := by
  have h1 : Ev (fun k => spec_l08ClausesOfRaw.f k xs o p) (xs.filter (kpB p)) := by
    have := raw_l n xs o p hx hf xs.length 0 [] (by omega) (by omega) (by simp)
    rw [List.drop_zero, List.nil_append] at this
    exact this
  have hl : (xs.filter (kpB p)).length ≤ 1048576 := Nat.le_trans (List.length_filter_le _ _) hx
  have h2 : Ev (fun k => @spec_l34Clauses.f (i_34 n) k (xs.filter (kpB p))) (xs.filter (kpB p)) := by
    have := l34Cs_l n (xs.filter (kpB p)) hl (fun c hc => hf c (List.mem_filter.1 hc).1) _ 0 [] (by omega) rfl rfl
    rw [List.drop_zero, List.nil_append] at this
    exact this
  unfold spec_ClausesOf.f
  exact Ev.bind h1 (Ev.bind h2 (Ev.now _))
theorem fil_any (xs : List S48) (p : ByteArray) : decide (((xs.filter (kpB p)).length : Int) > 0) = xs.any (kpB p) := by
  induction xs with
  | nil => rfl
  | cons c xs ih =>
    rw [List.any_cons]
    cases h : kpB p c with
    | true => rw [List.filter_cons_of_pos h, List.length_cons, Bool.true_or]; exact decide_eq_true (by omega)
    | false => rw [List.filter_cons_of_neg (by rw [h]; decide), Bool.false_or]; exact ih
theorem spec_known_l (n : Nat) (xs : List S48) (o : List ByteArray) (p : ByteArray) (hx : xs.length ≤ 1048576) (ho : o.length ≤ 1048576) (hf : ∀ c ∈ xs, fineK n c) (d : Nat) : ∀ i : Nat, i ≤ o.length → o.length - i = d →
    Ev (fun k => @spec_Known.l0 (i_34 n) k p i xs o) (knB xs (o.drop i) p) := by
  induction d with
  | zero =>
    intro i hi hd
    refine Ev.step (f := fun k => (@spec_ClausesOf.f (i_34 n) k xs o p).bind fun t => some (decide ((t.length : Int) > 0))) (fun k => ?_) ?_
    · simp only [spec_Known.l0]; rw [if_neg (by omega)]
    · rw [List.drop_eq_nil_of_le (by omega)]
      unfold knB
      rw [List.any_nil, Bool.false_or, ← fil_any]
      exact Ev.bind (f := fun _ t => some (decide ((t.length : Int) > 0))) (spec_of n xs o p hx hf) (Ev.now _)
  | succ d ih =>
    intro i hi hd
    have hlt : i < o.length := by omega
    have hn := ih (i + 1) (by omega) (by omega)
    refine Ev.step (f := fun k => if (o[i]).toList = p.toList then some true else @spec_Known.l0 (i_34 n) k p ((i + 1 : Nat) : Int) xs o) (fun k => ?_) ?_
    · simp only [spec_Known.l0]
      rw [if_pos (by omega), if_pos (by omega), rdS_at o i hlt, next_i i _ hlt ho]
    · rw [List.drop_eq_getElem_cons hlt]
      by_cases c : (o[i]).toList = p.toList
      · refine Ev.pos c ?_
        unfold knB
        rw [List.any_cons, show (p.toList == (o[i]).toList) = true by rw [c]; simp, Bool.true_or, Bool.true_or]
        exact Ev.now _
      · refine Ev.neg c ?_
        unfold knB at hn ⊢
        rw [List.any_cons, show (p.toList == (o[i]).toList) = false by rw [beq_eq_false_iff_ne]; exact fun e => c e.symm, Bool.false_or]
        exact hn
theorem idx_ok (n : Nat) (xs : List S48) (p : ByteArray) (hf : ∀ c ∈ xs, fineK n c) (d : Nat) : ∀ (k i : Nat), i ≤ xs.length → xs.length - i = d → d < k → ∃ r, @idxS i_it k xs p i = some r ∧ decide (r ≥ 0) = (xs.drop i).any (kpB p) := by
  induction d with
  | zero =>
    intro k i hi hd hk
    obtain ⟨k, rfl⟩ : ∃ m, k = m + 1 := ⟨k - 1, by omega⟩
    refine ⟨-1, ?_, ?_⟩
    · simp only [idxS]; rw [if_neg (by omega)]
    · rw [List.drop_eq_nil_of_le (by omega)]; rfl
  | succ d ih =>
    intro k i hi hd hk
    obtain ⟨k, rfl⟩ : ∃ m, k = m + 1 := ⟨k - 1, by omega⟩
    have hlt : i < xs.length := by omega
    obtain ⟨h1, h2, _⟩ := hf _ (List.getElem_mem hlt)
    rw [List.drop_eq_getElem_cons hlt, List.any_cons]
    simp only [idxS]
    rw [if_pos (by omega), rd48_at xs i hlt, impl_pred xs[i].f0 h1 h2, Option.bind_some]
    cases h : kpB p xs[i] with
    | true =>
      unfold kpB at h
      rw [if_pos h]; exact ⟨i, rfl, by rw [Bool.true_or]; exact decide_eq_true (by omega)⟩
    | false =>
      unfold kpB at h
      rw [if_neg (by rw [h]; decide)]
      obtain ⟨r, hr, h2⟩ := ih k (i + 1) (by omega) (by omega) (by omega)
      refine ⟨r, ?_, ?_⟩
      · rw [show (i : Int) + 1 = ((i + 1 : Nat) : Int) by omega]; exact hr
      · rw [h2, Bool.false_or]
theorem impl_known (n : Nat) (xs : List S48) (o : List ByteArray) (p : ByteArray) (hx : xs.length ≤ 1048576) (ho : o.length ≤ 1048576) (hf : ∀ c ∈ xs, fineK n c) : Ev (fun k => @knownF i_it k xs o p) (knB xs o p) := by
  refine Ev.of (fun k => @knownF_mono d_sz d_to d_eq d_34 i_it d_kn xs o p k) (show @knownF i_it (xs.length + o.length + 1) xs o p = some (knB xs o p) from ?_)
  unfold knownF slices_Contains_string_string.f slices_Index_string_string.f
  obtain ⟨r, hr, h2⟩ := str_index o p (by omega) o.length (xs.length + o.length + 1) 0 (by omega) rfl (by omega)
  rw [show ((0 : Nat) : Int) = 0 from rfl] at hr
  rw [hr]
  simp only [Option.bind_some]
  rw [List.drop_zero] at h2
  obtain ⟨q, hq, h3⟩ := idx_ok n xs p hf xs.length (xs.length + o.length + 1) 0 (by omega) rfl (by omega)
  rw [show ((0 : Nat) : Int) = 0 from rfl] at hq
  rw [List.drop_zero] at h3
  unfold knB
  rw [h2, hq]
  simp only [Option.bind_some]
  rw [h3]
  cases o.any fun y => p.toList == y.toList with
  | true => rfl
  | false => rfl
theorem fineK_to (n : Nat) (c : S60) (hh : htC c ≤ n) (hw : wtC c ≤ 1048576) : fineK n (toC c) := by
  unfold wtC at hw
  unfold htC at hh
  have n0 := cn_wt c.f0
  have n1 := cn_wt c.f1
  have w0 := wt24_eq c.f0
  have h0 := ht_to c.f0
  have h1 := ht_to c.f1
  refine ⟨?_, ?_, by show cn29 (to29 c.f0) ≤ _; omega, by show cn29 (to29 c.f1) ≤ _; omega, by show ht29 (to29 c.f0) ≤ _; omega, by show ht29 (to29 c.f1) ≤ _; omega⟩
  · show (to29 c.f0).f1.size ≤ _
    rw [to29_eq]
    show c.f0.f1.size ≤ _
    omega
  · show (to29 c.f0).f3.length ≤ _
    rw [to29_eq]
    show (tos29 c.f0.f3).length ≤ _
    rw [tos29_map, List.length_map]
    omega
theorem law_known (xs : List S60) (o : List ByteArray) (p : ByteArray) (hl1 : xs.length ≤ 9223372036854775807) (hl2 : o.length ≤ 9223372036854775807) (ho : ∀ x ∈ xs, ok60 x) (hs : ∀ x ∈ o, x.size ≤ 9223372036854775807) : ∃ (n k : Nat), @laws_FnExactKnown.f (i_sz n) (i_to n) (i_eq n) (i_34 n) i_kn k xs o p = some true := by
  refine ⟨htCs xs, ?_⟩
  refine Ev.rounds (g := fun k => @laws_FnExactKnown.f (i_sz (htCs xs)) (i_to (htCs xs)) (i_eq (htCs xs)) (i_34 (htCs xs)) i_kn k xs o p) ?_
  have hh : ∀ x ∈ xs, htC x ≤ htCs xs + 1 := fun x hx => by have := htCs_mem hx; omega
  unfold laws_FnExactKnown.f
  by_cases hp : (p.size : Int) > 1048576
  · exact Ev.pos hp (Ev.now _)
  refine Ev.neg hp ?_
  refine Ev.bind (szD_ev (htCs xs) xs o hl1 hl2 ho hs hh) ?_
  by_cases hw : ((xs.length + wtCs xs + (o.length + wtS o) : Nat) : Int) ≤ 1048576
  · rw [szr_pos hw]
    refine Ev.neg (by omega) ?_
    have hx : xs.length ≤ 1048576 := by omega
    have hx2 : o.length ≤ 1048576 := by omega
    have hww : ∀ x ∈ xs, wtC x ≤ 1048576 := fun x hx => by have := wtCs_mem hx; omega
    have hf : ∀ c ∈ xs.map toC, fineK (htCs xs) c := fun c hc => by
      obtain ⟨x, hx, rfl⟩ := List.mem_map.1 hc
      exact fineK_to (htCs xs) x (htCs_mem hx) (hww x hx)
    have hto := toD_ev (htCs xs) xs o hx hx2 hh hww
    have hlen : (xs.map toC).length ≤ 1048576 := by rw [List.length_map]; exact hx
    have h1 : Ev (fun k => @spec_Known.f (i_34 (htCs xs)) k (xs.map toC) o p) (knB (xs.map toC) o p) := by
      have := spec_known_l (htCs xs) (xs.map toC) o p hlen hx2 hf _ 0 (by omega) rfl
      rw [List.drop_zero] at this
      exact this
    have h2 : Ev (fun k => @knownF i_it k (xs.map toC) o p) (knB (xs.map toC) o p) := impl_known (htCs xs) (xs.map toC) o p hlen hx2 hf
    refine Ev.bind hto (Ev.bind h1 (Ev.bind hto (Ev.bind h2 (Ev.neg (by simp) (Ev.bind hto (Ev.bind (eqD_ev (htCs xs) xs o hx hx2 hh hww) (Ev.pos rfl (Ev.now _))))))))
  · rw [szr_neg hw]
    exact Ev.pos (by omega) (Ev.now _)
theorem known_walk (l : List S60) (o : List ByteArray) (A : Option Addr) (c : Nat) (B : Option Addr) (d : Nat) (p : ByteArray) (w : World) (hA : Kd.C k60 w A l.length l) (hc : l.length ≤ c) (hB : Kd.C Kd.string w B o.length o) (hd : o.length ≤ d) (ho : (∀ x ∈ l, ok60 x) ∧ l.length ≤ 9223372036854775807 ∧ o.length ≤ 9223372036854775807 ∧ ∀ x ∈ o, x.size ≤ 9223372036854775807) (hp : p.size ≤ 140737488351232) (hT : Lib.TabBelow Tryd.prog w.heap.size w "internal/strconv.uint64pow10" .u64 Lib.pow10Tab) :
    Calls Tryd.prog 4 #[.agg #[.slice A l.length c, .slice B o.length d], .string p] w fun e w' => e = .returned (.bool true) ∧ Below w.heap.size w w' := by
  obtain ⟨n, k, h⟩ := law_known l o p ho.2.1 ho.2.2.1 ho.1 ho.2.2.2
  exact @laws_FnExactKnown.calls (i_sz n) (i_to n) (i_eq n) (i_34 n) i_it i_kn k A c l B d o p true w hT hA hc hB hd h
end Go.Proofs.YtojedbogbodkiaaDoor.KKn
