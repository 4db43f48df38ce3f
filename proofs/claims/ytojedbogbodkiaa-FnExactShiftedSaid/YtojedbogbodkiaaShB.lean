/- Parts of a proof about terms. No condition. -/
import Derived.Test.YtojedbogbodkiaaKShx8
import Derived.Test.YtojedbogbodkiaaShA
import Derived.Test.YtojedbogbodkiaaKS
set_option linter.unusedVariables false
set_option linter.unusedSimpArgs false
namespace Go.Proofs.Ytojedbogbodkiaa.KSh
open Go.RowKit Go.Proofs.YtojedbogbodkiaaW.PrintWords Go.Proofs.YtojedbogbodkiaaW.PrintLast Go.Proofs.YtojedbogbodkiaaW.PrintMore
mutual
def vsT : S29 → List Int → List Int
 | ⟨a, _, b, ks⟩, l => vsS ks (if a = 1 ∧ l.contains b = false then l ++ [b] else l)
def vsS : List S29 → List Int → List Int
 | [], l => l
 | t :: ts, l => vsS ts (vsT t l)
end
def hdV (t : S29) (l : List Int) : List Int:=if t.f0 = 1 ∧ l.contains t.f2 = false then l ++ [t.f2] else l
theorem vsT_eq (t : S29) (l : List Int) : vsT t l = vsS t.f3 (hdV t l):=by cases t;rw [vsT];rfl
theorem vsS_append : ∀ (ts us : List S29) (l : List Int),vsS (ts ++ us) l = vsS us (vsS ts l)
 | [], us, l => by rw [vsS, List.nil_append]
 | t :: ts, us, l => by rw [List.cons_append, vsS, vsS, vsS_append ts us]
theorem vsS_take (ts : List S29) (i : Nat) (h : i < ts.length) (l : List Int) : vsS (ts.take (i + 1)) l = vsT ts[i] (vsS (ts.take i) l):=by
 rw [List.take_succ_eq_append_getElem h,vsS_append,vsS,vsS]
theorem hdV_len (t : S29) (l : List Int) : (hdV t l).length ≤ l.length + 1:=by
 unfold hdV
 split
 ·rw [List.length_append];exact Nat.le_refl _
 ·omega
theorem vs_len (n : Nat) : (∀ t l,ht29 t ≤ n → (vsT t l).length ≤ l.length + cn29 t) ∧ ∀ ts l,hts29 ts ≤ n → (vsS ts l).length ≤ l.length + cns29 ts:=by
 induction n with
 | zero =>
  refine ⟨fun t l h => by rw [ht29_eq] at h;omega,fun ts l h => ?_⟩
  cases ts with
  | nil => rw [vsS]; omega
  | cons t ts => rw [hts29] at h; have := ht29_eq t; omega
 | succ n ih =>
  have h1 : ∀ t l,ht29 t ≤ n + 1 → (vsT t l).length ≤ l.length + cn29 t:=fun t l h => by
   rw [ht29_eq] at h
   have h2:=ih.2 t.f3 (hdV t l) (by omega)
   have h3:=hdV_len t l
   rw [vsT_eq,cn29_eq]
   omega
  refine ⟨h1,fun ts => ?_⟩
  induction ts with
  | nil => intro l _; rw [vsS]; omega
  | cons t ts ih2 =>
   intro l h
   rw [hts29] at h
   have h2:=h1 t l (by omega)
   have h3:=ih2 (vsT t l) (by omega)
   rw [vsS,cns29]
   omega
theorem vsS_len (ts : List S29) (l : List Int) : (vsS ts l).length ≤ l.length + cns29 ts:=(vs_len (hts29 ts)).2 ts l (Nat.le_refl _)
theorem vi_wrap {i : Int} (h0 : -9223372036854775808 ≤ i) (h1 : i ≤ 9223372036854775807) : wrap64 i = i:=by unfold wrap64;omega
theorem rdi_at (xs : List Int) (i : Nat) (h : i < xs.length) : rd xs (i : Int) = xs[i]:=by unfold rd;simp [List.getD,h]
theorem int_index (xs : List Int) (v : Int) (hx : xs.length ≤ 4611686018427387000) (d : Nat) : ∀ (k i : Nat),i ≤ xs.length → xs.length - i = d → d < k →
  ∃ r,slices_Index_int_int.l0 k xs v xs.length i = some r ∧ decide (r ≥ 0) = (xs.drop i).contains v:=by
 induction d with
 | zero =>
  intro k i hi hd hk
  obtain ⟨k,rfl⟩ : ∃ m,k = m + 1:=⟨k - 1,by omega⟩
  refine ⟨-1,?_,?_⟩
  ·simp only [slices_Index_int_int.l0];rw [if_neg (by omega)]
  ·rw [List.drop_eq_nil_of_le (by omega)];rfl
 | succ d ih =>
  intro k i hi hd hk
  obtain ⟨k,rfl⟩ : ∃ m,k = m + 1:=⟨k - 1,by omega⟩
  have hlt : i < xs.length:=by omega
  rw [List.drop_eq_getElem_cons hlt,List.contains_cons]
  simp only [slices_Index_int_int.l0]
  rw [if_pos (by omega),if_pos (by omega),if_pos (by omega),rdi_at xs i hlt]
  by_cases h : v = xs[i]
  ·rw [if_pos h];exact ⟨i,rfl,by rw [show (v == xs[i]) = true from beq_iff_eq.2 h,Bool.true_or];exact decide_eq_true (by omega)⟩
  ·rw [if_neg h]
   obtain ⟨r,hr,h2⟩:=ih k (i + 1) (by omega) (by omega) (by omega)
   refine ⟨r,?_,?_⟩
   ·rw [vi_wrap (by omega) (by omega)];exact hr
   ·rw [h2,show (v == xs[i]) = false from beq_eq_false_iff_ne.2 h,Bool.false_or]
theorem con_ok (xs : List Int) (v : Int) (hx : xs.length ≤ 4611686018427387000) : slices_Contains_int_int.f (xs.length + 1) xs v = some (xs.contains v):=by
 unfold slices_Contains_int_int.f slices_Index_int_int.f
 obtain ⟨r,hr,h2⟩:=int_index xs v hx xs.length (xs.length + 1) 0 (by omega) rfl (by omega)
 rw [show ((0 : Nat) : Int) = 0 from rfl] at hr
 rw [hr,Option.bind_some,h2,List.drop_zero]
theorem readI {e : Nat} {w : World} {base : Nat} {ok : Nat → Prop} {A : Option Addr} {n c : Nat} {xs : List Int} (h : Kd.R (Kd.int .i64) e w base ok (.slice A n c) xs) : n ≤ c ∧ Kd.C (Kd.int .i64) w A n xs:=by
 obtain ⟨h1,h2,h3⟩:=Kd.R_reads' h
 rw [h1]
 exact ⟨by omega,h3⟩
section
set_option linter.unusedSectionVars false
variable [fk_laws_szTerm] [fk_laws_toTerm] [fk_laws_eqTerm] [fk_spec_l34Term] [fk_impl_copyTerm_1]
def AddT (t : S29) : Prop:=∀ (l : List Int) (v : Value) (A : Option Addr) (c : Nat) (w u : World) (P : Nat → Prop),l.length + cn29 t ≤ 4194304 → Kd.C k29 w A t.f3.length t.f3 → t.f3.length ≤ c → Below w.heap.size w u → Kd.R (Kd.int .i64) 3 u w.heap.size P v l →
 Calls Try.prog 78 #[v,.agg #[.int .i64 t.f0,.string t.f1,.int .i64 t.f2,.slice A t.f3.length c]] u fun e u' => ∃ v',e = .returned v' ∧ Kd.R (Kd.int .i64) 3 u' w.heap.size (fun k_ => P k_ ∨ u.heap.size ≤ k_) v' (vsT t l) ∧ Below w.heap.size w u' ∧ Kept u u' P
set_option maxHeartbeats 16000000 in
set_option maxRecDepth 100000 in
theorem add_step (t : S29) (ih : ∀ x ∈ t.f3,AddT x) : AddT t:=by
 intro l v A c w u P hln hC hc hB hR
 obtain ⟨A0,c0,rfl⟩:=Kd.R_slice hR
 have IH:=Aside0.mk ih
 have HLN:=Aside0.mk hln
 have HC:=Aside0.mk hC
 have HCC:=Aside0.mk hc
 have HB:=Aside0.mk hB
 have HWU:=Aside0.mk hB.size
 have HK:=Aside0.mk (Kept.refl u P)
 have HR0:=Aside0.mk (show Kd.R (Kd.int .i64) 3 u w.heap.size (fun k_ => P k_ ∨ u.heap.size ≤ k_) (.slice A0 l.length c0) (l) from Kd.R_mono hR (fun k_ hk_ => .inl hk_))
 have hcn:=cn29_eq t
 have hmx:=hC.2.1
 have HCN0:=con_ok l t.f2 (by omega)
 clear ih hln hC hc hB hR hcn
 by_cases c1 : t.f0 = 1
 ·have d1 : (t.f0 == 1) = true:=beq_iff_eq.2 c1
  have d2 : decide (t.f0 = 1) = true:=decide_eq_true c1
  cases c2 : l.contains t.f2 with
  | true =>
   rw [c2] at HCN0
   have HCN:=Aside0.mk HCN0
   clear HCN0
   go_enter Try.func78,Try.ntmps78
   go_wp2_with (first
    | ((with_reducible refine gate_dst (N := 3) rfl ?_); refine box_event ?hg3 (N := 3) ?hd3 (cs := #[.int .i64 t.f0, .string t.f1, .int .i64 t.f2, .slice A t.f3.length c]) (t := 29) ?hr3 ?_; (case hd3 => rfl); (case hg3 => rfl); (case hr3 => first | (go_simp; done) | (go_simp; rfl)); intro ga hg w1 hbox hb; have HG_ga := Aside0.mk (show u.heap.size ≤ ga from Nat.le_of_eq hg.symm); have BK_ga := Aside0.mk hbox; have HLT_ga := Aside0.mk (blk_lt hbox); have HR := Aside0.mk (show Kd.R (Kd.int .i64) 3 w1 w.heap.size (fun k_ => (P k_ ∨ u.heap.size ≤ k_) ∧ k_ ≠ ga) (.slice A0 l.length c0) (l) from Kd.R_mono (Kd.R_below (Kd.R_bound HR0.out) hb) (fun k_ hk_ => ⟨hk_.1, fun e_ => by have := hk_.2.2.1; omega⟩)); clear HR0; have q_ := Aside0.mk (below_step HB.out hb); clear HB; have HB := q_; clear q_; have q_ := Aside0.mk (Kept.below HK.out hb); clear HK; have HK := q_; clear q_; have hc_ga_0 : w1.cell? ⟨ga, 0, none⟩ = some (.int .i64 t.f0) := (blk_cell BK_ga.out 0).trans rfl; have hc_ga_1 : w1.cell? ⟨ga, 1, none⟩ = some (.string t.f1) := (blk_cell BK_ga.out 1).trans rfl; have hc_ga_2 : w1.cell? ⟨ga, 2, none⟩ = some (.int .i64 t.f2) := (blk_cell BK_ga.out 2).trans rfl; have hc_ga_3 : w1.cell? ⟨ga, 3, none⟩ = some (.slice A t.f3.length c) := (blk_cell BK_ga.out 3).trans rfl; clear hg hbox hb)
    | (go_at_call 109; refine (slices_Contains_int_int.calls (l.length + 1) A0 c0 l t.f2 true _ (readI HR.out).2 (readI HR.out).1 HCN.out).mono ?_; rintro e w2 ⟨rfl, hd⟩; have hb := hd.below; have q_ := Aside0.mk (blk_below BK_ga.out hb); clear BK_ga; have BK_ga := q_; clear q_; have q_ := Aside0.mk (Kd.R_below HR.out hb); clear HR; have HR := q_; clear q_; have q_ := Aside0.mk (below_step HB.out hb); clear HB; have HB := q_; clear q_; have q_ := Aside0.mk (Kept.below HK.out hb); clear HK; have HK := q_; clear q_; have q_ := Aside0.mk (Nat.lt_of_lt_of_le HLT_ga.out hb.size); clear HLT_ga; have HLT_ga := q_; clear q_; have he_ga_0 : w2.cell? ⟨ga, 0, none⟩ = some (.int .i64 t.f0) := (blk_cell BK_ga.out 0).trans rfl; have he_ga_1 : w2.cell? ⟨ga, 1, none⟩ = some (.string t.f1) := (blk_cell BK_ga.out 1).trans rfl; have he_ga_2 : w2.cell? ⟨ga, 2, none⟩ = some (.int .i64 t.f2) := (blk_cell BK_ga.out 2).trans rfl; have he_ga_3 : w2.cell? ⟨ga, 3, none⟩ = some (.slice A t.f3.length c) := (blk_cell BK_ga.out 3).trans rfl; clear hb hd))
   obtain ⟨l2,hl2⟩ : ∃ l2,l2 = l:=⟨_,rfl⟩
   have HL2:=Aside0.mk (show l2 = hdV t l by rw [hl2];unfold hdV;rw [if_neg (fun z => by rw [c2] at z;exact absurd z.2 (by decide))])
   have HR1:=Aside0.mk (show Kd.R (Kd.int .i64) 3 _ w.heap.size (fun k_ => P k_ ∨ u.heap.size ≤ k_) _ (l2) from by rw [hl2];exact Kd.R_mono HR.out (fun k_ hk_ => hk_.1))
   clear HR hl2
   go_loopg [0,25] t.f3.length (fun m v0 vi u' => ∃ i : Nat,vi = .int .i64 i ∧ Aside0 (m + i = t.f3.length) ∧ Aside0 (Kd.R (Kd.int .i64) 3 u' w.heap.size (fun k_ => P k_ ∨ u.heap.size ≤ k_) v0 (vsS (t.f3.take i) l2)) ∧ Aside0 (Below w.heap.size w u') ∧ Aside0 (Kept u u' P))
   case atStart => exact ⟨0,rfl,⟨by omega⟩,⟨by simpa [vsS] using HR1.out⟩,HB,HK⟩
   case round =>
    clear HR1 HB HK BK_ga
    obtain ⟨i,rfl,hi,HR0,HB,HK⟩:=hrel
    obtain ⟨A1,c1,hv1⟩:=Kd.R_slice HR0.out
    obtain ⟨n1,hn1⟩ : ∃ n1,n1 = (vsS (t.f3.take i) l2).length:=⟨_,rfl⟩
    rw [← hn1] at hv1
    subst hv1
    have HN1:=Aside0.mk hn1
    clear hn1
    by_cases hlt : (i : Int) < (t.f3.length : Int)
    ·have c3b0 : decide ((i : Int) < (t.f3.length : Int)) = true:=decide_eq_true hlt
     have hlt' : i < t.f3.length:=by omega
     have c3b1 : decide (i < t.f3.length) = true:=decide_eq_true hlt'
     obtain ⟨ad,A3,c3,e1,hx0,hx1,hx2,hx3,hl3,hi3⟩:=at_T29 HC.out (i : Int) (by omega) hlt
     cases e1
     obtain ⟨x,hx⟩ : ∃ x,x = t.f3[i]:=⟨_,rfl⟩
     have hrd : rd_T29 t.f3 (i : Int) = x:=by rw [hx];exact rd29_at t.f3 i hlt'
     rw [hrd] at hx0 hx1 hx2 hx3 hl3 hi3
     have HX:=Aside0.mk (show x ∈ t.f3 by rw [hx];exact List.getElem_mem hlt')
     have HXI:=Aside0.mk hx
     have HNX:=Aside0.mk (show vsS (t.f3.take (i + 1)) l2 = vsT x (vsS (t.f3.take i) l2) by rw [hx];exact vsS_take t.f3 i hlt' l2)
     have HCX:=Aside0.mk hi3
     have HLX:=Aside0.mk hl3
     clear hi3 hl3 hrd hx
     have HKU:=Aside0.mk HK.out.1
     replace hx0:=(HB.out.cell (World.block_lt_of_cell? w _ hx0)).trans hx0
     replace hx1:=(HB.out.cell (World.block_lt_of_cell? w _ hx1)).trans hx1
     replace hx2:=(HB.out.cell (World.block_lt_of_cell? w _ hx2)).trans hx2
     replace hx3:=(HB.out.cell (World.block_lt_of_cell? w _ hx3)).trans hx3
     simp only [Int.toNat_natCast] at hx0 hx1 hx2 hx3
     have HBD:=Aside0.mk (show (vsS (t.f3.take i) l2).length + cn29 x ≤ 4194304 by
      have h1_:=vsS_len (t.f3.take i) l2
      have h2_:=hdV_len t l
      have h3_:=HLN.out
      have h4_:=HL2.out
      have h5_:=cns29_append (t.f3.take i) (t.f3.drop i)
      rw [List.take_append_drop,List.drop_eq_getElem_cons hlt',cns29,← HXI.out] at h5_
      rw [← h4_] at h2_
      have h6_:=cn29_eq t
      omega)
     go_wp2_with (first
      | ((with_reducible refine gate_dst (N := 6) rfl ?_); refine box_event ?hg6 (N := 6) ?hd6 (cs := #[.int .i64 0, .string (⟨#[]⟩ : ByteArray), .int .i64 0, .slice none 0 0]) (t := 29) ?hr6 ?_; (case hd6 => rfl); (case hg6 => rfl); (case hr6 => first | (go_simp; done) | (go_simp; rfl)); intro gk hg w5 hbox hb; have HG_gk := Aside0.mk (show wr.heap.size ≤ gk from Nat.le_of_eq hg.symm); have BK_gk := Aside0.mk hbox; have HR := Aside0.mk (Kd.R_mono (ok' := fun k_ => (P k_ ∨ u.heap.size ≤ k_) ∧ k_ ≠ gk) (Kd.R_below (Kd.R_bound HR0.out) hb) (fun k_ hk_ => ⟨hk_.1, fun e_ => by have := hk_.2.2.1; omega⟩)); clear HR0; have q_ := Aside0.mk (below_step HB.out hb); clear HB; have HB := q_; clear q_; have q_ := Aside0.mk (Kept.below HK.out hb); clear HK; have HK := q_; clear q_; have hx0_ := (hb.cell (World.block_lt_of_cell? wr _ hx0)).trans hx0; have hx1_ := (hb.cell (World.block_lt_of_cell? wr _ hx1)).trans hx1; have hx2_ := (hb.cell (World.block_lt_of_cell? wr _ hx2)).trans hx2; have hx3_ := (hb.cell (World.block_lt_of_cell? wr _ hx3)).trans hx3; clear hx0 hx1 hx2 hx3; have hz_gk_0 : w5.cell? ⟨gk, 0, none⟩ = some (.int .i64 0) := (blk_cell BK_gk.out 0).trans rfl; have fz_gk_0 := blk_frozen BK_gk.out 0; have hz_gk_1 : w5.cell? ⟨gk, 1, none⟩ = some (.string (⟨#[]⟩ : ByteArray)) := (blk_cell BK_gk.out 1).trans rfl; have fz_gk_1 := blk_frozen BK_gk.out 1; have hz_gk_2 : w5.cell? ⟨gk, 2, none⟩ = some (.int .i64 0) := (blk_cell BK_gk.out 2).trans rfl; have fz_gk_2 := blk_frozen BK_gk.out 2; have hz_gk_3 : w5.cell? ⟨gk, 3, none⟩ = some (.slice none 0 0) := (blk_cell BK_gk.out 3).trans rfl; have fz_gk_3 := blk_frozen BK_gk.out 3; clear hg hbox hb)
      | ((with_reducible refine gate_store (t := 29) (p := 6) rfl ?_); refine store_event (t := 29) (p := 6) (v := ?vo6) (w1 := ((((w5.setCell ⟨gk, 0, none⟩ (.int .i64 x.f0)).setCell ⟨gk, 1, none⟩ (.string x.f1)).setCell ⟨gk, 2, none⟩ (.int .i64 x.f2)).setCell ⟨gk, 3, none⟩ (.slice A3 x.f3.length c3))) ?hgs6 ?hos6 ?hns6 ?hrs6 ?_; (case hos6 => rfl); (case hgs6 => rfl); (case hns6 => rfl); (case hrs6 => first | (go_simp; done) | (go_simp; rfl)); intro w6 hw; subst hw; have HGU := Aside0.mk (show u.heap.size ≤ gk from Nat.le_trans HKU.out HG_gk.out); have HGW := Aside0.mk (show w.heap.size ≤ gk from Nat.le_trans HWU.out HGU.out); have BK6 := Aside0.mk (show ((((w5.setCell ⟨gk, 0, none⟩ (.int .i64 x.f0)).setCell ⟨gk, 1, none⟩ (.string x.f1)).setCell ⟨gk, 2, none⟩ (.int .i64 x.f2)).setCell ⟨gk, 3, none⟩ (.slice A3 x.f3.length c3)).heap[gk]? = some (.cells #[.int .i64 x.f0, .string x.f1, .int .i64 x.f2, .slice A3 x.f3.length c3] 29 (0, 0)) from by refine blk_put (cs := #[.int .i64 x.f0, .string x.f1, .int .i64 x.f2, .slice none 0 0]) ?_ 3 _ rfl; refine blk_put (cs := #[.int .i64 x.f0, .string x.f1, .int .i64 0, .slice none 0 0]) ?_ 2 _ rfl; refine blk_put (cs := #[.int .i64 x.f0, .string (⟨#[]⟩ : ByteArray), .int .i64 0, .slice none 0 0]) ?_ 1 _ rfl; refine blk_put (cs := #[.int .i64 0, .string (⟨#[]⟩ : ByteArray), .int .i64 0, .slice none 0 0]) ?_ 0 _ rfl; exact BK_gk.out); have nb_ := Aside0.mk (show Below w.heap.size w ((((w5.setCell ⟨gk, 0, none⟩ (.int .i64 x.f0)).setCell ⟨gk, 1, none⟩ (.string x.f1)).setCell ⟨gk, 2, none⟩ (.int .i64 x.f2)).setCell ⟨gk, 3, none⟩ (.slice A3 x.f3.length c3)) from (below_set (below_set (below_set (below_set HB.out HGW.out) HGW.out) HGW.out) HGW.out)); have nk_ := Aside0.mk (show Kept u ((((w5.setCell ⟨gk, 0, none⟩ (.int .i64 x.f0)).setCell ⟨gk, 1, none⟩ (.string x.f1)).setCell ⟨gk, 2, none⟩ (.int .i64 x.f2)).setCell ⟨gk, 3, none⟩ (.slice A3 x.f3.length c3)) P from (Kept.setCell (Kept.setCell (Kept.setCell (Kept.setCell HK.out (p := ⟨gk, 0, none⟩) (.inr HGU.out) _) (p := ⟨gk, 1, none⟩) (.inr HGU.out) _) (p := ⟨gk, 2, none⟩) (.inr HGU.out) _) (p := ⟨gk, 3, none⟩) (.inr HGU.out) _)); have nr_ := Aside0.mk (show Kd.R (Kd.int .i64) 3 ((((w5.setCell ⟨gk, 0, none⟩ (.int .i64 x.f0)).setCell ⟨gk, 1, none⟩ (.string x.f1)).setCell ⟨gk, 2, none⟩ (.int .i64 x.f2)).setCell ⟨gk, 3, none⟩ (.slice A3 x.f3.length c3)) w.heap.size (fun k_ => (P k_ ∨ u.heap.size ≤ k_) ∧ k_ ≠ gk) (.slice A1 n1 c1) (vsS (t.f3.take i) l2) from (Kd.R_far (p := ⟨gk, 3, none⟩) (Kd.R_far (p := ⟨gk, 2, none⟩) (Kd.R_far (p := ⟨gk, 1, none⟩) (Kd.R_far (p := ⟨gk, 0, none⟩) HR.out (fun k_ hk_ => hk_.2) _) (fun k_ hk_ => hk_.2) _) (fun k_ hk_ => hk_.2) _) (fun k_ hk_ => hk_.2) _)); clear HB HK HR BK_gk hz_gk_0 hz_gk_1 hz_gk_2 hz_gk_3 fz_gk_0 fz_gk_1 fz_gk_2 fz_gk_3; have HB := nb_; have HK := nk_; have HR := nr_; clear nb_ nk_ nr_; generalize ((((w5.setCell ⟨gk, 0, none⟩ (.int .i64 x.f0)).setCell ⟨gk, 1, none⟩ (.string x.f1)).setCell ⟨gk, 2, none⟩ (.int .i64 x.f2)).setCell ⟨gk, 3, none⟩ (.slice A3 x.f3.length c3)) = w7 at HB HK HR BK6 ⊢; have hy0 : w7.cell? ⟨gk, 0, none⟩ = some (.int .i64 x.f0) := (blk_cell BK6.out 0).trans rfl; have hy1 : w7.cell? ⟨gk, 1, none⟩ = some (.string x.f1) := (blk_cell BK6.out 1).trans rfl; have hy2 : w7.cell? ⟨gk, 2, none⟩ = some (.int .i64 x.f2) := (blk_cell BK6.out 2).trans rfl; have hy3 : w7.cell? ⟨gk, 3, none⟩ = some (.slice A3 x.f3.length c3) := (blk_cell BK6.out 3).trans rfl)
      | (go_at_call 78; refine (IH.out x HX.out (vsS (t.f3.take i) l2) (.slice A1 n1 c1) A3 c3 w w7 (fun k_ => P k_ ∨ u.heap.size ≤ k_) HBD.out HCX.out HLX.out HB.out (Kd.R_mono HR.out (fun k_ hk_ => hk_.1))).mono ?_; rintro e w8 ⟨v9, rfl, ho, hb, hk⟩))
     go_roundg (t.f3.length - (i + 1))
     case measure => have:=hi.out;omega
     case rel => exact ⟨i + 1,by go_num,⟨by have:=hi.out;omega⟩,⟨by rw [HNX.out];exact Kd.R_mono ho (fun k_ hk_ => hk_.elim (fun z => z) (fun z => .inr (Nat.le_trans HK.out.1 z)))⟩,⟨hb⟩,⟨HK.out.then_ hk (fun k_ hk_ => hk_)⟩⟩
    ·have c3b0 : decide ((i : Int) < (t.f3.length : Int)) = false:=decide_eq_false hlt
     have c3b1 : decide (i < t.f3.length) = false:=decide_eq_false (by omega)
     have hie : t.f3.take i = t.f3:=List.take_of_length_le (by omega)
     have HR2:=HR0.out
     rw [hie] at HR2
     have HRZ:=Aside0.mk HR2
     clear HR2 hie
     go_wp2
     go_ret
     exact ⟨_,rfl,by rw [vsT_eq,← HL2.out];exact Kd.R_mono HRZ.out (fun k_ hk_ => hk_),HB.out,HK.out⟩
  | false =>
   rw [c2] at HCN0
   have HCN:=Aside0.mk HCN0
   clear HCN0
   go_enter Try.func78,Try.ntmps78
   go_wp2_with (first
    | ((with_reducible refine gate_dst (N := 3) rfl ?_); refine box_event ?hg3 (N := 3) ?hd3 (cs := #[.int .i64 t.f0, .string t.f1, .int .i64 t.f2, .slice A t.f3.length c]) (t := 29) ?hr3 ?_; (case hd3 => rfl); (case hg3 => rfl); (case hr3 => first | (go_simp; done) | (go_simp; rfl)); intro ga hg w1 hbox hb; have HG_ga := Aside0.mk (show u.heap.size ≤ ga from Nat.le_of_eq hg.symm); have BK_ga := Aside0.mk hbox; have HLT_ga := Aside0.mk (blk_lt hbox); have HR := Aside0.mk (show Kd.R (Kd.int .i64) 3 w1 w.heap.size (fun k_ => (P k_ ∨ u.heap.size ≤ k_) ∧ k_ ≠ ga) (.slice A0 l.length c0) (l) from Kd.R_mono (Kd.R_below (Kd.R_bound HR0.out) hb) (fun k_ hk_ => ⟨hk_.1, fun e_ => by have := hk_.2.2.1; omega⟩)); clear HR0; have q_ := Aside0.mk (below_step HB.out hb); clear HB; have HB := q_; clear q_; have q_ := Aside0.mk (Kept.below HK.out hb); clear HK; have HK := q_; clear q_; have hc_ga_0 : w1.cell? ⟨ga, 0, none⟩ = some (.int .i64 t.f0) := (blk_cell BK_ga.out 0).trans rfl; have hc_ga_1 : w1.cell? ⟨ga, 1, none⟩ = some (.string t.f1) := (blk_cell BK_ga.out 1).trans rfl; have hc_ga_2 : w1.cell? ⟨ga, 2, none⟩ = some (.int .i64 t.f2) := (blk_cell BK_ga.out 2).trans rfl; have hc_ga_3 : w1.cell? ⟨ga, 3, none⟩ = some (.slice A t.f3.length c) := (blk_cell BK_ga.out 3).trans rfl; clear hg hbox hb)
    | (go_at_call 109; refine (slices_Contains_int_int.calls (l.length + 1) A0 c0 l t.f2 false _ (readI HR.out).2 (readI HR.out).1 HCN.out).mono ?_; rintro e w2 ⟨rfl, hd⟩; have hb := hd.below; have q_ := Aside0.mk (blk_below BK_ga.out hb); clear BK_ga; have BK_ga := q_; clear q_; have q_ := Aside0.mk (Kd.R_below HR.out hb); clear HR; have HR := q_; clear q_; have q_ := Aside0.mk (below_step HB.out hb); clear HB; have HB := q_; clear q_; have q_ := Aside0.mk (Kept.below HK.out hb); clear HK; have HK := q_; clear q_; have q_ := Aside0.mk (Nat.lt_of_lt_of_le HLT_ga.out hb.size); clear HLT_ga; have HLT_ga := q_; clear q_; have he_ga_0 : w2.cell? ⟨ga, 0, none⟩ = some (.int .i64 t.f0) := (blk_cell BK_ga.out 0).trans rfl; have he_ga_1 : w2.cell? ⟨ga, 1, none⟩ = some (.string t.f1) := (blk_cell BK_ga.out 1).trans rfl; have he_ga_2 : w2.cell? ⟨ga, 2, none⟩ = some (.int .i64 t.f2) := (blk_cell BK_ga.out 2).trans rfl; have he_ga_3 : w2.cell? ⟨ga, 3, none⟩ = some (.slice A t.f3.length c) := (blk_cell BK_ga.out 3).trans rfl; clear hb hd)
    | ((with_reducible refine gate_builtin (b := .append) (xs := #[.tmp 17, .tmp 20]) rfl ?_); at_builtin; refine Kd.R_append (Kd.int .i64) (w0 := w) w.heap.size rfl (.tmp 17) (.tmp 20) 44 3 (.int .i64 0) 8 rfl Try.underlying44 info3 rfl (by decide) (by omega) (.slice A0 l.length c0) l t.f2 [.int .i64 t.f2] (fun k_ => (P k_ ∨ u.heap.size ≤ k_) ∧ k_ ≠ ga) (fun _ => False) rfl rfl ?aP (fun _ hk => hk.elim) ?aF ?aO ?aB ?aS ?aL ?_; (case aP => exact rfl); (case aB => exact HB.out); (case aF => exact (fun k_ hk_ => ⟨.inr (Nat.le_trans HK.out.1 hk_), fun e_ => by have := HLT_ga.out; omega⟩)); (case aO => exact HR.out); (case aS => exact (below_size HB.out)); (case aL => have := HLN.out; omega); intro v5 w3 ho hbl hg hat; have q_ := Aside0.mk (blk_grown BK_ga.out hg (fun e_ => (HR.out.1 ga e_.symm).2 rfl)); clear BK_ga; have BK_ga := q_; clear q_; have q_ := Aside0.mk (Kept.of_grown hg HK.out (fun k_ hk_ => (HR.out.1 k_ hk_).1)); clear HK; have HK := q_; clear q_; clear HB HR; have HB := Aside0.mk hbl; have HR := Aside0.mk ho; have hh_ga_0 : w3.cell? ⟨ga, 0, none⟩ = some (.int .i64 t.f0) := (blk_cell BK_ga.out 0).trans rfl; have hh_ga_1 : w3.cell? ⟨ga, 1, none⟩ = some (.string t.f1) := (blk_cell BK_ga.out 1).trans rfl; have hh_ga_2 : w3.cell? ⟨ga, 2, none⟩ = some (.int .i64 t.f2) := (blk_cell BK_ga.out 2).trans rfl; have hh_ga_3 : w3.cell? ⟨ga, 3, none⟩ = some (.slice A t.f3.length c) := (blk_cell BK_ga.out 3).trans rfl; clear ho hbl hg hat))
   obtain ⟨l2,hl2⟩ : ∃ l2,l2 = l ++ [t.f2]:=⟨_,rfl⟩
   have HL2:=Aside0.mk (show l2 = hdV t l by rw [hl2];unfold hdV;rw [if_pos ⟨c1,c2⟩])
   have HR1:=Aside0.mk (show Kd.R (Kd.int .i64) 3 _ w.heap.size (fun k_ => P k_ ∨ u.heap.size ≤ k_) _ (l2) from by rw [hl2];exact Kd.R_mono HR.out (fun k_ hk_ => hk_.1))
   clear HR hl2
   go_loopg [0,25] t.f3.length (fun m v0 vi u' => ∃ i : Nat,vi = .int .i64 i ∧ Aside0 (m + i = t.f3.length) ∧ Aside0 (Kd.R (Kd.int .i64) 3 u' w.heap.size (fun k_ => P k_ ∨ u.heap.size ≤ k_) v0 (vsS (t.f3.take i) l2)) ∧ Aside0 (Below w.heap.size w u') ∧ Aside0 (Kept u u' P))
   case atStart => exact ⟨0,rfl,⟨by omega⟩,⟨by simpa [vsS] using HR1.out⟩,HB,HK⟩
   case round =>
    clear HR1 HB HK BK_ga
    obtain ⟨i,rfl,hi,HR0,HB,HK⟩:=hrel
    obtain ⟨A1,c1,hv1⟩:=Kd.R_slice HR0.out
    obtain ⟨n1,hn1⟩ : ∃ n1,n1 = (vsS (t.f3.take i) l2).length:=⟨_,rfl⟩
    rw [← hn1] at hv1
    subst hv1
    have HN1:=Aside0.mk hn1
    clear hn1
    by_cases hlt : (i : Int) < (t.f3.length : Int)
    ·have c3b0 : decide ((i : Int) < (t.f3.length : Int)) = true:=decide_eq_true hlt
     have hlt' : i < t.f3.length:=by omega
     have c3b1 : decide (i < t.f3.length) = true:=decide_eq_true hlt'
     obtain ⟨ad,A3,c3,e1,hx0,hx1,hx2,hx3,hl3,hi3⟩:=at_T29 HC.out (i : Int) (by omega) hlt
     cases e1
     obtain ⟨x,hx⟩ : ∃ x,x = t.f3[i]:=⟨_,rfl⟩
     have hrd : rd_T29 t.f3 (i : Int) = x:=by rw [hx];exact rd29_at t.f3 i hlt'
     rw [hrd] at hx0 hx1 hx2 hx3 hl3 hi3
     have HX:=Aside0.mk (show x ∈ t.f3 by rw [hx];exact List.getElem_mem hlt')
     have HXI:=Aside0.mk hx
     have HNX:=Aside0.mk (show vsS (t.f3.take (i + 1)) l2 = vsT x (vsS (t.f3.take i) l2) by rw [hx];exact vsS_take t.f3 i hlt' l2)
     have HCX:=Aside0.mk hi3
     have HLX:=Aside0.mk hl3
     clear hi3 hl3 hrd hx
     have HKU:=Aside0.mk HK.out.1
     replace hx0:=(HB.out.cell (World.block_lt_of_cell? w _ hx0)).trans hx0
     replace hx1:=(HB.out.cell (World.block_lt_of_cell? w _ hx1)).trans hx1
     replace hx2:=(HB.out.cell (World.block_lt_of_cell? w _ hx2)).trans hx2
     replace hx3:=(HB.out.cell (World.block_lt_of_cell? w _ hx3)).trans hx3
     simp only [Int.toNat_natCast] at hx0 hx1 hx2 hx3
     have HBD:=Aside0.mk (show (vsS (t.f3.take i) l2).length + cn29 x ≤ 4194304 by
      have h1_:=vsS_len (t.f3.take i) l2
      have h2_:=hdV_len t l
      have h3_:=HLN.out
      have h4_:=HL2.out
      have h5_:=cns29_append (t.f3.take i) (t.f3.drop i)
      rw [List.take_append_drop,List.drop_eq_getElem_cons hlt',cns29,← HXI.out] at h5_
      rw [← h4_] at h2_
      have h6_:=cn29_eq t
      omega)
     go_wp2_with (first
      | ((with_reducible refine gate_dst (N := 6) rfl ?_); refine box_event ?hg6 (N := 6) ?hd6 (cs := #[.int .i64 0, .string (⟨#[]⟩ : ByteArray), .int .i64 0, .slice none 0 0]) (t := 29) ?hr6 ?_; (case hd6 => rfl); (case hg6 => rfl); (case hr6 => first | (go_simp; done) | (go_simp; rfl)); intro gk hg w5 hbox hb; have HG_gk := Aside0.mk (show wr.heap.size ≤ gk from Nat.le_of_eq hg.symm); have BK_gk := Aside0.mk hbox; have HR := Aside0.mk (Kd.R_mono (ok' := fun k_ => (P k_ ∨ u.heap.size ≤ k_) ∧ k_ ≠ gk) (Kd.R_below (Kd.R_bound HR0.out) hb) (fun k_ hk_ => ⟨hk_.1, fun e_ => by have := hk_.2.2.1; omega⟩)); clear HR0; have q_ := Aside0.mk (below_step HB.out hb); clear HB; have HB := q_; clear q_; have q_ := Aside0.mk (Kept.below HK.out hb); clear HK; have HK := q_; clear q_; have hx0_ := (hb.cell (World.block_lt_of_cell? wr _ hx0)).trans hx0; have hx1_ := (hb.cell (World.block_lt_of_cell? wr _ hx1)).trans hx1; have hx2_ := (hb.cell (World.block_lt_of_cell? wr _ hx2)).trans hx2; have hx3_ := (hb.cell (World.block_lt_of_cell? wr _ hx3)).trans hx3; clear hx0 hx1 hx2 hx3; have hz_gk_0 : w5.cell? ⟨gk, 0, none⟩ = some (.int .i64 0) := (blk_cell BK_gk.out 0).trans rfl; have fz_gk_0 := blk_frozen BK_gk.out 0; have hz_gk_1 : w5.cell? ⟨gk, 1, none⟩ = some (.string (⟨#[]⟩ : ByteArray)) := (blk_cell BK_gk.out 1).trans rfl; have fz_gk_1 := blk_frozen BK_gk.out 1; have hz_gk_2 : w5.cell? ⟨gk, 2, none⟩ = some (.int .i64 0) := (blk_cell BK_gk.out 2).trans rfl; have fz_gk_2 := blk_frozen BK_gk.out 2; have hz_gk_3 : w5.cell? ⟨gk, 3, none⟩ = some (.slice none 0 0) := (blk_cell BK_gk.out 3).trans rfl; have fz_gk_3 := blk_frozen BK_gk.out 3; clear hg hbox hb)
      | ((with_reducible refine gate_store (t := 29) (p := 6) rfl ?_); refine store_event (t := 29) (p := 6) (v := ?vo6) (w1 := ((((w5.setCell ⟨gk, 0, none⟩ (.int .i64 x.f0)).setCell ⟨gk, 1, none⟩ (.string x.f1)).setCell ⟨gk, 2, none⟩ (.int .i64 x.f2)).setCell ⟨gk, 3, none⟩ (.slice A3 x.f3.length c3))) ?hgs6 ?hos6 ?hns6 ?hrs6 ?_; (case hos6 => rfl); (case hgs6 => rfl); (case hns6 => rfl); (case hrs6 => first | (go_simp; done) | (go_simp; rfl)); intro w6 hw; subst hw; have HGU := Aside0.mk (show u.heap.size ≤ gk from Nat.le_trans HKU.out HG_gk.out); have HGW := Aside0.mk (show w.heap.size ≤ gk from Nat.le_trans HWU.out HGU.out); have BK6 := Aside0.mk (show ((((w5.setCell ⟨gk, 0, none⟩ (.int .i64 x.f0)).setCell ⟨gk, 1, none⟩ (.string x.f1)).setCell ⟨gk, 2, none⟩ (.int .i64 x.f2)).setCell ⟨gk, 3, none⟩ (.slice A3 x.f3.length c3)).heap[gk]? = some (.cells #[.int .i64 x.f0, .string x.f1, .int .i64 x.f2, .slice A3 x.f3.length c3] 29 (0, 0)) from by refine blk_put (cs := #[.int .i64 x.f0, .string x.f1, .int .i64 x.f2, .slice none 0 0]) ?_ 3 _ rfl; refine blk_put (cs := #[.int .i64 x.f0, .string x.f1, .int .i64 0, .slice none 0 0]) ?_ 2 _ rfl; refine blk_put (cs := #[.int .i64 x.f0, .string (⟨#[]⟩ : ByteArray), .int .i64 0, .slice none 0 0]) ?_ 1 _ rfl; refine blk_put (cs := #[.int .i64 0, .string (⟨#[]⟩ : ByteArray), .int .i64 0, .slice none 0 0]) ?_ 0 _ rfl; exact BK_gk.out); have nb_ := Aside0.mk (show Below w.heap.size w ((((w5.setCell ⟨gk, 0, none⟩ (.int .i64 x.f0)).setCell ⟨gk, 1, none⟩ (.string x.f1)).setCell ⟨gk, 2, none⟩ (.int .i64 x.f2)).setCell ⟨gk, 3, none⟩ (.slice A3 x.f3.length c3)) from (below_set (below_set (below_set (below_set HB.out HGW.out) HGW.out) HGW.out) HGW.out)); have nk_ := Aside0.mk (show Kept u ((((w5.setCell ⟨gk, 0, none⟩ (.int .i64 x.f0)).setCell ⟨gk, 1, none⟩ (.string x.f1)).setCell ⟨gk, 2, none⟩ (.int .i64 x.f2)).setCell ⟨gk, 3, none⟩ (.slice A3 x.f3.length c3)) P from (Kept.setCell (Kept.setCell (Kept.setCell (Kept.setCell HK.out (p := ⟨gk, 0, none⟩) (.inr HGU.out) _) (p := ⟨gk, 1, none⟩) (.inr HGU.out) _) (p := ⟨gk, 2, none⟩) (.inr HGU.out) _) (p := ⟨gk, 3, none⟩) (.inr HGU.out) _)); have nr_ := Aside0.mk (show Kd.R (Kd.int .i64) 3 ((((w5.setCell ⟨gk, 0, none⟩ (.int .i64 x.f0)).setCell ⟨gk, 1, none⟩ (.string x.f1)).setCell ⟨gk, 2, none⟩ (.int .i64 x.f2)).setCell ⟨gk, 3, none⟩ (.slice A3 x.f3.length c3)) w.heap.size (fun k_ => (P k_ ∨ u.heap.size ≤ k_) ∧ k_ ≠ gk) (.slice A1 n1 c1) (vsS (t.f3.take i) l2) from (Kd.R_far (p := ⟨gk, 3, none⟩) (Kd.R_far (p := ⟨gk, 2, none⟩) (Kd.R_far (p := ⟨gk, 1, none⟩) (Kd.R_far (p := ⟨gk, 0, none⟩) HR.out (fun k_ hk_ => hk_.2) _) (fun k_ hk_ => hk_.2) _) (fun k_ hk_ => hk_.2) _) (fun k_ hk_ => hk_.2) _)); clear HB HK HR BK_gk hz_gk_0 hz_gk_1 hz_gk_2 hz_gk_3 fz_gk_0 fz_gk_1 fz_gk_2 fz_gk_3; have HB := nb_; have HK := nk_; have HR := nr_; clear nb_ nk_ nr_; generalize ((((w5.setCell ⟨gk, 0, none⟩ (.int .i64 x.f0)).setCell ⟨gk, 1, none⟩ (.string x.f1)).setCell ⟨gk, 2, none⟩ (.int .i64 x.f2)).setCell ⟨gk, 3, none⟩ (.slice A3 x.f3.length c3)) = w7 at HB HK HR BK6 ⊢; have hy0 : w7.cell? ⟨gk, 0, none⟩ = some (.int .i64 x.f0) := (blk_cell BK6.out 0).trans rfl; have hy1 : w7.cell? ⟨gk, 1, none⟩ = some (.string x.f1) := (blk_cell BK6.out 1).trans rfl; have hy2 : w7.cell? ⟨gk, 2, none⟩ = some (.int .i64 x.f2) := (blk_cell BK6.out 2).trans rfl; have hy3 : w7.cell? ⟨gk, 3, none⟩ = some (.slice A3 x.f3.length c3) := (blk_cell BK6.out 3).trans rfl)
      | (go_at_call 78; refine (IH.out x HX.out (vsS (t.f3.take i) l2) (.slice A1 n1 c1) A3 c3 w w7 (fun k_ => P k_ ∨ u.heap.size ≤ k_) HBD.out HCX.out HLX.out HB.out (Kd.R_mono HR.out (fun k_ hk_ => hk_.1))).mono ?_; rintro e w8 ⟨v9, rfl, ho, hb, hk⟩))
     go_roundg (t.f3.length - (i + 1))
     case measure => have:=hi.out;omega
     case rel => exact ⟨i + 1,by go_num,⟨by have:=hi.out;omega⟩,⟨by rw [HNX.out];exact Kd.R_mono ho (fun k_ hk_ => hk_.elim (fun z => z) (fun z => .inr (Nat.le_trans HK.out.1 z)))⟩,⟨hb⟩,⟨HK.out.then_ hk (fun k_ hk_ => hk_)⟩⟩
    ·have c3b0 : decide ((i : Int) < (t.f3.length : Int)) = false:=decide_eq_false hlt
     have c3b1 : decide (i < t.f3.length) = false:=decide_eq_false (by omega)
     have hie : t.f3.take i = t.f3:=List.take_of_length_le (by omega)
     have HR2:=HR0.out
     rw [hie] at HR2
     have HRZ:=Aside0.mk HR2
     clear HR2 hie
     go_wp2
     go_ret
     exact ⟨_,rfl,by rw [vsT_eq,← HL2.out];exact Kd.R_mono HRZ.out (fun k_ hk_ => hk_),HB.out,HK.out⟩
 ·have d1 : (t.f0 == 1) = false:=beq_eq_false_iff_ne.2 c1
  have d2 : decide (t.f0 = 1) = false:=decide_eq_false c1
  clear HCN0
  go_enter Try.func78,Try.ntmps78
  go_wp2_with (((with_reducible refine gate_dst (N:=3) rfl ?_);refine box_event ?hg3 (N:=3) ?hd3 (cs:=#[.int .i64 t.f0,.string t.f1,.int .i64 t.f2,.slice A t.f3.length c]) (t:=29) ?hr3 ?_;(case hd3 => rfl);(case hg3 => rfl);(case hr3 => first|(go_simp;done)|(go_simp;rfl));intro ga hg w1 hbox hb;have HG_ga:=Aside0.mk (show u.heap.size ≤ ga from Nat.le_of_eq hg.symm);have BK_ga:=Aside0.mk hbox;have HLT_ga:=Aside0.mk (blk_lt hbox);have HR:=Aside0.mk (show Kd.R (Kd.int .i64) 3 w1 w.heap.size (fun k_ => (P k_ ∨ u.heap.size ≤ k_) ∧ k_ ≠ ga) (.slice A0 l.length c0) (l) from Kd.R_mono (Kd.R_below (Kd.R_bound HR0.out) hb) (fun k_ hk_ => ⟨hk_.1,fun e_ => by have:=hk_.2.2.1;omega⟩));clear HR0;have q_:=Aside0.mk (below_step HB.out hb);clear HB;have HB:=q_;clear q_;have q_:=Aside0.mk (Kept.below HK.out hb);clear HK;have HK:=q_;clear q_;have hc_ga_0 : w1.cell? ⟨ga,0,none⟩ = some (.int .i64 t.f0):=(blk_cell BK_ga.out 0).trans rfl;have hc_ga_1 : w1.cell? ⟨ga,1,none⟩ = some (.string t.f1):=(blk_cell BK_ga.out 1).trans rfl;have hc_ga_2 : w1.cell? ⟨ga,2,none⟩ = some (.int .i64 t.f2):=(blk_cell BK_ga.out 2).trans rfl;have hc_ga_3 : w1.cell? ⟨ga,3,none⟩ = some (.slice A t.f3.length c):=(blk_cell BK_ga.out 3).trans rfl;clear hg hbox hb))
  obtain ⟨l2,hl2⟩ : ∃ l2,l2 = l:=⟨_,rfl⟩
  have HL2:=Aside0.mk (show l2 = hdV t l by rw [hl2];unfold hdV;rw [if_neg (fun z => by exact c1 z.1)])
  have HR1:=Aside0.mk (show Kd.R (Kd.int .i64) 3 _ w.heap.size (fun k_ => P k_ ∨ u.heap.size ≤ k_) _ (l2) from by rw [hl2];exact Kd.R_mono HR.out (fun k_ hk_ => hk_.1))
  clear HR hl2
  go_loopg [0,25] t.f3.length (fun m v0 vi u' => ∃ i : Nat,vi = .int .i64 i ∧ Aside0 (m + i = t.f3.length) ∧ Aside0 (Kd.R (Kd.int .i64) 3 u' w.heap.size (fun k_ => P k_ ∨ u.heap.size ≤ k_) v0 (vsS (t.f3.take i) l2)) ∧ Aside0 (Below w.heap.size w u') ∧ Aside0 (Kept u u' P))
  case atStart => exact ⟨0,rfl,⟨by omega⟩,⟨by simpa [vsS] using HR1.out⟩,HB,HK⟩
  case round =>
   clear HR1 HB HK BK_ga
   obtain ⟨i,rfl,hi,HR0,HB,HK⟩:=hrel
   obtain ⟨A1,c1,hv1⟩:=Kd.R_slice HR0.out
   obtain ⟨n1,hn1⟩ : ∃ n1,n1 = (vsS (t.f3.take i) l2).length:=⟨_,rfl⟩
   rw [← hn1] at hv1
   subst hv1
   have HN1:=Aside0.mk hn1
   clear hn1
   by_cases hlt : (i : Int) < (t.f3.length : Int)
   ·have c3b0 : decide ((i : Int) < (t.f3.length : Int)) = true:=decide_eq_true hlt
    have hlt' : i < t.f3.length:=by omega
    have c3b1 : decide (i < t.f3.length) = true:=decide_eq_true hlt'
    obtain ⟨ad,A3,c3,e1,hx0,hx1,hx2,hx3,hl3,hi3⟩:=at_T29 HC.out (i : Int) (by omega) hlt
    cases e1
    obtain ⟨x,hx⟩ : ∃ x,x = t.f3[i]:=⟨_,rfl⟩
    have hrd : rd_T29 t.f3 (i : Int) = x:=by rw [hx];exact rd29_at t.f3 i hlt'
    rw [hrd] at hx0 hx1 hx2 hx3 hl3 hi3
    have HX:=Aside0.mk (show x ∈ t.f3 by rw [hx];exact List.getElem_mem hlt')
    have HXI:=Aside0.mk hx
    have HNX:=Aside0.mk (show vsS (t.f3.take (i + 1)) l2 = vsT x (vsS (t.f3.take i) l2) by rw [hx];exact vsS_take t.f3 i hlt' l2)
    have HCX:=Aside0.mk hi3
    have HLX:=Aside0.mk hl3
    clear hi3 hl3 hrd hx
    have HKU:=Aside0.mk HK.out.1
    replace hx0:=(HB.out.cell (World.block_lt_of_cell? w _ hx0)).trans hx0
    replace hx1:=(HB.out.cell (World.block_lt_of_cell? w _ hx1)).trans hx1
    replace hx2:=(HB.out.cell (World.block_lt_of_cell? w _ hx2)).trans hx2
    replace hx3:=(HB.out.cell (World.block_lt_of_cell? w _ hx3)).trans hx3
    simp only [Int.toNat_natCast] at hx0 hx1 hx2 hx3
    have HBD:=Aside0.mk (show (vsS (t.f3.take i) l2).length + cn29 x ≤ 4194304 by
     have h1_:=vsS_len (t.f3.take i) l2
     have h2_:=hdV_len t l
     have h3_:=HLN.out
     have h4_:=HL2.out
     have h5_:=cns29_append (t.f3.take i) (t.f3.drop i)
     rw [List.take_append_drop,List.drop_eq_getElem_cons hlt',cns29,← HXI.out] at h5_
     rw [← h4_] at h2_
     have h6_:=cn29_eq t
     omega)
    go_wp2_with (first
     | ((with_reducible refine gate_dst (N := 6) rfl ?_); refine box_event ?hg6 (N := 6) ?hd6 (cs := #[.int .i64 0, .string (⟨#[]⟩ : ByteArray), .int .i64 0, .slice none 0 0]) (t := 29) ?hr6 ?_; (case hd6 => rfl); (case hg6 => rfl); (case hr6 => first | (go_simp; done) | (go_simp; rfl)); intro gk hg w5 hbox hb; have HG_gk := Aside0.mk (show wr.heap.size ≤ gk from Nat.le_of_eq hg.symm); have BK_gk := Aside0.mk hbox; have HR := Aside0.mk (Kd.R_mono (ok' := fun k_ => (P k_ ∨ u.heap.size ≤ k_) ∧ k_ ≠ gk) (Kd.R_below (Kd.R_bound HR0.out) hb) (fun k_ hk_ => ⟨hk_.1, fun e_ => by have := hk_.2.2.1; omega⟩)); clear HR0; have q_ := Aside0.mk (below_step HB.out hb); clear HB; have HB := q_; clear q_; have q_ := Aside0.mk (Kept.below HK.out hb); clear HK; have HK := q_; clear q_; have hx0_ := (hb.cell (World.block_lt_of_cell? wr _ hx0)).trans hx0; have hx1_ := (hb.cell (World.block_lt_of_cell? wr _ hx1)).trans hx1; have hx2_ := (hb.cell (World.block_lt_of_cell? wr _ hx2)).trans hx2; have hx3_ := (hb.cell (World.block_lt_of_cell? wr _ hx3)).trans hx3; clear hx0 hx1 hx2 hx3; have hz_gk_0 : w5.cell? ⟨gk, 0, none⟩ = some (.int .i64 0) := (blk_cell BK_gk.out 0).trans rfl; have fz_gk_0 := blk_frozen BK_gk.out 0; have hz_gk_1 : w5.cell? ⟨gk, 1, none⟩ = some (.string (⟨#[]⟩ : ByteArray)) := (blk_cell BK_gk.out 1).trans rfl; have fz_gk_1 := blk_frozen BK_gk.out 1; have hz_gk_2 : w5.cell? ⟨gk, 2, none⟩ = some (.int .i64 0) := (blk_cell BK_gk.out 2).trans rfl; have fz_gk_2 := blk_frozen BK_gk.out 2; have hz_gk_3 : w5.cell? ⟨gk, 3, none⟩ = some (.slice none 0 0) := (blk_cell BK_gk.out 3).trans rfl; have fz_gk_3 := blk_frozen BK_gk.out 3; clear hg hbox hb)
     | ((with_reducible refine gate_store (t := 29) (p := 6) rfl ?_); refine store_event (t := 29) (p := 6) (v := ?vo6) (w1 := ((((w5.setCell ⟨gk, 0, none⟩ (.int .i64 x.f0)).setCell ⟨gk, 1, none⟩ (.string x.f1)).setCell ⟨gk, 2, none⟩ (.int .i64 x.f2)).setCell ⟨gk, 3, none⟩ (.slice A3 x.f3.length c3))) ?hgs6 ?hos6 ?hns6 ?hrs6 ?_; (case hos6 => rfl); (case hgs6 => rfl); (case hns6 => rfl); (case hrs6 => first | (go_simp; done) | (go_simp; rfl)); intro w6 hw; subst hw; have HGU := Aside0.mk (show u.heap.size ≤ gk from Nat.le_trans HKU.out HG_gk.out); have HGW := Aside0.mk (show w.heap.size ≤ gk from Nat.le_trans HWU.out HGU.out); have BK6 := Aside0.mk (show ((((w5.setCell ⟨gk, 0, none⟩ (.int .i64 x.f0)).setCell ⟨gk, 1, none⟩ (.string x.f1)).setCell ⟨gk, 2, none⟩ (.int .i64 x.f2)).setCell ⟨gk, 3, none⟩ (.slice A3 x.f3.length c3)).heap[gk]? = some (.cells #[.int .i64 x.f0, .string x.f1, .int .i64 x.f2, .slice A3 x.f3.length c3] 29 (0, 0)) from by refine blk_put (cs := #[.int .i64 x.f0, .string x.f1, .int .i64 x.f2, .slice none 0 0]) ?_ 3 _ rfl; refine blk_put (cs := #[.int .i64 x.f0, .string x.f1, .int .i64 0, .slice none 0 0]) ?_ 2 _ rfl; refine blk_put (cs := #[.int .i64 x.f0, .string (⟨#[]⟩ : ByteArray), .int .i64 0, .slice none 0 0]) ?_ 1 _ rfl; refine blk_put (cs := #[.int .i64 0, .string (⟨#[]⟩ : ByteArray), .int .i64 0, .slice none 0 0]) ?_ 0 _ rfl; exact BK_gk.out); have nb_ := Aside0.mk (show Below w.heap.size w ((((w5.setCell ⟨gk, 0, none⟩ (.int .i64 x.f0)).setCell ⟨gk, 1, none⟩ (.string x.f1)).setCell ⟨gk, 2, none⟩ (.int .i64 x.f2)).setCell ⟨gk, 3, none⟩ (.slice A3 x.f3.length c3)) from (below_set (below_set (below_set (below_set HB.out HGW.out) HGW.out) HGW.out) HGW.out)); have nk_ := Aside0.mk (show Kept u ((((w5.setCell ⟨gk, 0, none⟩ (.int .i64 x.f0)).setCell ⟨gk, 1, none⟩ (.string x.f1)).setCell ⟨gk, 2, none⟩ (.int .i64 x.f2)).setCell ⟨gk, 3, none⟩ (.slice A3 x.f3.length c3)) P from (Kept.setCell (Kept.setCell (Kept.setCell (Kept.setCell HK.out (p := ⟨gk, 0, none⟩) (.inr HGU.out) _) (p := ⟨gk, 1, none⟩) (.inr HGU.out) _) (p := ⟨gk, 2, none⟩) (.inr HGU.out) _) (p := ⟨gk, 3, none⟩) (.inr HGU.out) _)); have nr_ := Aside0.mk (show Kd.R (Kd.int .i64) 3 ((((w5.setCell ⟨gk, 0, none⟩ (.int .i64 x.f0)).setCell ⟨gk, 1, none⟩ (.string x.f1)).setCell ⟨gk, 2, none⟩ (.int .i64 x.f2)).setCell ⟨gk, 3, none⟩ (.slice A3 x.f3.length c3)) w.heap.size (fun k_ => (P k_ ∨ u.heap.size ≤ k_) ∧ k_ ≠ gk) (.slice A1 n1 c1) (vsS (t.f3.take i) l2) from (Kd.R_far (p := ⟨gk, 3, none⟩) (Kd.R_far (p := ⟨gk, 2, none⟩) (Kd.R_far (p := ⟨gk, 1, none⟩) (Kd.R_far (p := ⟨gk, 0, none⟩) HR.out (fun k_ hk_ => hk_.2) _) (fun k_ hk_ => hk_.2) _) (fun k_ hk_ => hk_.2) _) (fun k_ hk_ => hk_.2) _)); clear HB HK HR BK_gk hz_gk_0 hz_gk_1 hz_gk_2 hz_gk_3 fz_gk_0 fz_gk_1 fz_gk_2 fz_gk_3; have HB := nb_; have HK := nk_; have HR := nr_; clear nb_ nk_ nr_; generalize ((((w5.setCell ⟨gk, 0, none⟩ (.int .i64 x.f0)).setCell ⟨gk, 1, none⟩ (.string x.f1)).setCell ⟨gk, 2, none⟩ (.int .i64 x.f2)).setCell ⟨gk, 3, none⟩ (.slice A3 x.f3.length c3)) = w7 at HB HK HR BK6 ⊢; have hy0 : w7.cell? ⟨gk, 0, none⟩ = some (.int .i64 x.f0) := (blk_cell BK6.out 0).trans rfl; have hy1 : w7.cell? ⟨gk, 1, none⟩ = some (.string x.f1) := (blk_cell BK6.out 1).trans rfl; have hy2 : w7.cell? ⟨gk, 2, none⟩ = some (.int .i64 x.f2) := (blk_cell BK6.out 2).trans rfl; have hy3 : w7.cell? ⟨gk, 3, none⟩ = some (.slice A3 x.f3.length c3) := (blk_cell BK6.out 3).trans rfl)
     | (go_at_call 78; refine (IH.out x HX.out (vsS (t.f3.take i) l2) (.slice A1 n1 c1) A3 c3 w w7 (fun k_ => P k_ ∨ u.heap.size ≤ k_) HBD.out HCX.out HLX.out HB.out (Kd.R_mono HR.out (fun k_ hk_ => hk_.1))).mono ?_; rintro e w8 ⟨v9, rfl, ho, hb, hk⟩))
    go_roundg (t.f3.length - (i + 1))
    case measure => have:=hi.out;omega
    case rel => exact ⟨i + 1,by go_num,⟨by have:=hi.out;omega⟩,⟨by rw [HNX.out];exact Kd.R_mono ho (fun k_ hk_ => hk_.elim (fun z => z) (fun z => .inr (Nat.le_trans HK.out.1 z)))⟩,⟨hb⟩,⟨HK.out.then_ hk (fun k_ hk_ => hk_)⟩⟩
   ·have c3b0 : decide ((i : Int) < (t.f3.length : Int)) = false:=decide_eq_false hlt
    have c3b1 : decide (i < t.f3.length) = false:=decide_eq_false (by omega)
    have hie : t.f3.take i = t.f3:=List.take_of_length_le (by omega)
    have HR2:=HR0.out
    rw [hie] at HR2
    have HRZ:=Aside0.mk HR2
    clear HR2 hie
    go_wp2
    go_ret
    exact ⟨_,rfl,by rw [vsT_eq,← HL2.out];exact Kd.R_mono HRZ.out (fun k_ hk_ => hk_),HB.out,HK.out⟩
theorem add_all (n : Nat) : ∀ t,ht29 t ≤ n → AddT t:=by
 induction n with
 | zero => intro t h; rw [ht29_eq] at h; omega
 | succ n ih => intro t h; rw [ht29_eq] at h; exact add_step t (fun x hx => ih x (by have := hts29_mem hx; omega))
set_option maxHeartbeats 8000000 in
set_option maxRecDepth 100000 in
theorem varsof_calls (t : S29) (A : Option Addr) (c : Nat) (w : World) (hcn : cn29 t ≤ 4194304) (hC : Kd.C k29 w A t.f3.length t.f3) (hc : t.f3.length ≤ c) :
  Calls Try.prog 34 #[.agg #[.int .i64 t.f0,.string t.f1,.int .i64 t.f2,.slice A t.f3.length c]] w fun e w' => ∃ v,e = .returned v ∧ Kd.R (Kd.int .i64) 3 w' w.heap.size (fun _ => True) v (vsT t []) ∧ Below w.heap.size w w':=by
 have IH:=Aside0.mk (add_all (ht29 t) t (Nat.le_refl _))
 have HBD:=Aside0.mk (show ([] : List Int).length + cn29 t ≤ 4194304 by simpa using hcn)
 have HC:=Aside0.mk hC
 have HCC:=Aside0.mk hc
 have HB:=Aside0.mk (Below.refl w.heap.size w)
 clear hcn hC hc
 go_enter Try.func34,Try.ntmps34
 go_wp2_with (first
  | ((with_reducible refine gate_dst (N := 1) rfl ?_); refine box_event ?hg1 (N := 1) ?hd1 (cs := #[.int .i64 t.f0, .string t.f1, .int .i64 t.f2, .slice A t.f3.length c]) (t := 29) ?hr1 ?_; (case hd1 => rfl); (case hg1 => rfl); (case hr1 => first | (go_simp; done) | (go_simp; rfl)); intro ga hg w1 hbox hb; have HG_ga := Aside0.mk hg; have BK_ga := Aside0.mk hbox; have q_ := Aside0.mk (below_step HB.out hb); have HGE_ga := Aside0.mk (show w.heap.size ≤ ga by have := HB.out.size; omega); clear HB; have HB := q_; clear q_; have HLT_ga := Aside0.mk (blk_lt hbox); have hc_ga_0 : w1.cell? ⟨ga, 0, none⟩ = some (.int .i64 t.f0) := (blk_cell BK_ga.out 0).trans rfl; have hc_ga_1 : w1.cell? ⟨ga, 1, none⟩ = some (.string t.f1) := (blk_cell BK_ga.out 1).trans rfl; have hc_ga_2 : w1.cell? ⟨ga, 2, none⟩ = some (.int .i64 t.f2) := (blk_cell BK_ga.out 2).trans rfl; have hc_ga_3 : w1.cell? ⟨ga, 3, none⟩ = some (.slice A t.f3.length c) := (blk_cell BK_ga.out 3).trans rfl; clear hg hbox hb)
  | (go_at_call 78; refine (IH.out [] (.slice none 0 0) A c w _ (fun _ => False) HBD.out HC.out HCC.out HB.out (Kd.R_nil _ _ _ _ _)).mono ?_; rintro e w4 ⟨v4, rfl, ho, hb, _⟩))
 go_ret
 exact ⟨_,rfl,Kd.R_mono ho (fun _ _ => trivial),hb⟩
end
class ShBy where
 by_ : Int
 gq : Nat
def shF [ShBy] (_ : Nat) (a : Int) : Option Int:=some (wrap64 (a + ShBy.by_))
set_option maxRecDepth 100000 in
theorem shC [ShBy] (k : Nat) (a : Int) (r : Int) (w : World) (hq : w.cell? ⟨ShBy.gq,0,none⟩ = some (.int .i64 ShBy.by_)) (h : shF k a = some r) : Calls Try.prog 90 #[.int .i64 a,.pointer (some ⟨ShBy.gq,0,none⟩)] w fun e w' => e = .returned (.int .i64 r) ∧ Below w.heap.size w w':=by
 obtain rfl:=Option.some.inj h
 go_enter Try.func90,Try.ntmps90
 go_wp2
 go_ret
 exact ⟨rfl,Below.refl _ _⟩
section
variable [ShBy]
mutual
def sh_renamed.j0 : Nat → Int → Int → ByteArray → Int → List (S29) → Int → ByteArray → Int → Option (Int × ByteArray × Int × (List (S29)))
 | 0,_,_,_,_,_,_,_,_ => none
 | k + 1,x1,x245000,x245001,x245002,x245003,x247000,x247001,x247002 => sh_renamed.l0 k x1 x245003 (x245003.length : Int) 0 x247000 x247001 x247002 ([] : List (S29))
def sh_renamed.l0 : Nat → Int → List (S29) → Int → Int → Int → ByteArray → Int → List (S29) → Option (Int × ByteArray × Int × (List (S29)))
 | 0,_,_,_,_,_,_,_,_ => none
 | k + 1,x1,x19,x20,x21,x247000,x247001,x247002,x247003 => if x21 < x20 then (if 0 ≤ x21 then (if x21 < (x19.length : Int) then ((sh_renamed.f k ((rd_T29 x19 x21).f0) ((rd_T29 x19 x21).f1) ((rd_T29 x19 x21).f2) ((rd_T29 x19 x21).f3) x1).bind fun bt250 => (if x247003.length < 2513169434916 then (sh_renamed.l0 k x1 x19 x20 (wrap64 (x21 + 1)) x247000 x247001 x247002 (x247003 ++ [(⟨bt250.1,bt250.2.1,bt250.2.2.1,bt250.2.2.2⟩ : S29)])) else (none))) else (none)) else (none)) else (some (x247000,x247001,x247002,x247003))
def sh_renamed.f : Nat → Int → ByteArray → Int → List (S29) → Int → Option (Int × ByteArray × Int × (List (S29)))
 | 0,_,_,_,_,_ => none
 | k + 1,a0_0,a0_1,a0_2,l0_3,a1 => if a0_0 = 1 then ((shF k a0_2).bind fun t247 => (sh_renamed.j0 k a1 a0_0 a0_1 a0_2 l0_3 a0_0 a0_1 t247)) else (sh_renamed.j0 k a1 a0_0 a0_1 a0_2 l0_3 a0_0 a0_1 a0_2)
end
end
section
set_option linter.unusedSectionVars false
variable [fk_laws_szTerm] [fk_laws_toTerm] [fk_laws_eqTerm] [fk_spec_l34Term] [fk_impl_copyTerm_1]
variable [ShBy]
set_option maxHeartbeats 16000000 in
set_option maxRecDepth 100000 in
theorem sh_renamed.deep (k : Nat) : ∀ (a0_0 : Int) (a0_1 : ByteArray) (a0_2 : Int) (A0_3 : Option Addr) (c0_3 : Nat) (l0_3 : List (S29)) (a1 : Int) (r1 : Int) (r2 : ByteArray) (r3 : Int) (r4 : List (S29)) (w : World) (hq : w.cell? ⟨ShBy.gq,0,none⟩ = some (.int .i64 ShBy.by_)) (hr0_3 : Kd.C k29 w A0_3 l0_3.length l0_3) (hc0_3 : l0_3.length ≤ c0_3) (h : sh_renamed.f k a0_0 a0_1 a0_2 l0_3 a1 = some (r1,r2,r3,r4)),
  Calls Try.prog 89 #[.agg #[.int .i64 a0_0,.string a0_1,.int .i64 a0_2,.slice A0_3 l0_3.length c0_3],.func (.func 90) #[] #[.pointer (some ⟨ShBy.gq,0,none⟩)]] w fun e w' => ∃ v3_ : Value,e = .returned (.agg #[.int .i64 r1,.string r2,.int .i64 r3,v3_]) ∧ Kd.S kD29 29 w' w.heap.size (fun _ => True) v3_ r4 ∧ Below w.heap.size w w':=by
 induction k using Nat.strongRecOn with
 | _ k ih =>
 intro a0_0 a0_1 a0_2 A0_3 c0_3 l0_3 a1 r1 r2 r3 r4 w hq hr0_3 hc0_3 h
 cases k with
 | zero => exact absurd h (by simp [sh_renamed.f])
 | succ k =>
 simp only [sh_renamed.f] at h
 have hu29:=Try.underlying29
 have HR0_3:=Aside0.mk hr0_3
 have HC0_3:=Aside0.mk hc0_3
 clear hr0_3 hc0_3
 have HQ:=Aside0.mk hq
 have HQL:=Aside0.mk (World.block_lt_of_cell? w _ hq)
 clear hq
 have HB:=Aside0.mk (Below.refl w.heap.size w)
 have H : (if a0_0 = 1 then ((shF k a0_2).bind fun t242 => (sh_renamed.j0 k a1 a0_0 a0_1 a0_2 l0_3 a0_0 a0_1 t242)) else (sh_renamed.j0 k a1 a0_0 a0_1 a0_2 l0_3 a0_0 a0_1 a0_2)) = some (r1,r2,r3,r4):=h
 clear h
 have HC3:=Aside0.mk H
 clear H
 go_enter Try.func89,Try.ntmps89
 go_upto_if 12 with (first|((with_reducible refine gate_dst (N:=2) rfl ?_);refine box_event ?hg (N:=2) ?hd (cs:=#[.int .i64 a0_0,.string a0_1,.int .i64 a0_2,.slice A0_3 l0_3.length c0_3]) (t:=29) ?hr ?_;(case hd => rfl);(case hg => rfl);(case hr => first|(go_simp;done)|(go_simp;rfl));intro gb239 hg w4 hbox hb;have n0_:=Aside0.mk (below_step (by repeat (first|(with_reducible first|exact HB.out|apply below_alloc|apply pw_below_drewN|apply below_drew1)|exact HB.out)) hb);have n1_:=Aside0.mk (hbox);have n2_:=Aside0.mk ((by rw [hg];exact (below_size (by repeat (first|(with_reducible first|exact HB.out|apply below_alloc|apply pw_below_drewN|apply below_drew1)|exact HB.out))) : w.heap.size ≤ gb239));have n3_:=Aside0.mk ((by rw [hg];exact (below_size (by repeat (first|(with_reducible first|exact HB.out|apply below_alloc|apply pw_below_drewN|apply below_drew1)|exact HB.out))) : w.heap.size ≤ gb239));clear HB;have HB:=n0_;have BK239:=n1_;have GW239:=n2_;have GE239:=n3_;clear n0_ n1_ n2_ n3_;clear hb hbox hg)|((with_reducible refine gate_dst (N:=4) rfl ?_);refine box_event ?hg (N:=4) ?hd (cs:=#[.int .i64 0,.string (⟨#[]⟩ : ByteArray),.int .i64 0,.slice none 0 0]) (t:=29) ?hr ?_;(case hd => rfl);(case hg => rfl);(case hr => first|(go_simp;done)|(go_simp;rfl));intro gb240 hg w5 hbox hb;have n0_:=Aside0.mk (blk_below (g:=gb239) (o:=.cells #[.int .i64 a0_0,.string a0_1,.int .i64 a0_2,.slice A0_3 l0_3.length c0_3] 29 (0,0)) (by (with_reducible repeat (first|refine blk_drewN ?_ _|refine blk_drew ?_|refine blk_alloc ?_ _));exact BK239.out) hb);have n1_:=Aside0.mk (below_step (by repeat (first|(with_reducible first|exact HB.out|apply below_alloc|apply pw_below_drewN|apply below_drew1|refine below_set ?_ GE239.out)|exact HB.out)) hb);have n2_:=Aside0.mk (hbox);have n3_:=Aside0.mk ((by rw [hg];exact (below_size (by repeat (first|(with_reducible first|exact HB.out|apply below_alloc|apply pw_below_drewN|apply below_drew1|refine below_set ?_ GE239.out)|exact HB.out))) : w.heap.size ≤ gb240));have n4_:=Aside0.mk ((by rw [hg];exact (below_size (by repeat (first|(with_reducible first|exact HB.out|apply below_alloc|apply pw_below_drewN|apply below_drew1|refine below_set ?_ GE239.out)|exact HB.out))) : w.heap.size ≤ gb240));have n5_:=Aside0.mk ((by rw [hg];exact Nat.ne_of_lt (blk_lt (g:=gb239) (o:=.cells #[.int .i64 a0_0,.string a0_1,.int .i64 a0_2,.slice A0_3 l0_3.length c0_3] 29 (0,0)) (by (with_reducible repeat (first|refine blk_drewN ?_ _|refine blk_drew ?_|refine blk_alloc ?_ _));exact BK239.out)) : gb239 ≠ gb240));have n6_:=Aside0.mk ((by rw [hg];exact Nat.ne_of_gt (blk_lt (g:=gb239) (o:=.cells #[.int .i64 a0_0,.string a0_1,.int .i64 a0_2,.slice A0_3 l0_3.length c0_3] 29 (0,0)) (by (with_reducible repeat (first|refine blk_drewN ?_ _|refine blk_drew ?_|refine blk_alloc ?_ _));exact BK239.out)) : gb240 ≠ gb239));clear BK239;clear HB;have BK239:=n0_;have HB:=n1_;have BK240:=n2_;have GW240:=n3_;have GE240:=n4_;have NB239_240:=n5_;have NB240_239:=n6_;clear n0_ n1_ n2_ n3_ n4_ n5_ n6_;clear hb hbox hg;have hnb6:=NB239_240.out;have hnc6:=NB240_239.out;have hcz7_0 : w5.cell? ⟨gb239,0,none⟩ = some (.int .i64 a0_0):=(blk_cell BK239.out 0).trans rfl;have hcz7_1 : w5.cell? ⟨gb239,1,none⟩ = some (.string a0_1):=(blk_cell BK239.out 1).trans rfl;have hcz7_2 : w5.cell? ⟨gb239,2,none⟩ = some (.int .i64 a0_2):=(blk_cell BK239.out 2).trans rfl;have hcz7_3 : w5.cell? ⟨gb239,3,none⟩ = some (.slice A0_3 l0_3.length c0_3):=(blk_cell BK239.out 3).trans rfl;have hfz7_0:=blk_frozen BK239.out 0;have hfz7_1:=blk_frozen BK239.out 1;have hfz7_2:=blk_frozen BK239.out 2;have hfz7_3:=blk_frozen BK239.out 3)|((with_reducible refine gate_dst (N:=5) rfl ?_);refine box_event ?hg (N:=5) ?hd (cs:=#[.int .i64 0,.string (⟨#[]⟩ : ByteArray),.int .i64 0,.slice none 0 0]) (t:=29) ?hr ?_;(case hd => rfl);(case hg => rfl);(case hr => first|(go_simp;done)|(go_simp;rfl));intro gb241 hg w8 hbox hb;have n0_:=Aside0.mk (blk_below (g:=gb239) (o:=.cells #[.int .i64 a0_0,.string a0_1,.int .i64 a0_2,.slice A0_3 l0_3.length c0_3] 29 (0,0)) (by (with_reducible repeat (first|refine blk_drewN ?_ _|refine blk_drew ?_|refine blk_alloc ?_ _));exact BK239.out) hb);have n1_:=Aside0.mk (blk_below (g:=gb240) (o:=.cells #[.int .i64 0,.string (⟨#[]⟩ : ByteArray),.int .i64 0,.slice none 0 0] 29 (0,0)) (by (with_reducible repeat (first|refine blk_drewN ?_ _|refine blk_drew ?_|refine blk_alloc ?_ _));exact BK240.out) hb);have n2_:=Aside0.mk (below_step (by repeat (first|(with_reducible first|exact HB.out|apply below_alloc|apply pw_below_drewN|apply below_drew1|refine below_set ?_ GE239.out|refine below_set ?_ GE240.out)|exact HB.out)) hb);have n3_:=Aside0.mk (hbox);have n4_:=Aside0.mk ((by rw [hg];exact (below_size (by repeat (first|(with_reducible first|exact HB.out|apply below_alloc|apply pw_below_drewN|apply below_drew1|refine below_set ?_ GE239.out|refine below_set ?_ GE240.out)|exact HB.out))) : w.heap.size ≤ gb241));have n5_:=Aside0.mk ((by rw [hg];exact (below_size (by repeat (first|(with_reducible first|exact HB.out|apply below_alloc|apply pw_below_drewN|apply below_drew1|refine below_set ?_ GE239.out|refine below_set ?_ GE240.out)|exact HB.out))) : w.heap.size ≤ gb241));have n6_:=Aside0.mk ((by rw [hg];exact Nat.ne_of_lt (blk_lt (g:=gb239) (o:=.cells #[.int .i64 a0_0,.string a0_1,.int .i64 a0_2,.slice A0_3 l0_3.length c0_3] 29 (0,0)) (by (with_reducible repeat (first|refine blk_drewN ?_ _|refine blk_drew ?_|refine blk_alloc ?_ _));exact BK239.out)) : gb239 ≠ gb241));have n7_:=Aside0.mk ((by rw [hg];exact Nat.ne_of_gt (blk_lt (g:=gb239) (o:=.cells #[.int .i64 a0_0,.string a0_1,.int .i64 a0_2,.slice A0_3 l0_3.length c0_3] 29 (0,0)) (by (with_reducible repeat (first|refine blk_drewN ?_ _|refine blk_drew ?_|refine blk_alloc ?_ _));exact BK239.out)) : gb241 ≠ gb239));have n8_:=Aside0.mk ((by rw [hg];exact Nat.ne_of_lt (blk_lt (g:=gb240) (o:=.cells #[.int .i64 0,.string (⟨#[]⟩ : ByteArray),.int .i64 0,.slice none 0 0] 29 (0,0)) (by (with_reducible repeat (first|refine blk_drewN ?_ _|refine blk_drew ?_|refine blk_alloc ?_ _));exact BK240.out)) : gb240 ≠ gb241));have n9_:=Aside0.mk ((by rw [hg];exact Nat.ne_of_gt (blk_lt (g:=gb240) (o:=.cells #[.int .i64 0,.string (⟨#[]⟩ : ByteArray),.int .i64 0,.slice none 0 0] 29 (0,0)) (by (with_reducible repeat (first|refine blk_drewN ?_ _|refine blk_drew ?_|refine blk_alloc ?_ _));exact BK240.out)) : gb241 ≠ gb240));clear BK239;clear BK240;clear HB;have BK239:=n0_;have BK240:=n1_;have HB:=n2_;have BK241:=n3_;have GW241:=n4_;have GE241:=n5_;have NB239_241:=n6_;have NB241_239:=n7_;have NB240_241:=n8_;have NB241_240:=n9_;clear n0_ n1_ n2_ n3_ n4_ n5_ n6_ n7_ n8_ n9_;clear hb hbox hg;have hnb9:=NB241_239.out;have hnc9:=NB239_241.out;have hnb10:=NB241_240.out;have hnc10:=NB240_241.out;have hcz11_0 : w8.cell? ⟨gb241,0,none⟩ = some (.int .i64 0):=(blk_cell BK241.out 0).trans rfl;have hcz11_1 : w8.cell? ⟨gb241,1,none⟩ = some (.string (⟨#[]⟩ : ByteArray)):=(blk_cell BK241.out 1).trans rfl;have hcz11_2 : w8.cell? ⟨gb241,2,none⟩ = some (.int .i64 0):=(blk_cell BK241.out 2).trans rfl;have hcz11_3 : w8.cell? ⟨gb241,3,none⟩ = some (.slice none 0 0):=(blk_cell BK241.out 3).trans rfl;have hfz11_0:=blk_frozen BK241.out 0;have hfz11_1:=blk_frozen BK241.out 1;have hfz11_2:=blk_frozen BK241.out 2;have hfz11_3:=blk_frozen BK241.out 3;have hcz12_0 : w8.cell? ⟨gb239,0,none⟩ = some (.int .i64 a0_0):=(blk_cell BK239.out 0).trans rfl;have hcz12_1 : w8.cell? ⟨gb239,1,none⟩ = some (.string a0_1):=(blk_cell BK239.out 1).trans rfl;have hcz12_2 : w8.cell? ⟨gb239,2,none⟩ = some (.int .i64 a0_2):=(blk_cell BK239.out 2).trans rfl;have hcz12_3 : w8.cell? ⟨gb239,3,none⟩ = some (.slice A0_3 l0_3.length c0_3):=(blk_cell BK239.out 3).trans rfl;have hfz12_0:=blk_frozen BK239.out 0;have hfz12_1:=blk_frozen BK239.out 1;have hfz12_2:=blk_frozen BK239.out 2;have hfz12_3:=blk_frozen BK239.out 3))
 (try simp only [Act.put,List.setIfInBounds_toArray,List.set_cons_zero,List.set_cons_succ])
 go_cut [] (fun wc => ∃ (kq : Nat) (x242002_2 : Int),Aside0 (sh_renamed.j0 kq a1 a0_0 a0_1 a0_2 l0_3 a0_0 a0_1 x242002_2 = some (r1,r2,r3,r4)) ∧ Aside0 (kq ≤ k) ∧ Aside0 (wc.heap[gb239]? = some (.cells #[.int .i64 a0_0,.string a0_1,.int .i64 a0_2,(.slice A0_3 l0_3.length c0_3)] 29 (0,0))) ∧ Aside0 (wc.heap[gb240]? = some (.cells #[.int .i64 0,.string (⟨#[]⟩ : ByteArray),.int .i64 0,(.slice none 0 0)] 29 (0,0))) ∧ Aside0 (wc.heap[gb241]? = some (.cells #[.int .i64 a0_0,.string a0_1,.int .i64 x242002_2,(.slice none 0 0)] 29 (0,0))) ∧ Aside0 (Below w.heap.size w wc))
 case first =>
  have H:=HC3.out
  clear HC3
  by_cases c13 : a0_0 = 1
  ·rw [if_pos c13] at H
   have c13b0 : (a0_0 == 1) = true:=beq_iff_eq.mpr c13
   have c13b1 : (a0_0 != 1) = false:=bne_eq_false_iff_eq.mpr c13
   clear c13
   (first|rw [c13b0]|(simp only [i64_w,i32_w];rw [c13b0])|skip)
   replace H:=Option.bind_eq_some_iff.mp H
   obtain ⟨t242,A140,H⟩:=H
   replace H : (sh_renamed.j0 k a1 a0_0 a0_1 a0_2 l0_3 a0_0 a0_1 t242) = some (r1,r2,r3,r4):=H
   have A14:=Aside0.mk A140
   clear A140
   have H':=Aside0.mk H
   clear H
   have hnb15:=NB239_240.out
   have hnc15:=NB240_239.out
   have hnb16:=NB239_241.out
   have hnc16:=NB241_239.out
   have hcz17_0 : w8.cell? ⟨gb239,0,none⟩ = some (.int .i64 a0_0):=(blk_cell BK239.out 0).trans rfl
   have hcz17_1 : w8.cell? ⟨gb239,1,none⟩ = some (.string a0_1):=(blk_cell BK239.out 1).trans rfl
   have hcz17_2 : w8.cell? ⟨gb239,2,none⟩ = some (.int .i64 a0_2):=(blk_cell BK239.out 2).trans rfl
   have hcz17_3 : w8.cell? ⟨gb239,3,none⟩ = some (.slice A0_3 l0_3.length c0_3):=(blk_cell BK239.out 3).trans rfl
   have hfz17_0:=blk_frozen BK239.out 0
   have hfz17_1:=blk_frozen BK239.out 1
   have hfz17_2:=blk_frozen BK239.out 2
   have hfz17_3:=blk_frozen BK239.out 3
   go_wp2_with (first|(go_at_call 90;refine (shC k a0_2 t242 _ ?hcq A14.out).mono ?_;(case hcq => refine (Below.cell (B:=w.heap.size) ?hbq HQL.out).trans HQ.out;(repeat (first|(with_reducible first|exact HB.out|apply below_alloc|apply pw_below_drewN|apply below_drew1|refine below_set ?_ GE239.out|refine below_set ?_ GE240.out|refine below_set ?_ GE241.out)|exact HB.out)));rintro e w18 ⟨rfl,hb⟩;have n0_:=Aside0.mk (blk_below (g:=gb239) (o:=.cells #[.int .i64 a0_0,.string a0_1,.int .i64 a0_2,.slice A0_3 l0_3.length c0_3] 29 (0,0)) (by (with_reducible repeat (first|refine blk_drewN ?_ _|refine blk_drew ?_|refine blk_alloc ?_ _));refine blk_far ?_ NB239_241.out _;(with_reducible repeat (first|refine blk_drewN ?_ _|refine blk_drew ?_|refine blk_alloc ?_ _));refine blk_far ?_ NB239_241.out _;(with_reducible repeat (first|refine blk_drewN ?_ _|refine blk_drew ?_|refine blk_alloc ?_ _));refine blk_far ?_ NB239_241.out _;(with_reducible repeat (first|refine blk_drewN ?_ _|refine blk_drew ?_|refine blk_alloc ?_ _));refine blk_far ?_ NB239_241.out _;(with_reducible repeat (first|refine blk_drewN ?_ _|refine blk_drew ?_|refine blk_alloc ?_ _));refine blk_far ?_ NB239_241.out _;(with_reducible repeat (first|refine blk_drewN ?_ _|refine blk_drew ?_|refine blk_alloc ?_ _));exact BK239.out) hb);have n1_:=Aside0.mk (blk_below (g:=gb240) (o:=.cells #[.int .i64 0,.string (⟨#[]⟩ : ByteArray),.int .i64 0,.slice none 0 0] 29 (0,0)) (by (with_reducible repeat (first|refine blk_drewN ?_ _|refine blk_drew ?_|refine blk_alloc ?_ _));refine blk_far ?_ NB240_241.out _;(with_reducible repeat (first|refine blk_drewN ?_ _|refine blk_drew ?_|refine blk_alloc ?_ _));refine blk_far ?_ NB240_241.out _;(with_reducible repeat (first|refine blk_drewN ?_ _|refine blk_drew ?_|refine blk_alloc ?_ _));refine blk_far ?_ NB240_241.out _;(with_reducible repeat (first|refine blk_drewN ?_ _|refine blk_drew ?_|refine blk_alloc ?_ _));refine blk_far ?_ NB240_241.out _;(with_reducible repeat (first|refine blk_drewN ?_ _|refine blk_drew ?_|refine blk_alloc ?_ _));refine blk_far ?_ NB240_241.out _;(with_reducible repeat (first|refine blk_drewN ?_ _|refine blk_drew ?_|refine blk_alloc ?_ _));exact BK240.out) hb);have n2_:=Aside0.mk (blk_below (g:=gb241) (o:=.cells #[.int .i64 a0_0,.string a0_1,.int .i64 a0_2,.slice none 0 0] 29 (0,0)) (by (with_reducible repeat (first|refine blk_drewN ?_ _|refine blk_drew ?_|refine blk_alloc ?_ _));refine blk_put (cs:=#[.int .i64 a0_0,.string a0_1,.int .i64 a0_2,.slice A0_3 l0_3.length c0_3]) ?_ 3 _ rfl;(with_reducible repeat (first|refine blk_drewN ?_ _|refine blk_drew ?_|refine blk_alloc ?_ _));refine blk_put (cs:=#[.int .i64 a0_0,.string a0_1,.int .i64 a0_2,.slice none 0 0]) ?_ 3 _ rfl;(with_reducible repeat (first|refine blk_drewN ?_ _|refine blk_drew ?_|refine blk_alloc ?_ _));refine blk_put (cs:=#[.int .i64 a0_0,.string a0_1,.int .i64 0,.slice none 0 0]) ?_ 2 _ rfl;(with_reducible repeat (first|refine blk_drewN ?_ _|refine blk_drew ?_|refine blk_alloc ?_ _));refine blk_put (cs:=#[.int .i64 a0_0,.string (⟨#[]⟩ : ByteArray),.int .i64 0,.slice none 0 0]) ?_ 1 _ rfl;(with_reducible repeat (first|refine blk_drewN ?_ _|refine blk_drew ?_|refine blk_alloc ?_ _));refine blk_put (cs:=#[.int .i64 0,.string (⟨#[]⟩ : ByteArray),.int .i64 0,.slice none 0 0]) ?_ 0 _ rfl;(with_reducible repeat (first|refine blk_drewN ?_ _|refine blk_drew ?_|refine blk_alloc ?_ _));exact BK241.out) hb);have n3_:=Aside0.mk (below_step (by repeat (first|(with_reducible first|exact HB.out|apply below_alloc|apply pw_below_drewN|apply below_drew1|refine below_set ?_ GE239.out|refine below_set ?_ GE240.out|refine below_set ?_ GE241.out)|exact HB.out)) hb);clear BK239;clear BK240;clear BK241;clear HB;have BK239:=n0_;have BK240:=n1_;have BK241:=n2_;have HB:=n3_;clear n0_ n1_ n2_ n3_;(try clear hb);(try clear hb2);(try clear hk);(try clear hi);have hnb19:=NB241_240.out;have hnc19:=NB240_241.out;have hcz20_0 : w18.cell? ⟨gb241,0,none⟩ = some (.int .i64 a0_0):=(blk_cell BK241.out 0).trans rfl;have hcz20_1 : w18.cell? ⟨gb241,1,none⟩ = some (.string a0_1):=(blk_cell BK241.out 1).trans rfl;have hcz20_2 : w18.cell? ⟨gb241,2,none⟩ = some (.int .i64 a0_2):=(blk_cell BK241.out 2).trans rfl;have hcz20_3 : w18.cell? ⟨gb241,3,none⟩ = some (.slice none 0 0):=(blk_cell BK241.out 3).trans rfl;have hfz20_0:=blk_frozen BK241.out 0;have hfz20_1:=blk_frozen BK241.out 1;have hfz20_2:=blk_frozen BK241.out 2;have hfz20_3:=blk_frozen BK241.out 3))
   go_meet
   case rel => exact ⟨_,(t242),H',⟨by first|omega|exact Nat.le_refl _⟩,⟨by (with_reducible repeat (first|refine blk_drewN ?_ _|refine blk_drew ?_|refine blk_alloc ?_ _));refine blk_far ?_ NB239_241.out _;(with_reducible repeat (first|refine blk_drewN ?_ _|refine blk_drew ?_|refine blk_alloc ?_ _));exact BK239.out⟩,⟨by (with_reducible repeat (first|refine blk_drewN ?_ _|refine blk_drew ?_|refine blk_alloc ?_ _));refine blk_far ?_ NB240_241.out _;(with_reducible repeat (first|refine blk_drewN ?_ _|refine blk_drew ?_|refine blk_alloc ?_ _));exact BK240.out⟩,⟨by (with_reducible repeat (first|refine blk_drewN ?_ _|refine blk_drew ?_|refine blk_alloc ?_ _));refine blk_put (cs:=#[.int .i64 a0_0,.string a0_1,.int .i64 a0_2,.slice none 0 0]) ?_ 2 _ rfl;(with_reducible repeat (first|refine blk_drewN ?_ _|refine blk_drew ?_|refine blk_alloc ?_ _));exact BK241.out⟩,⟨by repeat (first|(with_reducible first|exact HB.out|apply below_alloc|apply pw_below_drewN|apply below_drew1|refine below_set ?_ GE239.out|refine below_set ?_ GE240.out|refine below_set ?_ GE241.out)|exact HB.out)⟩⟩
  ·rw [if_neg c13] at H
   have c13b0 : (a0_0 == 1) = false:=beq_eq_false_iff_ne.mpr c13
   have c13b1 : (a0_0 != 1) = true:=bne_iff_ne.mpr c13
   (first|rw [c13b0]|(simp only [i64_w,i32_w];rw [c13b0])|skip)
   have H':=Aside0.mk H
   clear H
   go_wp2
   go_meet
   case rel => exact ⟨_,(a0_2),H',⟨by first|omega|exact Nat.le_refl _⟩,⟨by (with_reducible repeat (first|refine blk_drewN ?_ _|refine blk_drew ?_|refine blk_alloc ?_ _));refine blk_far ?_ NB239_241.out _;(with_reducible repeat (first|refine blk_drewN ?_ _|refine blk_drew ?_|refine blk_alloc ?_ _));refine blk_far ?_ NB239_241.out _;(with_reducible repeat (first|refine blk_drewN ?_ _|refine blk_drew ?_|refine blk_alloc ?_ _));refine blk_far ?_ NB239_241.out _;(with_reducible repeat (first|refine blk_drewN ?_ _|refine blk_drew ?_|refine blk_alloc ?_ _));refine blk_far ?_ NB239_241.out _;(with_reducible repeat (first|refine blk_drewN ?_ _|refine blk_drew ?_|refine blk_alloc ?_ _));refine blk_far ?_ NB239_241.out _;(with_reducible repeat (first|refine blk_drewN ?_ _|refine blk_drew ?_|refine blk_alloc ?_ _));exact BK239.out⟩,⟨by (with_reducible repeat (first|refine blk_drewN ?_ _|refine blk_drew ?_|refine blk_alloc ?_ _));refine blk_far ?_ NB240_241.out _;(with_reducible repeat (first|refine blk_drewN ?_ _|refine blk_drew ?_|refine blk_alloc ?_ _));refine blk_far ?_ NB240_241.out _;(with_reducible repeat (first|refine blk_drewN ?_ _|refine blk_drew ?_|refine blk_alloc ?_ _));refine blk_far ?_ NB240_241.out _;(with_reducible repeat (first|refine blk_drewN ?_ _|refine blk_drew ?_|refine blk_alloc ?_ _));refine blk_far ?_ NB240_241.out _;(with_reducible repeat (first|refine blk_drewN ?_ _|refine blk_drew ?_|refine blk_alloc ?_ _));refine blk_far ?_ NB240_241.out _;(with_reducible repeat (first|refine blk_drewN ?_ _|refine blk_drew ?_|refine blk_alloc ?_ _));exact BK240.out⟩,⟨by (with_reducible repeat (first|refine blk_drewN ?_ _|refine blk_drew ?_|refine blk_alloc ?_ _));refine blk_put (cs:=#[.int .i64 a0_0,.string a0_1,.int .i64 a0_2,.slice A0_3 l0_3.length c0_3]) ?_ 3 _ rfl;(with_reducible repeat (first|refine blk_drewN ?_ _|refine blk_drew ?_|refine blk_alloc ?_ _));refine blk_put (cs:=#[.int .i64 a0_0,.string a0_1,.int .i64 a0_2,.slice none 0 0]) ?_ 3 _ rfl;(with_reducible repeat (first|refine blk_drewN ?_ _|refine blk_drew ?_|refine blk_alloc ?_ _));refine blk_put (cs:=#[.int .i64 a0_0,.string a0_1,.int .i64 0,.slice none 0 0]) ?_ 2 _ rfl;(with_reducible repeat (first|refine blk_drewN ?_ _|refine blk_drew ?_|refine blk_alloc ?_ _));refine blk_put (cs:=#[.int .i64 a0_0,.string (⟨#[]⟩ : ByteArray),.int .i64 0,.slice none 0 0]) ?_ 1 _ rfl;(with_reducible repeat (first|refine blk_drewN ?_ _|refine blk_drew ?_|refine blk_alloc ?_ _));refine blk_put (cs:=#[.int .i64 0,.string (⟨#[]⟩ : ByteArray),.int .i64 0,.slice none 0 0]) ?_ 0 _ rfl;(with_reducible repeat (first|refine blk_drewN ?_ _|refine blk_drew ?_|refine blk_alloc ?_ _));exact BK241.out⟩,⟨by repeat (first|(with_reducible first|exact HB.out|apply below_alloc|apply pw_below_drewN|apply below_drew1|refine below_set ?_ GE239.out|refine below_set ?_ GE240.out|refine below_set ?_ GE241.out)|exact HB.out)⟩⟩
 case rest =>
  clear HC3
  try clear c1
  try clear p2
  try clear c6
  try clear c8
  try clear c9
  try clear c10
  try clear c11
  try clear c13
  try clear c13b0
  try clear c13b1
  try clear c15
  try clear c16
  try clear c19
  try clear hcz11_0
  try clear hcz11_1
  try clear hcz11_2
  try clear hcz11_3
  try clear hcz12_0
  try clear hcz12_1
  try clear hcz12_2
  try clear hcz12_3
  try clear hcz17_0
  try clear hcz17_1
  try clear hcz17_2
  try clear hcz17_3
  try clear hcz20_0
  try clear hcz20_1
  try clear hcz20_2
  try clear hcz20_3
  try clear hcz7_0
  try clear hcz7_1
  try clear hcz7_2
  try clear hcz7_3
  try clear hfz11_0
  try clear hfz11_1
  try clear hfz11_2
  try clear hfz11_3
  try clear hfz12_0
  try clear hfz12_1
  try clear hfz12_2
  try clear hfz12_3
  try clear hfz17_0
  try clear hfz17_1
  try clear hfz17_2
  try clear hfz17_3
  try clear hfz20_0
  try clear hfz20_1
  try clear hfz20_2
  try clear hfz20_3
  try clear hfz7_0
  try clear hfz7_1
  try clear hfz7_2
  try clear hfz7_3
  try clear BK239
  try clear BK240
  try clear BK241
  obtain ⟨kq,x242002_2,HA,HJ2,BK239,BK240,BK241,HB⟩:=hcut
  cases kq with
  | zero => exact absurd HA.out (by simp [sh_renamed.j0])
  | succ kj2 =>
   have H:=HA.out
   clear HA
   simp only [sh_renamed.j0] at H
   have H':=Aside0.mk H
   clear H
   have hnb21:=NB239_240.out
   have hnc21:=NB240_239.out
   have hnb22:=NB239_241.out
   have hnc22:=NB241_239.out
   have hcz23_0 : wc.cell? ⟨gb239,0,none⟩ = some (.int .i64 a0_0):=(blk_cell BK239.out 0).trans rfl
   have hcz23_1 : wc.cell? ⟨gb239,1,none⟩ = some (.string a0_1):=(blk_cell BK239.out 1).trans rfl
   have hcz23_2 : wc.cell? ⟨gb239,2,none⟩ = some (.int .i64 a0_2):=(blk_cell BK239.out 2).trans rfl
   have hcz23_3 : wc.cell? ⟨gb239,3,none⟩ = some (.slice A0_3 l0_3.length c0_3):=(blk_cell BK239.out 3).trans rfl
   have hfz23_0:=blk_frozen BK239.out 0
   have hfz23_1:=blk_frozen BK239.out 1
   have hfz23_2:=blk_frozen BK239.out 2
   have hfz23_3:=blk_frozen BK239.out 3
   go_wp2
   go_loopg [21] kj2 (fun kq v21 w' => ∃ (x21_2 : Int) (x242003_2 : List (S29)) (u242003 : Value),v21 = .int .i64 x21_2 ∧ Aside0 (sh_renamed.l0 kq a1 l0_3 (l0_3.length : Int) x21_2 a0_0 a0_1 x242002_2 x242003_2 = some (r1,r2,r3,r4)) ∧ Aside0 (kq ≤ kj2) ∧ Aside0 (Kd.S kD29 29 w' w.heap.size (fun k_ => k_ ≠ gb239 ∧ k_ ≠ gb240 ∧ k_ ≠ gb241) u242003 x242003_2) ∧ Aside0 (w'.heap[gb239]? = some (.cells #[.int .i64 a0_0,.string a0_1,.int .i64 a0_2,(.slice A0_3 l0_3.length c0_3)] 29 (0,0))) ∧ Aside0 (w'.heap[gb240]? = some (.cells #[.int .i64 0,.string (⟨#[]⟩ : ByteArray),.int .i64 0,(.slice none 0 0)] 29 (0,0))) ∧ Aside0 (w'.heap[gb241]? = some (.cells #[.int .i64 a0_0,.string a0_1,.int .i64 x242002_2,u242003] 29 (0,0))) ∧ Aside0 (Below w.heap.size w w'))
   case atStart => exact ⟨(0),(([] : List (S29))),(.slice none 0 0),(by first|rfl|(simp;done)|(simp [*];done)),H',⟨Nat.le_refl _⟩,⟨by first|exact Kd.S_nil _ _ _ _ _|exact Kd.N_nil _ _ _ _ _|exact Kd.V_nil _ _ _ _ _|exact Kd.Q_nil _ _ _ _ _|exact Kd.S_nil _ _ _ _ _⟩,⟨by (with_reducible repeat (first|refine blk_drewN ?_ _|refine blk_drew ?_|refine blk_alloc ?_ _));exact BK239.out⟩,⟨by (with_reducible repeat (first|refine blk_drewN ?_ _|refine blk_drew ?_|refine blk_alloc ?_ _));exact BK240.out⟩,⟨by (with_reducible repeat (first|refine blk_drewN ?_ _|refine blk_drew ?_|refine blk_alloc ?_ _));exact BK241.out⟩,⟨by repeat (first|(with_reducible first|exact HB.out|apply below_alloc|apply pw_below_drewN|apply below_drew1|refine below_set ?_ GE239.out|refine below_set ?_ GE240.out|refine below_set ?_ GE241.out)|exact HB.out)⟩⟩
   case round =>
    clear H'
    try clear c1
    try clear c2
    try clear p2
    try clear c6
    try clear c8
    try clear c9
    try clear c10
    try clear c11
    try clear c13
    try clear c13b0
    try clear c13b1
    try clear c15
    try clear c16
    try clear c19
    try clear c21
    try clear c22
    try clear hcz11_0
    try clear hcz11_1
    try clear hcz11_2
    try clear hcz11_3
    try clear hcz12_0
    try clear hcz12_1
    try clear hcz12_2
    try clear hcz12_3
    try clear hcz17_0
    try clear hcz17_1
    try clear hcz17_2
    try clear hcz17_3
    try clear hcz20_0
    try clear hcz20_1
    try clear hcz20_2
    try clear hcz20_3
    try clear hcz23_0
    try clear hcz23_1
    try clear hcz23_2
    try clear hcz23_3
    try clear hcz7_0
    try clear hcz7_1
    try clear hcz7_2
    try clear hcz7_3
    try clear hfz11_0
    try clear hfz11_1
    try clear hfz11_2
    try clear hfz11_3
    try clear hfz12_0
    try clear hfz12_1
    try clear hfz12_2
    try clear hfz12_3
    try clear hfz17_0
    try clear hfz17_1
    try clear hfz17_2
    try clear hfz17_3
    try clear hfz20_0
    try clear hfz20_1
    try clear hfz20_2
    try clear hfz20_3
    try clear hfz23_0
    try clear hfz23_1
    try clear hfz23_2
    try clear hfz23_3
    try clear hfz7_0
    try clear hfz7_1
    try clear hfz7_2
    try clear hfz7_3
    try clear p2
    try clear BK239
    try clear BK240
    try clear BK241
    obtain ⟨x21_2,x242003_2,u242003,rfl,HA,HK2,HO_242003,BK239,BK240,BK241,HB⟩:=hrel
    cases gk with
    | zero => exact absurd HA.out (by simp [sh_renamed.l0])
    | succ k2 =>
     have H:=HA.out
     clear HA
     simp only [sh_renamed.l0] at H
     by_cases c24 : x21_2 < (l0_3.length : Int)
     ·rw [if_pos c24] at H
      have c24b0 : decide (x21_2 < (l0_3.length : Int)) = true:=decide_eq_true c24
      clear c24
      by_cases c25 : 0 ≤ x21_2
      ·rw [if_pos c25] at H
       have c25b0 : decide (0 ≤ x21_2) = true:=decide_eq_true c25
       clear c25
       by_cases c26 : x21_2 < (l0_3.length : Int)
       ·rw [if_pos c26] at H
        have c26b0 : decide (x21_2 < (l0_3.length : Int)) = true:=decide_eq_true c26
        clear c26
        replace H:=Option.bind_eq_some_iff.mp H
        obtain ⟨⟨t245,t246,t247,t248⟩,A270,H⟩:=H
        replace H : (if x242003_2.length < 2513169434916 then (sh_renamed.l0 k2 a1 l0_3 (l0_3.length : Int) (wrap64 (x21_2 + 1)) a0_0 a0_1 x242002_2 (x242003_2 ++ [(⟨t245,t246,t247,t248⟩ : S29)])) else (none)) = some (r1,r2,r3,r4):=H
        have A27:=Aside0.mk A270
        clear A270
        by_cases c28 : x242003_2.length < 2513169434916
        ·rw [if_pos c28] at H
         have LMc28:=Aside0.mk c28
         clear c28
         obtain ⟨y251,hy251⟩ : ∃ y_ : List (S29),y_ = (x242003_2 ++ [(⟨t245,t246,t247,t248⟩ : S29)]):=⟨_,rfl⟩
         replace H : (sh_renamed.l0 k2 a1 l0_3 (l0_3.length : Int) (wrap64 (x21_2 + 1)) a0_0 a0_1 x242002_2 y251) = some (r1,r2,r3,r4):=by first|(rw [hy251];with_reducible exact H)|(have H2_:=(Option.bind_some _ _).symm.trans H;rw [hy251];with_reducible exact H2_)|(have H2_:=(Option.bind_some _ _).symm.trans H;with_reducible exact H2_)|with_reducible exact H|(rw [hy251];exact H)|exact H
         have Ny251:=Aside0.mk hy251
         clear hy251
         have H':=Aside0.mk H
         clear H
         have p243 : 0 ≤ (x21_2 : Int):=of_decide_eq_true (by first|(with_reducible assumption)|assumption)
         have q243 : x21_2 < (l0_3.length : Int):=of_decide_eq_true (by first|(with_reducible assumption)|assumption)
         obtain ⟨ad243,A243_3,c243_3,e243,hx243_0,hx243_1,hx243_2,hx243_3,hl243_3,hi243_3⟩:=at_T29 HR0_3.out x21_2 p243 q243
         cases e243
         replace hx243_0:=(HB.out.cell (World.block_lt_of_cell? w _ hx243_0)).trans hx243_0
         replace hx243_1:=(HB.out.cell (World.block_lt_of_cell? w _ hx243_1)).trans hx243_1
         replace hx243_2:=(HB.out.cell (World.block_lt_of_cell? w _ hx243_2)).trans hx243_2
         replace hx243_3:=(HB.out.cell (World.block_lt_of_cell? w _ hx243_3)).trans hx243_3
         have HR243_3:=Aside0.mk hi243_3
         have HC243_3:=Aside0.mk hl243_3
         clear hi243_3 hl243_3
         replace p243:=eq_true p243
         replace q243:=eq_true q243
         try go_wp2_with (first|((with_reducible refine gate_dst (N:=7) rfl ?_);refine box_event ?hg (N:=7) ?hd (cs:=#[.int .i64 0,.string (⟨#[]⟩ : ByteArray),.int .i64 0,.slice none 0 0]) (t:=29) ?hr ?_;(case hd => rfl);(case hg => rfl);(case hr => first|(go_simp;done)|(go_simp;rfl));intro gb244 hg w29 hbox hb;have n0_:=Aside0.mk (Kd.S_below (Kd.S_elderB (by (with_reducible repeat (first|apply Kd.S_alloc|apply Kd.S_drewN|apply Kd.S_drew));exact HO_242003.out) gb244 (Nat.le_of_eq hg.symm)) hb);have n1_:=Aside0.mk (blk_below (g:=gb239) (o:=.cells #[.int .i64 a0_0,.string a0_1,.int .i64 a0_2,.slice (some ad243) l0_3.length c0_3] 29 (0,0)) (by (with_reducible repeat (first|refine blk_drewN ?_ _|refine blk_drew ?_|refine blk_alloc ?_ _));exact BK239.out) hb);have n2_:=Aside0.mk (blk_below (g:=gb240) (o:=.cells #[.int .i64 0,.string (⟨#[]⟩ : ByteArray),.int .i64 0,.slice none 0 0] 29 (0,0)) (by (with_reducible repeat (first|refine blk_drewN ?_ _|refine blk_drew ?_|refine blk_alloc ?_ _));exact BK240.out) hb);have n3_:=Aside0.mk (blk_below (g:=gb241) (o:=.cells #[.int .i64 a0_0,.string a0_1,.int .i64 x242002_2,u242003] 29 (0,0)) (by (with_reducible repeat (first|refine blk_drewN ?_ _|refine blk_drew ?_|refine blk_alloc ?_ _));exact BK241.out) hb);have n4_:=Aside0.mk (below_step (by repeat (first|(with_reducible first|exact HB.out|apply below_alloc|apply pw_below_drewN|apply below_drew1|refine below_set ?_ GE239.out|refine below_set ?_ GE240.out|refine below_set ?_ GE241.out)|exact HB.out)) hb);have n5_:=Aside0.mk (hbox);have n6_:=Aside0.mk ((by rw [hg];exact (below_size (by repeat (first|(with_reducible first|exact HB.out|apply below_alloc|apply pw_below_drewN|apply below_drew1|refine below_set ?_ GE239.out|refine below_set ?_ GE240.out|refine below_set ?_ GE241.out)|exact HB.out))) : w.heap.size ≤ gb244));have n7_:=Aside0.mk ((by rw [hg];exact (below_size (by repeat (first|(with_reducible first|exact HB.out|apply below_alloc|apply pw_below_drewN|apply below_drew1|refine below_set ?_ GE239.out|refine below_set ?_ GE240.out|refine below_set ?_ GE241.out)|exact HB.out))) : w.heap.size ≤ gb244));have n8_:=Aside0.mk ((by rw [hg];exact Nat.ne_of_lt (blk_lt (g:=gb239) (o:=.cells #[.int .i64 a0_0,.string a0_1,.int .i64 a0_2,.slice (some ad243) l0_3.length c0_3] 29 (0,0)) (by (with_reducible repeat (first|refine blk_drewN ?_ _|refine blk_drew ?_|refine blk_alloc ?_ _));exact BK239.out)) : gb239 ≠ gb244));have n9_:=Aside0.mk ((by rw [hg];exact Nat.ne_of_gt (blk_lt (g:=gb239) (o:=.cells #[.int .i64 a0_0,.string a0_1,.int .i64 a0_2,.slice (some ad243) l0_3.length c0_3] 29 (0,0)) (by (with_reducible repeat (first|refine blk_drewN ?_ _|refine blk_drew ?_|refine blk_alloc ?_ _));exact BK239.out)) : gb244 ≠ gb239));have n10_:=Aside0.mk ((by rw [hg];exact Nat.ne_of_lt (blk_lt (g:=gb240) (o:=.cells #[.int .i64 0,.string (⟨#[]⟩ : ByteArray),.int .i64 0,.slice none 0 0] 29 (0,0)) (by (with_reducible repeat (first|refine blk_drewN ?_ _|refine blk_drew ?_|refine blk_alloc ?_ _));exact BK240.out)) : gb240 ≠ gb244));have n11_:=Aside0.mk ((by rw [hg];exact Nat.ne_of_gt (blk_lt (g:=gb240) (o:=.cells #[.int .i64 0,.string (⟨#[]⟩ : ByteArray),.int .i64 0,.slice none 0 0] 29 (0,0)) (by (with_reducible repeat (first|refine blk_drewN ?_ _|refine blk_drew ?_|refine blk_alloc ?_ _));exact BK240.out)) : gb244 ≠ gb240));have n12_:=Aside0.mk ((by rw [hg];exact Nat.ne_of_lt (blk_lt (g:=gb241) (o:=.cells #[.int .i64 a0_0,.string a0_1,.int .i64 x242002_2,u242003] 29 (0,0)) (by (with_reducible repeat (first|refine blk_drewN ?_ _|refine blk_drew ?_|refine blk_alloc ?_ _));exact BK241.out)) : gb241 ≠ gb244));have n13_:=Aside0.mk ((by rw [hg];exact Nat.ne_of_gt (blk_lt (g:=gb241) (o:=.cells #[.int .i64 a0_0,.string a0_1,.int .i64 x242002_2,u242003] 29 (0,0)) (by (with_reducible repeat (first|refine blk_drewN ?_ _|refine blk_drew ?_|refine blk_alloc ?_ _));exact BK241.out)) : gb244 ≠ gb241));clear HO_242003;clear BK239;clear BK240;clear BK241;clear HB;have HO_242003:=n0_;have BK239:=n1_;have BK240:=n2_;have BK241:=n3_;have HB:=n4_;have BK244:=n5_;have GW244:=n6_;have GE244:=n7_;have NB239_244:=n8_;have NB244_239:=n9_;have NB240_244:=n10_;have NB244_240:=n11_;have NB241_244:=n12_;have NB244_241:=n13_;clear n0_ n1_ n2_ n3_ n4_ n5_ n6_ n7_ n8_ n9_ n10_ n11_ n12_ n13_;clear hb hbox hg;have hnb30:=NB244_239.out;have hnc30:=NB239_244.out;have hnb31:=NB244_240.out;have hnc31:=NB240_244.out;have hnb32:=NB244_241.out;have hnc32:=NB241_244.out;have hcz33_0 : w29.cell? ⟨gb244,0,none⟩ = some (.int .i64 0):=(blk_cell BK244.out 0).trans rfl;have hcz33_1 : w29.cell? ⟨gb244,1,none⟩ = some (.string (⟨#[]⟩ : ByteArray)):=(blk_cell BK244.out 1).trans rfl;have hcz33_2 : w29.cell? ⟨gb244,2,none⟩ = some (.int .i64 0):=(blk_cell BK244.out 2).trans rfl;have hcz33_3 : w29.cell? ⟨gb244,3,none⟩ = some (.slice none 0 0):=(blk_cell BK244.out 3).trans rfl;have hfz33_0:=blk_frozen BK244.out 0;have hfz33_1:=blk_frozen BK244.out 1;have hfz33_2:=blk_frozen BK244.out 2;have hfz33_3:=blk_frozen BK244.out 3))
         have n0_ : Aside0 (Kd.S kD29 29 ((((w29.setCell ⟨gb244,0,none⟩ (.int .i64 ((rd_T29 l0_3 x21_2).f0))).setCell ⟨gb244,1,none⟩ (.string ((rd_T29 l0_3 x21_2).f1))).setCell ⟨gb244,2,none⟩ (.int .i64 ((rd_T29 l0_3 x21_2).f2))).setCell ⟨gb244,3,none⟩ (.slice A243_3 ((rd_T29 l0_3 x21_2).f3).length c243_3)) w.heap.size (fun k_ => k_ ≠ gb239 ∧ k_ ≠ gb240 ∧ k_ ≠ gb241 ∧ k_ ≠ gb244) u242003 x242003_2):=⟨by (with_reducible repeat (first|apply Kd.S_alloc|apply Kd.S_drewN|apply Kd.S_drew));exact Kd.S_mono (Kd.S_far (p:=⟨gb244,3,none⟩) (Kd.S_far (p:=⟨gb244,2,none⟩) (Kd.S_far (p:=⟨gb244,1,none⟩) (Kd.S_far (p:=⟨gb244,0,none⟩) (Kd.S_mono HO_242003.out (fun k_ hk => (⟨hk,hk.2⟩ : _ ∧ k_ ≠ gb244))) (fun _ hk => hk.2) (.int .i64 ((rd_T29 l0_3 x21_2).f0))) (fun _ hk => hk.2) (.string ((rd_T29 l0_3 x21_2).f1))) (fun _ hk => hk.2) (.int .i64 ((rd_T29 l0_3 x21_2).f2))) (fun _ hk => hk.2) (.slice A243_3 ((rd_T29 l0_3 x21_2).f3).length c243_3)) (fun _ hk => ⟨hk.1.1.1,⟨hk.1.1.2.1,⟨hk.1.1.2.2,hk.1.2⟩⟩⟩)⟩
         have n1_ : Aside0 (((((w29.setCell ⟨gb244,0,none⟩ (.int .i64 ((rd_T29 l0_3 x21_2).f0))).setCell ⟨gb244,1,none⟩ (.string ((rd_T29 l0_3 x21_2).f1))).setCell ⟨gb244,2,none⟩ (.int .i64 ((rd_T29 l0_3 x21_2).f2))).setCell ⟨gb244,3,none⟩ (.slice A243_3 ((rd_T29 l0_3 x21_2).f3).length c243_3)).heap[gb239]? = some (.cells #[.int .i64 a0_0,.string a0_1,.int .i64 a0_2,.slice (some ad243) l0_3.length c0_3] 29 (0,0))):=⟨by (with_reducible repeat (first|refine blk_drewN ?_ _|refine blk_drew ?_|refine blk_alloc ?_ _));refine blk_far ?_ NB239_244.out _;(with_reducible repeat (first|refine blk_drewN ?_ _|refine blk_drew ?_|refine blk_alloc ?_ _));refine blk_far ?_ NB239_244.out _;(with_reducible repeat (first|refine blk_drewN ?_ _|refine blk_drew ?_|refine blk_alloc ?_ _));refine blk_far ?_ NB239_244.out _;(with_reducible repeat (first|refine blk_drewN ?_ _|refine blk_drew ?_|refine blk_alloc ?_ _));refine blk_far ?_ NB239_244.out _;(with_reducible repeat (first|refine blk_drewN ?_ _|refine blk_drew ?_|refine blk_alloc ?_ _));exact BK239.out⟩
         have n2_ : Aside0 (((((w29.setCell ⟨gb244,0,none⟩ (.int .i64 ((rd_T29 l0_3 x21_2).f0))).setCell ⟨gb244,1,none⟩ (.string ((rd_T29 l0_3 x21_2).f1))).setCell ⟨gb244,2,none⟩ (.int .i64 ((rd_T29 l0_3 x21_2).f2))).setCell ⟨gb244,3,none⟩ (.slice A243_3 ((rd_T29 l0_3 x21_2).f3).length c243_3)).heap[gb240]? = some (.cells #[.int .i64 0,.string (⟨#[]⟩ : ByteArray),.int .i64 0,.slice none 0 0] 29 (0,0))):=⟨by (with_reducible repeat (first|refine blk_drewN ?_ _|refine blk_drew ?_|refine blk_alloc ?_ _));refine blk_far ?_ NB240_244.out _;(with_reducible repeat (first|refine blk_drewN ?_ _|refine blk_drew ?_|refine blk_alloc ?_ _));refine blk_far ?_ NB240_244.out _;(with_reducible repeat (first|refine blk_drewN ?_ _|refine blk_drew ?_|refine blk_alloc ?_ _));refine blk_far ?_ NB240_244.out _;(with_reducible repeat (first|refine blk_drewN ?_ _|refine blk_drew ?_|refine blk_alloc ?_ _));refine blk_far ?_ NB240_244.out _;(with_reducible repeat (first|refine blk_drewN ?_ _|refine blk_drew ?_|refine blk_alloc ?_ _));exact BK240.out⟩
         have n3_ : Aside0 (((((w29.setCell ⟨gb244,0,none⟩ (.int .i64 ((rd_T29 l0_3 x21_2).f0))).setCell ⟨gb244,1,none⟩ (.string ((rd_T29 l0_3 x21_2).f1))).setCell ⟨gb244,2,none⟩ (.int .i64 ((rd_T29 l0_3 x21_2).f2))).setCell ⟨gb244,3,none⟩ (.slice A243_3 ((rd_T29 l0_3 x21_2).f3).length c243_3)).heap[gb241]? = some (.cells #[.int .i64 a0_0,.string a0_1,.int .i64 x242002_2,u242003] 29 (0,0))):=⟨by (with_reducible repeat (first|refine blk_drewN ?_ _|refine blk_drew ?_|refine blk_alloc ?_ _));refine blk_far ?_ NB241_244.out _;(with_reducible repeat (first|refine blk_drewN ?_ _|refine blk_drew ?_|refine blk_alloc ?_ _));refine blk_far ?_ NB241_244.out _;(with_reducible repeat (first|refine blk_drewN ?_ _|refine blk_drew ?_|refine blk_alloc ?_ _));refine blk_far ?_ NB241_244.out _;(with_reducible repeat (first|refine blk_drewN ?_ _|refine blk_drew ?_|refine blk_alloc ?_ _));refine blk_far ?_ NB241_244.out _;(with_reducible repeat (first|refine blk_drewN ?_ _|refine blk_drew ?_|refine blk_alloc ?_ _));exact BK241.out⟩
         have n4_ : Aside0 (((((w29.setCell ⟨gb244,0,none⟩ (.int .i64 ((rd_T29 l0_3 x21_2).f0))).setCell ⟨gb244,1,none⟩ (.string ((rd_T29 l0_3 x21_2).f1))).setCell ⟨gb244,2,none⟩ (.int .i64 ((rd_T29 l0_3 x21_2).f2))).setCell ⟨gb244,3,none⟩ (.slice A243_3 ((rd_T29 l0_3 x21_2).f3).length c243_3)).heap[gb244]? = some (.cells #[.int .i64 ((rd_T29 l0_3 x21_2).f0),.string ((rd_T29 l0_3 x21_2).f1),.int .i64 ((rd_T29 l0_3 x21_2).f2),.slice A243_3 ((rd_T29 l0_3 x21_2).f3).length c243_3] 29 (0,0))):=⟨by (with_reducible repeat (first|refine blk_drewN ?_ _|refine blk_drew ?_|refine blk_alloc ?_ _));refine blk_put (cs:=#[.int .i64 ((rd_T29 l0_3 x21_2).f0),.string ((rd_T29 l0_3 x21_2).f1),.int .i64 ((rd_T29 l0_3 x21_2).f2),.slice none 0 0]) ?_ 3 _ rfl;(with_reducible repeat (first|refine blk_drewN ?_ _|refine blk_drew ?_|refine blk_alloc ?_ _));refine blk_put (cs:=#[.int .i64 ((rd_T29 l0_3 x21_2).f0),.string ((rd_T29 l0_3 x21_2).f1),.int .i64 0,.slice none 0 0]) ?_ 2 _ rfl;(with_reducible repeat (first|refine blk_drewN ?_ _|refine blk_drew ?_|refine blk_alloc ?_ _));refine blk_put (cs:=#[.int .i64 ((rd_T29 l0_3 x21_2).f0),.string (⟨#[]⟩ : ByteArray),.int .i64 0,.slice none 0 0]) ?_ 1 _ rfl;(with_reducible repeat (first|refine blk_drewN ?_ _|refine blk_drew ?_|refine blk_alloc ?_ _));refine blk_put (cs:=#[.int .i64 0,.string (⟨#[]⟩ : ByteArray),.int .i64 0,.slice none 0 0]) ?_ 0 _ rfl;(with_reducible repeat (first|refine blk_drewN ?_ _|refine blk_drew ?_|refine blk_alloc ?_ _));exact BK244.out⟩
         have n5_ : Aside0 (Below w.heap.size w ((((w29.setCell ⟨gb244,0,none⟩ (.int .i64 ((rd_T29 l0_3 x21_2).f0))).setCell ⟨gb244,1,none⟩ (.string ((rd_T29 l0_3 x21_2).f1))).setCell ⟨gb244,2,none⟩ (.int .i64 ((rd_T29 l0_3 x21_2).f2))).setCell ⟨gb244,3,none⟩ (.slice A243_3 ((rd_T29 l0_3 x21_2).f3).length c243_3))):=⟨by repeat (first|(with_reducible first|exact HB.out|apply below_alloc|apply pw_below_drewN|apply below_drew1|refine below_set ?_ GE239.out|refine below_set ?_ GE240.out|refine below_set ?_ GE241.out|refine below_set ?_ GE244.out)|exact HB.out)⟩
         (try clear HO_242003)
         (try clear BK239)
         (try clear BK240)
         (try clear BK241)
         (try clear BK244)
         (try clear HB)
         generalize ((((w29.setCell ⟨gb244,0,none⟩ (.int .i64 ((rd_T29 l0_3 x21_2).f0))).setCell ⟨gb244,1,none⟩ (.string ((rd_T29 l0_3 x21_2).f1))).setCell ⟨gb244,2,none⟩ (.int .i64 ((rd_T29 l0_3 x21_2).f2))).setCell ⟨gb244,3,none⟩ (.slice A243_3 ((rd_T29 l0_3 x21_2).f3).length c243_3)) = w34 at n0_ n1_ n2_ n3_ n4_ n5_ ⊢
         have HO_242003:=n0_
         have BK239:=n1_
         have BK240:=n2_
         have BK241:=n3_
         have BK244:=n4_
         have HB:=n5_
         clear n0_ n1_ n2_ n3_ n4_ n5_
         have n0_:=Aside0.mk (Kd.S_drew HO_242003.out)
         have n1_:=Aside0.mk (blk_drew BK239.out)
         have n2_:=Aside0.mk (blk_drew BK240.out)
         have n3_:=Aside0.mk (blk_drew BK241.out)
         have n4_:=Aside0.mk (blk_drew BK244.out)
         have n5_:=Aside0.mk (below_drew1 HB.out)
         clear HO_242003
         clear BK239
         clear BK240
         clear BK241
         clear BK244
         clear HB
         have HO_242003:=n0_
         have BK239:=n1_
         have BK240:=n2_
         have BK241:=n3_
         have BK244:=n4_
         have HB:=n5_
         clear n0_ n1_ n2_ n3_ n4_ n5_
         refine start_ (n:=9) (S:=fun w' => w'.cell? ⟨gb241,0,none⟩ = some (.int .i64 a0_0) ∧ w'.cell? ⟨gb241,1,none⟩ = some (.string a0_1) ∧ w'.cell? ⟨gb241,2,none⟩ = some (.int .i64 x242002_2) ∧ w'.cell? ⟨gb241,3,none⟩ = some (u242003) ∧ w'.cell? ⟨gb244,0,none⟩ = some (.int .i64 ((rd_T29 l0_3 x21_2).f0)) ∧ w'.cell? ⟨gb244,1,none⟩ = some (.string ((rd_T29 l0_3 x21_2).f1)) ∧ w'.cell? ⟨gb244,2,none⟩ = some (.int .i64 ((rd_T29 l0_3 x21_2).f2)) ∧ w'.cell? ⟨gb244,3,none⟩ = some (.slice A243_3 ((rd_T29 l0_3 x21_2).f3).length c243_3)) (ds:=[8]) #[false,false,false,false,false,false,false,false,false] (by kernel_rfl) rfl rfl ⟨(blk_cell BK241.out 0).trans rfl,(blk_cell BK241.out 1).trans rfl,(blk_cell BK241.out 2).trans rfl,(blk_cell BK241.out 3).trans rfl,(blk_cell BK244.out 0).trans rfl,(blk_cell BK244.out 1).trans rfl,(blk_cell BK244.out 2).trans rfl,(blk_cell BK244.out 3).trans rfl⟩ (fun hHeld => ?_);refine with_tabW impl_renamed.tab8 impl_renamed.bits8 (fun HT_ HW_ => ?_)
         generalize w34.drew = w35 at HO_242003 BK239 BK240 BK241 BK244 HB hHeld ⊢
         refine pure_ (i:=0) (N:=some 25) (v:=?_) (a':=?_) #[true,false,false,false,false,false,false,false,false] rfl rfl (any_of HT_.out (by kernel_rfl)) (fun _ _ _ h => h) (Or.inl ⟨by rfl,?_⟩) ?_ ?_
         rotate_left
         ·intro w'
          go_simp
          with_reducible rfl
         rotate_left
         ·simp only [Act.put,List.setIfInBounds_toArray,List.set_cons_zero,List.set_cons_succ,i64_w,i32_w]
          rfl
         refine pure_ (i:=3) (N:=some 28) (v:=?_) (a':=?_) #[true,false,false,true,false,false,false,false,false] rfl rfl (any_of HT_.out (by kernel_rfl)) (fun _ _ _ h => h) (Or.inl ⟨by rfl,?_⟩) ?_ ?_
         rotate_left
         ·intro w'
          go_simp
          with_reducible rfl
         rotate_left
         ·simp only [Act.put,List.setIfInBounds_toArray,List.set_cons_zero,List.set_cons_succ,i64_w,i32_w]
          rfl
         refine take_ (i:=1) (N:=some 26) (v:=?_) (a':=?_) #[true,true,false,true,false,false,false,false,false] rfl rfl (take_ofW HT_.out HW_.out (by kernel_rfl)) (fun _ _ _ h => h) (Or.inl ⟨by rfl,?_⟩) hHeld ?_ ?_
         rotate_left
         ·rintro w' ⟨s0,s1,s2,s3,s4,s5,s6,s7⟩
          go_simp
          with_reducible rfl
         rotate_left
         ·simp only [Act.put,List.setIfInBounds_toArray,List.set_cons_zero,List.set_cons_succ,i64_w,i32_w]
          rfl
         refine take_ (i:=2) (N:=some 27) (v:=?_) (a':=?_) #[true,true,true,true,false,false,false,false,false] rfl rfl (take_ofW HT_.out HW_.out (by kernel_rfl)) (fun _ _ _ h => h) (Or.inl ⟨by rfl,?_⟩) hHeld ?_ ?_
         rotate_left
         ·rintro w' ⟨s0,s1,s2,s3,s4,s5,s6,s7⟩
          go_simp
          with_reducible rfl
         rotate_left
         ·simp only [Act.put,List.setIfInBounds_toArray,List.set_cons_zero,List.set_cons_succ,i64_w,i32_w]
          rfl
         refine one_ (i:=4) (N:=some 29) #[true,true,true,true,true,false,false,false,false] rfl rfl (one_of HT_.out (by kernel_rfl)) (by decide) (fun K hK => ?_)
         refine goes_ Try.func89 (by kernel_rfl) rfl #[.agg #[.int .i64 ((rd_T29 l0_3 x21_2).f0),.string ((rd_T29 l0_3 x21_2).f1),.int .i64 ((rd_T29 l0_3 x21_2).f2),.slice A243_3 ((rd_T29 l0_3 x21_2).f3).length c243_3],.func (.func 90) #[] #[.pointer (some ⟨ShBy.gq,0,none⟩)]] (by rfl) rfl rfl (by (try simp only [List.map_toArray,List.map_cons,List.map_nil]);first|done|rfl|(simp only [List.length_drop,List.length_take];rfl)) ?_
         with_reducible refine (ih k2 (by have:=HJ2.out;have:=HK2.out;omega) ((rd_T29 l0_3 x21_2).f0) ((rd_T29 l0_3 x21_2).f1) ((rd_T29 l0_3 x21_2).f2) _ _ ((rd_T29 l0_3 x21_2).f3) a1 t245 t246 t247 t248 _ ?side3 ?side1 ?side2 A27.out).mono ?_
         (case side3 => refine (Below.cell (B:=w.heap.size) ?hbr HQL.out).trans HQ.out;(repeat (first|(with_reducible first|exact HB.out|apply below_alloc|apply pw_below_drewN|apply below_drew1)|exact HB.out)))
         (case side1 => repeat (first|exact (Kd.C_below HR243_3.out HB.out)|(with_reducible refine Kd.C_alloc ?_ _)|(with_reducible refine Kd.C_drewN ?_ _)|(with_reducible refine Kd.C_drew ?_)))
         (case side2 => exact HC243_3.out)
         rintro e w36 ⟨v249,rfl,ho0,hb⟩
         refine ⟨_,rfl,?_⟩
         have n0_:=Aside0.mk (S_elderD (by (with_reducible repeat (first|apply Kd.S_alloc|apply Kd.S_drewN|apply Kd.S_drew));exact HO_242003.out) (Kd.S_base ho0) hb)
         have n1_:=Aside0.mk (Kd.S_lower (Kd.S_newB (Kd.S_newB (Kd.S_newB (Kd.S_newB (Kd.S_new' (S_newD ho0) (Kd.S_lt (by (with_reducible repeat (first|apply Kd.S_alloc|apply Kd.S_drewN|apply Kd.S_drew));exact HO_242003.out))) (g:=gb239) (o:=.cells #[.int .i64 a0_0,.string a0_1,.int .i64 a0_2,.slice (some ad243) l0_3.length c0_3] 29 (0,0)) (by (with_reducible repeat (first|refine blk_drewN ?_ _|refine blk_drew ?_|refine blk_alloc ?_ _));exact BK239.out)) (g:=gb240) (o:=.cells #[.int .i64 0,.string (⟨#[]⟩ : ByteArray),.int .i64 0,.slice none 0 0] 29 (0,0)) (by (with_reducible repeat (first|refine blk_drewN ?_ _|refine blk_drew ?_|refine blk_alloc ?_ _));exact BK240.out)) (g:=gb241) (o:=.cells #[.int .i64 a0_0,.string a0_1,.int .i64 x242002_2,u242003] 29 (0,0)) (by (with_reducible repeat (first|refine blk_drewN ?_ _|refine blk_drew ?_|refine blk_alloc ?_ _));exact BK241.out)) (g:=gb244) (o:=.cells #[.int .i64 ((rd_T29 l0_3 x21_2).f0),.string ((rd_T29 l0_3 x21_2).f1),.int .i64 ((rd_T29 l0_3 x21_2).f2),.slice A243_3 ((rd_T29 l0_3 x21_2).f3).length c243_3] 29 (0,0)) (by (with_reducible repeat (first|refine blk_drewN ?_ _|refine blk_drew ?_|refine blk_alloc ?_ _));exact BK244.out)) (below_size (by repeat (first|(with_reducible first|exact HB.out|apply below_alloc|apply pw_below_drewN|apply below_drew1|refine below_set ?_ GE239.out|refine below_set ?_ GE240.out|refine below_set ?_ GE241.out|refine below_set ?_ GE244.out)|exact HB.out))))
         have n2_:=Aside0.mk (blk_below (g:=gb239) (o:=.cells #[.int .i64 a0_0,.string a0_1,.int .i64 a0_2,.slice (some ad243) l0_3.length c0_3] 29 (0,0)) (by (with_reducible repeat (first|refine blk_drewN ?_ _|refine blk_drew ?_|refine blk_alloc ?_ _));exact BK239.out) hb)
         have n3_:=Aside0.mk (blk_below (g:=gb240) (o:=.cells #[.int .i64 0,.string (⟨#[]⟩ : ByteArray),.int .i64 0,.slice none 0 0] 29 (0,0)) (by (with_reducible repeat (first|refine blk_drewN ?_ _|refine blk_drew ?_|refine blk_alloc ?_ _));exact BK240.out) hb)
         have n4_:=Aside0.mk (blk_below (g:=gb241) (o:=.cells #[.int .i64 a0_0,.string a0_1,.int .i64 x242002_2,u242003] 29 (0,0)) (by (with_reducible repeat (first|refine blk_drewN ?_ _|refine blk_drew ?_|refine blk_alloc ?_ _));exact BK241.out) hb)
         have n5_:=Aside0.mk (blk_below (g:=gb244) (o:=.cells #[.int .i64 ((rd_T29 l0_3 x21_2).f0),.string ((rd_T29 l0_3 x21_2).f1),.int .i64 ((rd_T29 l0_3 x21_2).f2),.slice A243_3 ((rd_T29 l0_3 x21_2).f3).length c243_3] 29 (0,0)) (by (with_reducible repeat (first|refine blk_drewN ?_ _|refine blk_drew ?_|refine blk_alloc ?_ _));exact BK244.out) hb)
         have n6_:=Aside0.mk (below_step (by repeat (first|(with_reducible first|exact HB.out|apply below_alloc|apply pw_below_drewN|apply below_drew1|refine below_set ?_ GE239.out|refine below_set ?_ GE240.out|refine below_set ?_ GE241.out|refine below_set ?_ GE244.out)|exact HB.out)) hb)
         clear HO_242003
         clear BK239
         clear BK240
         clear BK241
         clear BK244
         clear HB
         have HO_242003:=n0_
         have HO250:=n1_
         have BK239:=n2_
         have BK240:=n3_
         have BK241:=n4_
         have BK244:=n5_
         have HB:=n6_
         clear n0_ n1_ n2_ n3_ n4_ n5_ n6_
         (try clear hb)
         (try clear hb2)
         (try clear hk)
         (try clear hi)
         (try clear ho0)
         obtain ⟨Ao38,co38,eo38⟩:=Kd.S_slice HO250.out
         (first|subst eo38|(injection eo38 with f1_ f2_ f3_;have f4_:=f1_.symm;have f5_:=f3_.symm;clear f1_ f2_ f3_;subst f4_;subst f5_))
         refine hK.out _ _ ⟨(blk_cell BK241.out 0).trans rfl,(blk_cell BK241.out 1).trans rfl,(blk_cell BK241.out 2).trans rfl,(blk_cell BK241.out 3).trans rfl,(blk_cell BK244.out 0).trans rfl,(blk_cell BK244.out 1).trans rfl,(blk_cell BK244.out 2).trans rfl,(blk_cell BK244.out 3).trans rfl⟩ (fun hHeld => ?_)
         clear hK K
         refine norm_ (a':=?_) ?_ ?_
         rotate_left
         ·show Act.put _ (some 29) _ = _
          simp only [Act.put,List.setIfInBounds_toArray,List.set_cons_zero,List.set_cons_succ,i64_w,i32_w]
          rfl
         refine one_ (i:=5) (N:=some 30) #[true,true,true,true,true,true,false,false,false] rfl rfl (one_of HT_.out (by kernel_rfl)) (by decide) (fun K hK => ?_)
         refine value_ (w1:=?_) (v:=?_) (by rfl) rfl ?_ ?_
         rotate_left 2
         ·go_simp
          constructor
          ·rfl
          ·rfl
         refine hK.out _ _ ⟨(blk_cell (blk_alloc BK241.out _) 0).trans rfl,(blk_cell (blk_alloc BK241.out _) 1).trans rfl,(blk_cell (blk_alloc BK241.out _) 2).trans rfl,(blk_cell (blk_alloc BK241.out _) 3).trans rfl,(blk_cell (blk_alloc BK244.out _) 0).trans rfl,(blk_cell (blk_alloc BK244.out _) 1).trans rfl,(blk_cell (blk_alloc BK244.out _) 2).trans rfl,(blk_cell (blk_alloc BK244.out _) 3).trans rfl⟩ (fun hHeld => ?_)
         clear hK K
         refine norm_ (a':=?_) ?_ ?_
         rotate_left
         ·show Act.put _ (some 30) _ = _
          simp only [Act.put,List.setIfInBounds_toArray,List.set_cons_zero,List.set_cons_succ,i64_w,i32_w]
          rfl
         refine one_ (i:=6) (N:=some 31) #[true,true,true,true,true,true,true,false,false] rfl rfl (one_of HT_.out (by kernel_rfl)) (by decide) (fun K hK => ?_)
         refine Kd.S_append_step kD29 (w0:=w) w.heap.size (by rfl) (.tmp 26) (.tmp 30) 27 29 (.agg #[(.int .i64 0),(.string ⟨#[]⟩),(.int .i64 0),(.slice none 0 0)]) 56 rfl Try.underlying27 info29 rfl (by decide) (by omega) u242003 x242003_2 (⟨t245,t246,t247,t248⟩ : S29) [.int .i64 t245,.string t246,.int .i64 t247,.slice Ao38 t248.length co38] (fun k_ => k_ ≠ gb239 ∧ k_ ≠ gb240 ∧ k_ ≠ gb241 ∧ k_ ≠ gb244) (fun k_ => ((fun k_ => ((fun k_ => k_ ≠ gb239 ∧ k_ ≠ gb240 ∧ k_ ≠ gb241 ∧ k_ ≠ gb244)) k_ ∧ some k_ ≠ (u242003 : Value).ownBlock)) k_ ∧ w35.heap.size ≤ k_) rfl rfl ?aP (fun _ hk => hk.1) ?aF ?aO ?aB ?aS ?aL ?_
         (case aP => exact kD29_mkM _ _ _ (⟨t245,t246,t247,t248⟩ : S29) (Kd.S_mono (HO250.out) (fun k_ hk => ⟨⟨⟨hk.1.1.1.2,⟨hk.1.1.2,⟨hk.1.2,hk.2⟩⟩⟩,hk.1.1.1.1.2⟩,(by first|exact hk.1.2|exact hk.1.1.2|exact hk.1.1.1.2|exact hk.1.1.1.1.2|exact hk.1.1.1.1.1.2|exact hk.1.1.1.1.1.1.2)⟩)))
         (case aB => exact (by repeat (first|(with_reducible first|exact HB.out|apply below_alloc|apply pw_below_drewN|apply below_drew1|refine below_set ?_ GE239.out|refine below_set ?_ GE240.out|refine below_set ?_ GE241.out|refine below_set ?_ GE244.out)|exact HB.out)))
         (case aF => exact (fun k_ hk => ⟨Kd.freshB (g:=gb239) (o:=.cells #[.int .i64 a0_0,.string a0_1,.int .i64 a0_2,.slice (some ad243) l0_3.length c0_3] 29 (0,0)) (by (with_reducible repeat (first|refine blk_drewN ?_ _|refine blk_drew ?_|refine blk_alloc ?_ _));exact BK239.out) k_ hk,Kd.freshB (g:=gb240) (o:=.cells #[.int .i64 0,.string (⟨#[]⟩ : ByteArray),.int .i64 0,.slice none 0 0] 29 (0,0)) (by (with_reducible repeat (first|refine blk_drewN ?_ _|refine blk_drew ?_|refine blk_alloc ?_ _));exact BK240.out) k_ hk,Kd.freshB (g:=gb241) (o:=.cells #[.int .i64 a0_0,.string a0_1,.int .i64 x242002_2,u242003] 29 (0,0)) (by (with_reducible repeat (first|refine blk_drewN ?_ _|refine blk_drew ?_|refine blk_alloc ?_ _));exact BK241.out) k_ hk,Kd.freshB (g:=gb244) (o:=.cells #[.int .i64 ((rd_T29 l0_3 x21_2).f0),.string ((rd_T29 l0_3 x21_2).f1),.int .i64 ((rd_T29 l0_3 x21_2).f2),.slice A243_3 ((rd_T29 l0_3 x21_2).f3).length c243_3] 29 (0,0)) (by (with_reducible repeat (first|refine blk_drewN ?_ _|refine blk_drew ?_|refine blk_alloc ?_ _));exact BK244.out) k_ hk⟩))
         (case aO => exact (by (with_reducible repeat (first|apply Kd.S_alloc|apply Kd.S_drewN|apply Kd.S_drew));exact Kd.S_mono HO_242003.out (fun _ hk => ⟨⟨hk.1.1.1,⟨hk.1.1.2.1,⟨hk.1.1.2.2.1,hk.1.1.2.2.2⟩⟩⟩,fun h_ => absurd h_.2 (Nat.not_le_of_lt hk.2)⟩)))
         (case aS => exact (below_size (by repeat (first|(with_reducible first|exact HB.out|apply below_alloc|apply pw_below_drewN|apply below_drew1|refine below_set ?_ GE239.out|refine below_set ?_ GE240.out|refine below_set ?_ GE241.out|refine below_set ?_ GE244.out)|exact HB.out))))
         (case aL => have:=LMc28.out;omega)
         intro v252 w37 ho hb hg hat
         rw [← Ny251.out] at ho
         have n0_:=Aside0.mk (blk_grown (g:=gb239) (o:=.cells #[.int .i64 a0_0,.string a0_1,.int .i64 a0_2,.slice (some ad243) l0_3.length c0_3] 29 (0,0)) (by (with_reducible repeat (first|refine blk_drewN ?_ _|refine blk_drew ?_|refine blk_alloc ?_ _));exact BK239.out) hg (Kd.S_away HO_242003.out (fun _ hk => hk.1.1.1)))
         have n1_:=Aside0.mk (blk_grown (g:=gb240) (o:=.cells #[.int .i64 0,.string (⟨#[]⟩ : ByteArray),.int .i64 0,.slice none 0 0] 29 (0,0)) (by (with_reducible repeat (first|refine blk_drewN ?_ _|refine blk_drew ?_|refine blk_alloc ?_ _));exact BK240.out) hg (Kd.S_away HO_242003.out (fun _ hk => hk.1.1.2.1)))
         have n2_:=Aside0.mk (blk_grown (g:=gb241) (o:=.cells #[.int .i64 a0_0,.string a0_1,.int .i64 x242002_2,u242003] 29 (0,0)) (by (with_reducible repeat (first|refine blk_drewN ?_ _|refine blk_drew ?_|refine blk_alloc ?_ _));exact BK241.out) hg (Kd.S_away HO_242003.out (fun _ hk => hk.1.1.2.2.1)))
         have n3_:=Aside0.mk (blk_grown (g:=gb244) (o:=.cells #[.int .i64 ((rd_T29 l0_3 x21_2).f0),.string ((rd_T29 l0_3 x21_2).f1),.int .i64 ((rd_T29 l0_3 x21_2).f2),.slice A243_3 ((rd_T29 l0_3 x21_2).f3).length c243_3] 29 (0,0)) (by (with_reducible repeat (first|refine blk_drewN ?_ _|refine blk_drew ?_|refine blk_alloc ?_ _));exact BK244.out) hg (Kd.S_away HO_242003.out (fun _ hk => hk.1.1.2.2.2)))
         have n4_:=Aside0.mk (hb)
         have n5_:=Aside0.mk (ho)
         clear BK239
         clear BK240
         clear BK241
         clear BK244
         clear HB
         clear HO_242003
         clear HO250
         have BK239:=n0_
         have BK240:=n1_
         have BK241:=n2_
         have BK244:=n3_
         have HB:=n4_
         have HO253:=n5_
         clear n0_ n1_ n2_ n3_ n4_ n5_
         clear ho hb hg hat
         obtain ⟨Ao39,co39,eo39⟩:=Kd.S_slice HO253.out
         (first|subst eo39|(injection eo39 with f1_ f2_ f3_;have f4_:=f1_.symm;have f5_:=f3_.symm;clear f1_ f2_ f3_;subst f4_;subst f5_))
         refine hK.out _ _ ⟨(blk_cell BK241.out 0).trans rfl,(blk_cell BK241.out 1).trans rfl,(blk_cell BK241.out 2).trans rfl,(blk_cell BK241.out 3).trans rfl,(blk_cell BK244.out 0).trans rfl,(blk_cell BK244.out 1).trans rfl,(blk_cell BK244.out 2).trans rfl,(blk_cell BK244.out 3).trans rfl⟩ (fun hHeld => ?_)
         clear hK K
         refine norm_ (a':=?_) ?_ ?_
         rotate_left
         ·show Act.put _ (some 31) _ = _
          simp only [Act.put,List.setIfInBounds_toArray,List.set_cons_zero,List.set_cons_succ,i64_w,i32_w]
          rfl
         refine pure_ (i:=7) (N:=some 32) (v:=?_) (a':=?_) #[true,true,true,true,true,true,true,true,false] rfl rfl (any_of HT_.out (by kernel_rfl)) (fun _ _ _ h => h) (Or.inl ⟨by rfl,?_⟩) ?_ ?_
         rotate_left
         ·intro w'
          go_simp
          with_reducible rfl
         rotate_left
         ·simp only [Act.put,List.setIfInBounds_toArray,List.set_cons_zero,List.set_cons_succ,i64_w,i32_w]
          rfl
         refine last_ (i:=8) (N:=none) #[true,true,true,true,true,true,true,true,true] rfl rfl (one_of HT_.out (by kernel_rfl)) (by decide) (fun K hK => ?_)
         have hs40 : w37.cell? ⟨gb241,3,none⟩ = some (u242003):=(blk_cell BK241.out 3).trans rfl
         have hfs40:=blk_frozen BK241.out 3
         have hns40_0:=NB239_241.out
         have hns40_1:=NB240_241.out
         have hns40_3:=NB244_241.out
         have hms40_0:=NB241_239.out
         have hms40_1:=NB241_240.out
         have hms40_3:=NB241_244.out
         refine skip_ (w1:=?_) (by rfl) rfl ?_ ?_
         rotate_left
         ·go_simp
          rfl
         refine hK.out _ _ ?_
         clear hK K
         refine done_ (done_of HT_.out (by kernel_rfl)) ?_
         try go_wp2
         go_roundg k2
         case measure => have:=HJ2.out;have:=HK2.out;omega
         case rel => exact ⟨(wrap64 (x21_2 + 1)),(y251),(.slice Ao39 y251.length co39),(by first|rfl|(simp;done)|(simp [*];done)),H',⟨by have:=HJ2.out;have:=HK2.out;omega⟩,⟨by (with_reducible repeat (first|apply Kd.S_alloc|apply Kd.S_drewN|apply Kd.S_drew));exact Kd.S_mono (Kd.S_far (p:=⟨gb241,3,none⟩) (Kd.S_mono HO253.out (fun k_ hk => (⟨hk,hk.2.2.1⟩ : _ ∧ k_ ≠ gb241))) (fun _ hk => hk.2) (.slice Ao39 y251.length co39)) (fun _ hk => ⟨hk.1.1,⟨hk.1.2.1,hk.1.2.2.1⟩⟩)⟩,⟨by (with_reducible repeat (first|refine blk_drewN ?_ _|refine blk_drew ?_|refine blk_alloc ?_ _));refine blk_far ?_ NB239_241.out _;(with_reducible repeat (first|refine blk_drewN ?_ _|refine blk_drew ?_|refine blk_alloc ?_ _));exact BK239.out⟩,⟨by (with_reducible repeat (first|refine blk_drewN ?_ _|refine blk_drew ?_|refine blk_alloc ?_ _));refine blk_far ?_ NB240_241.out _;(with_reducible repeat (first|refine blk_drewN ?_ _|refine blk_drew ?_|refine blk_alloc ?_ _));exact BK240.out⟩,⟨by (with_reducible repeat (first|refine blk_drewN ?_ _|refine blk_drew ?_|refine blk_alloc ?_ _));refine blk_put (cs:=#[.int .i64 a0_0,.string a0_1,.int .i64 x242002_2,u242003]) ?_ 3 _ rfl;(with_reducible repeat (first|refine blk_drewN ?_ _|refine blk_drew ?_|refine blk_alloc ?_ _));exact BK241.out⟩,⟨by repeat (first|(with_reducible first|exact HB.out|apply below_alloc|apply pw_below_drewN|apply below_drew1|refine below_set ?_ GE239.out|refine below_set ?_ GE240.out|refine below_set ?_ GE241.out|refine below_set ?_ GE244.out)|exact HB.out)⟩⟩
        ·rw [if_neg c28] at H
         exact absurd H (by simp)
       ·rw [if_neg c26] at H
        exact absurd H (by simp)
      ·rw [if_neg c25] at H
       exact absurd H (by simp)
     ·rw [if_neg c24] at H
      have c24b0 : decide (x21_2 < (l0_3.length : Int)) = false:=decide_eq_false c24
      clear c24
      simp only [Option.some.injEq,Prod.mk.injEq] at H
      obtain ⟨rfl,rfl,rfl,rfl⟩:=H
      have hnb41:=NB241_239.out
      have hnc41:=NB239_241.out
      have hnb42:=NB241_240.out
      have hnc42:=NB240_241.out
      have hcz43_0 : wr.cell? ⟨gb241,0,none⟩ = some (.int .i64 a0_0):=(blk_cell BK241.out 0).trans rfl
      have hcz43_1 : wr.cell? ⟨gb241,1,none⟩ = some (.string a0_1):=(blk_cell BK241.out 1).trans rfl
      have hcz43_2 : wr.cell? ⟨gb241,2,none⟩ = some (.int .i64 x242002_2):=(blk_cell BK241.out 2).trans rfl
      have hcz43_3 : wr.cell? ⟨gb241,3,none⟩ = some (u242003):=(blk_cell BK241.out 3).trans rfl
      have hfz43_0:=blk_frozen BK241.out 0
      have hfz43_1:=blk_frozen BK241.out 1
      have hfz43_2:=blk_frozen BK241.out 2
      have hfz43_3:=blk_frozen BK241.out 3
      have hnb44:=NB240_239.out
      have hnc44:=NB239_240.out
      have hcz45_0 : wr.cell? ⟨gb240,0,none⟩ = some (.int .i64 0):=(blk_cell BK240.out 0).trans rfl
      have hcz45_1 : wr.cell? ⟨gb240,1,none⟩ = some (.string (⟨#[]⟩ : ByteArray)):=(blk_cell BK240.out 1).trans rfl
      have hcz45_2 : wr.cell? ⟨gb240,2,none⟩ = some (.int .i64 0):=(blk_cell BK240.out 2).trans rfl
      have hcz45_3 : wr.cell? ⟨gb240,3,none⟩ = some (.slice none 0 0):=(blk_cell BK240.out 3).trans rfl
      have hfz45_0:=blk_frozen BK240.out 0
      have hfz45_1:=blk_frozen BK240.out 1
      have hfz45_2:=blk_frozen BK240.out 2
      have hfz45_3:=blk_frozen BK240.out 3
      obtain ⟨Ao46,co46,eo46⟩:=Kd.S_slice HO_242003.out
      subst eo46
      go_wp2
      refine bodyPost_ret (results_cell_row rfl _ _ gb240 29 #[.int .i64 a0_0,.string a0_1,.int .i64 x242002_2,.slice Ao46 x242003_2.length co46] (0,0) _ rfl (by (with_reducible repeat (first|refine blk_drewN ?_ _|refine blk_drew ?_|refine blk_alloc ?_ _));refine blk_put (cs:=#[.int .i64 a0_0,.string a0_1,.int .i64 x242002_2,.slice none 0 0]) ?_ 3 _ rfl;(with_reducible repeat (first|refine blk_drewN ?_ _|refine blk_drew ?_|refine blk_alloc ?_ _));refine blk_put (cs:=#[.int .i64 a0_0,.string a0_1,.int .i64 0,.slice none 0 0]) ?_ 2 _ rfl;(with_reducible repeat (first|refine blk_drewN ?_ _|refine blk_drew ?_|refine blk_alloc ?_ _));refine blk_put (cs:=#[.int .i64 a0_0,.string (⟨#[]⟩ : ByteArray),.int .i64 0,.slice none 0 0]) ?_ 1 _ rfl;(with_reducible repeat (first|refine blk_drewN ?_ _|refine blk_drew ?_|refine blk_alloc ?_ _));refine blk_put (cs:=#[.int .i64 0,.string (⟨#[]⟩ : ByteArray),.int .i64 0,.slice none 0 0]) ?_ 0 _ rfl;(with_reducible repeat (first|refine blk_drewN ?_ _|refine blk_drew ?_|refine blk_alloc ?_ _));exact BK240.out) Try.underlying29 rfl (by kernel_rfl)) rfl ?_
      exact ⟨_,by first|rfl|(simp [errW_none,errW_some] <;> rfl)|(simp [*,errW_none,errW_some] <;> rfl),by (with_reducible repeat (first|apply Kd.S_alloc|apply Kd.S_drewN|apply Kd.S_drew));exact Kd.S_mono (Kd.S_far (p:=⟨gb240,3,none⟩) (Kd.S_far (p:=⟨gb240,2,none⟩) (Kd.S_far (p:=⟨gb240,1,none⟩) (Kd.S_far (p:=⟨gb240,0,none⟩) (Kd.S_mono HO_242003.out (fun k_ hk => (⟨hk,hk.2.1⟩ : _ ∧ k_ ≠ gb240))) (fun _ hk => hk.2) (.int .i64 a0_0)) (fun _ hk => hk.2) (.string a0_1)) (fun _ hk => hk.2) (.int .i64 x242002_2)) (fun _ hk => hk.2) (.slice Ao46 x242003_2.length co46)) (fun _ hk => trivial),by repeat (first|(with_reducible first|exact HB.out|apply below_alloc|apply pw_below_drewN|apply below_drew1|refine below_set ?_ GE239.out|refine below_set ?_ GE240.out|refine below_set ?_ GE241.out)|exact HB.out)⟩

-- NOT PRINTED: function 81 (impl_copyTerm)
end
mutual
def shT (by_ : Int) : S29 → S29
 | ⟨a, n, b, ks⟩ => ⟨a, n, if a = 1 then wrap64 (b + by_) else b, shS by_ ks⟩
def shS (by_ : Int) : List S29 → List S29
 | [] => []
 | t :: ts => shT by_ t :: shS by_ ts
end
theorem shT_eq (by_ : Int) (t : S29) : shT by_ t = ⟨t.f0,t.f1,if t.f0 = 1 then wrap64 (t.f2 + by_) else t.f2,shS by_ t.f3⟩:=by cases t;rw [shT]
theorem shS_map (by_ : Int) : ∀ ts : List S29,shS by_ ts = ts.map (shT by_)
 | [] => rfl
 | t :: ts => by rw [shS, List.map_cons, shS_map by_ ts]
theorem sh_keeps (by_ : Int) (n : Nat) : (∀ t,ht29 t ≤ n → cn29 (shT by_ t) = cn29 t ∧ ht29 (shT by_ t) = ht29 t ∧ (nm29 t → nm29 (shT by_ t))) ∧ ∀ ts,hts29 ts ≤ n → cns29 (shS by_ ts) = cns29 ts ∧ hts29 (shS by_ ts) = hts29 ts ∧ (nms29 ts → nms29 (shS by_ ts)):=by
 induction n with
 | zero =>
  refine ⟨fun t h => by rw [ht29_eq] at h;omega,fun ts h => ?_⟩
  cases ts with
  | nil => rw [shS]; exact ⟨rfl, rfl, fun h => h⟩
  | cons t ts => rw [hts29] at h; have := ht29_eq t; omega
 | succ n ih =>
  have h1 : ∀ t,ht29 t ≤ n + 1 → cn29 (shT by_ t) = cn29 t ∧ ht29 (shT by_ t) = ht29 t ∧ (nm29 t → nm29 (shT by_ t)):=fun t h => by
   rw [ht29_eq] at h
   obtain ⟨h2,h3,h4⟩:=ih.2 t.f3 (by omega)
   rw [shT_eq,cn29_eq,cn29_eq t,ht29_eq,ht29_eq t]
   exact ⟨by rw [h2],by rw [h3],fun h => (nm29_eq _).2 ⟨((nm29_eq t).1 h).1,h4 ((nm29_eq t).1 h).2⟩⟩
  refine ⟨h1,fun ts => ?_⟩
  induction ts with
  | nil => intro _; rw [shS]; exact ⟨rfl, rfl, fun h => h⟩
  | cons t ts ih2 =>
   intro h
   rw [hts29] at h
   obtain ⟨a1,a2,a3⟩:=h1 t (by omega)
   obtain ⟨b1,b2,b3⟩:=ih2 (by omega)
   rw [shS,cns29,cns29,hts29,hts29,a1,a2,b1,b2]
   exact ⟨rfl,rfl,fun h => ⟨a3 h.1,b3 h.2⟩⟩
theorem sh_none (by_ : Int) (n : Nat) : (∀ t,ht29 t ≤ n → vsT t [] = [] → shT by_ t = t) ∧ ∀ ts,hts29 ts ≤ n → vsS ts [] = [] → shS by_ ts = ts:=by
 have grow : ∀ (m : Nat),(∀ t l,ht29 t ≤ m → l.length ≤ (vsT t l).length) ∧ ∀ ts l,hts29 ts ≤ m → l.length ≤ (vsS ts l).length:=by
  intro m
  induction m with
  | zero =>
   refine ⟨fun t l h => by rw [ht29_eq] at h;omega,fun ts l h => ?_⟩
   cases ts with
   | nil => rw [vsS]; exact Nat.le_refl _
   | cons t ts => rw [hts29] at h; have := ht29_eq t; omega
  | succ m ih =>
   have h1 : ∀ t l,ht29 t ≤ m + 1 → l.length ≤ (vsT t l).length:=fun t l h => by
    rw [ht29_eq] at h
    have h2:=ih.2 t.f3 (hdV t l) (by omega)
    rw [vsT_eq]
    refine Nat.le_trans ?_ h2
    unfold hdV
    split
    ·rw [List.length_append];omega
    ·exact Nat.le_refl _
   refine ⟨h1,fun ts => ?_⟩
   induction ts with
   | nil => intro l _; rw [vsS]; exact Nat.le_refl _
   | cons t ts ih2 =>
    intro l h
    rw [hts29] at h
    rw [vsS]
    exact Nat.le_trans (h1 t l (by omega)) (ih2 (vsT t l) (by omega))
 induction n with
 | zero =>
  refine ⟨fun t h => by rw [ht29_eq] at h;omega,fun ts h _ => ?_⟩
  cases ts with
  | nil => rfl
  | cons t ts => rw [hts29] at h; have := ht29_eq t; omega
 | succ n ih =>
  have h1 : ∀ t,ht29 t ≤ n + 1 → vsT t [] = [] → shT by_ t = t:=fun t h hv => by
   rw [ht29_eq] at h
   rw [vsT_eq] at hv
   have hg:=(grow n).2 t.f3 (hdV t []) (by omega)
   rw [hv] at hg
   have hd : hdV t [] = []:=List.eq_nil_of_length_eq_zero (by simpa using hg)
   have hne : t.f0 ≠ 1:=fun e => by
    unfold hdV at hd
    rw [if_pos ⟨e,rfl⟩] at hd
    simp at hd
   rw [hd] at hv
   rw [shT_eq,if_neg hne,ih.2 t.f3 (by omega) hv]
   exact eta29 t
  refine ⟨h1,fun ts => ?_⟩
  induction ts with
  | nil => intro _ _; rfl
  | cons t ts ih2 =>
   intro h hv
   rw [hts29] at h
   rw [vsS] at hv
   have hg:=(grow (n + 1)).2 ts (vsT t []) (by omega)
   rw [hv] at hg
   have hd : vsT t [] = []:=List.eq_nil_of_length_eq_zero (by simpa using hg)
   rw [hd] at hv
   rw [shS,h1 t (by omega) hd,ih2 (by omega) hv]
theorem shren_ev [ShBy] (n : Nat) : ∀ (t : S29),ht29 t ≤ n → cn29 t ≤ 1048577 → ∃ K,∀ k,K ≤ k → sh_renamed.f k t.f0 t.f1 t.f2 t.f3 0 = some ((shT ShBy.by_ t).f0,(shT ShBy.by_ t).f1,(shT ShBy.by_ t).f2,(shT ShBy.by_ t).f3):=by
 induction n with
 | zero => intro t h; rw [ht29_eq] at h; omega
 | succ n ih =>
  intro t h hc
  rw [ht29_eq] at h
  rw [cn29_eq] at hc
  have hlen : t.f3.length ≤ 1048576:=by have:=cns29_len t.f3;omega
  have hl : ∀ (a2 : Int) (d i : Nat) (ys : List S29),i ≤ t.f3.length → t.f3.length - i = d → ys.length = i → Ev (fun k => sh_renamed.l0 k 0 t.f3 t.f3.length i t.f0 t.f1 a2 ys) (t.f0,t.f1,a2,ys ++ shS ShBy.by_ (t.f3.drop i)):=by
   intro a2 d
   induction d with
   | zero =>
    intro i ys hi hd hy
    refine Ev.step (f:=fun _ => some (t.f0,t.f1,a2,ys)) (fun k => ?_) ?_
    ·simp only [sh_renamed.l0];rw [if_neg (by omega)]
    ·rw [List.drop_eq_nil_of_le (by omega),shS,List.append_nil];exact Ev.now _
   | succ d ihd =>
    intro i ys hi hd hy
    have hlt : i < t.f3.length:=by omega
    refine Ev.step (f:=fun k => (sh_renamed.f k t.f3[i].f0 t.f3[i].f1 t.f3[i].f2 t.f3[i].f3 0).bind fun b => sh_renamed.l0 k 0 t.f3 t.f3.length ((i + 1 : Nat) : Int) t.f0 t.f1 a2 (ys ++ [⟨b.1,b.2.1,b.2.2.1,b.2.2.2⟩])) (fun k => ?_) ?_
    ·simp only [sh_renamed.l0]
     rw [if_pos (by omega),if_pos (by omega),if_pos (by omega),rd29_at t.f3 i hlt,next_i i _ hlt hlen]
     have : ys.length < 2513169434916:=by omega
     simp only [if_pos this]
    ·refine Ev.bind (f:=fun k b => sh_renamed.l0 k 0 t.f3 t.f3.length ((i + 1 : Nat) : Int) t.f0 t.f1 a2 (ys ++ [⟨b.1,b.2.1,b.2.2.1,b.2.2.2⟩])) (ih t.f3[i] (by have:=hts29_mem (List.getElem_mem hlt);omega) (by have:=cns29_mem (List.getElem_mem hlt);omega)) ?_
     have h2:=ihd (i + 1) (ys ++ [shT ShBy.by_ t.f3[i]]) (by omega) (by omega) (by simp;omega)
     rw [List.append_assoc,List.singleton_append] at h2
     rw [List.drop_eq_getElem_cons hlt,shS]
     show Ev (fun k => sh_renamed.l0 k 0 t.f3 t.f3.length ((i + 1 : Nat) : Int) t.f0 t.f1 a2 (ys ++ [(⟨(shT ShBy.by_ t.f3[i]).f0,(shT ShBy.by_ t.f3[i]).f1,(shT ShBy.by_ t.f3[i]).f2,(shT ShBy.by_ t.f3[i]).f3⟩ : S29)])) _
     rw [eta29]
     exact h2
  have hj : ∀ a2,Ev (fun k => sh_renamed.j0 k 0 t.f0 t.f1 t.f2 t.f3 t.f0 t.f1 a2) (t.f0,t.f1,a2,shS ShBy.by_ t.f3):=fun a2 => by
   refine Ev.step (f:=fun k => sh_renamed.l0 k 0 t.f3 t.f3.length 0 t.f0 t.f1 a2 []) (fun k => by simp only [sh_renamed.j0]) ?_
   have:=hl a2 t.f3.length 0 [] (by omega) (by omega) rfl
   rw [List.drop_zero,List.nil_append] at this
   exact this
  have hE : Ev (fun k => sh_renamed.f k t.f0 t.f1 t.f2 t.f3 0) ((shT ShBy.by_ t).f0,(shT ShBy.by_ t).f1,(shT ShBy.by_ t).f2,(shT ShBy.by_ t).f3):=by
   rw [shT_eq]
   refine Ev.step (f:=fun k => if t.f0 = 1 then sh_renamed.j0 k 0 t.f0 t.f1 t.f2 t.f3 t.f0 t.f1 (wrap64 (t.f2 + ShBy.by_)) else sh_renamed.j0 k 0 t.f0 t.f1 t.f2 t.f3 t.f0 t.f1 t.f2) (fun k => ?_) ?_
   ·simp only [sh_renamed.f,shF,Option.bind_some]
   ·by_cases c : t.f0 = 1
    ·simp only [if_pos c];exact hj _
    ·simp only [if_neg c];exact hj _
  exact hE
theorem spsh_ev (by_ : Int) (n : Nat) : ∀ (t : S29),ht29 t ≤ n → cn29 t ≤ 1048577 → Ev (fun k => spec_l03Shift.f k t.f0 t.f1 t.f2 t.f3 by_) ((shT by_ t).f0,(shT by_ t).f1,(shT by_ t).f2,(shT by_ t).f3):=by
 induction n with
 | zero => intro t h; rw [ht29_eq] at h; omega
 | succ n ih =>
  intro t h hc
  rw [ht29_eq] at h
  rw [cn29_eq] at hc
  have hlen : t.f3.length ≤ 1048576:=by have:=cns29_len t.f3;omega
  have hl : ∀ (a2 : Int) (d i : Nat) (ys : List S29),i ≤ t.f3.length → t.f3.length - i = d → ys.length = i → Ev (fun k => spec_l03Shift.l0 k by_ i t.f0 t.f1 t.f2 t.f3 t.f0 t.f1 a2 ys) (t.f0,t.f1,a2,ys ++ shS by_ (t.f3.drop i)):=by
   intro a2 d
   induction d with
   | zero =>
    intro i ys hi hd hy
    refine Ev.step (f:=fun _ => some (t.f0,t.f1,a2,ys)) (fun k => ?_) ?_
    ·simp only [spec_l03Shift.l0];rw [if_neg (by omega)]
    ·rw [List.drop_eq_nil_of_le (by omega),shS,List.append_nil];exact Ev.now _
   | succ d ihd =>
    intro i ys hi hd hy
    have hlt : i < t.f3.length:=by omega
    refine Ev.step (f:=fun k => (spec_l03Shift.f k t.f3[i].f0 t.f3[i].f1 t.f3[i].f2 t.f3[i].f3 by_).bind fun b => spec_l03Shift.l0 k by_ ((i + 1 : Nat) : Int) t.f0 t.f1 t.f2 t.f3 t.f0 t.f1 a2 (ys ++ [⟨b.1,b.2.1,b.2.2.1,b.2.2.2⟩])) (fun k => ?_) ?_
    ·simp only [spec_l03Shift.l0]
     rw [if_pos (by omega),if_pos (by omega),rd29_at t.f3 i hlt,next_i i _ hlt hlen]
     have : ys.length < 2513169434916:=by omega
     simp only [if_pos this]
    ·refine Ev.bind (f:=fun k b => spec_l03Shift.l0 k by_ ((i + 1 : Nat) : Int) t.f0 t.f1 t.f2 t.f3 t.f0 t.f1 a2 (ys ++ [⟨b.1,b.2.1,b.2.2.1,b.2.2.2⟩])) (ih t.f3[i] (by have:=hts29_mem (List.getElem_mem hlt);omega) (by have:=cns29_mem (List.getElem_mem hlt);omega)) ?_
     have h2:=ihd (i + 1) (ys ++ [shT by_ t.f3[i]]) (by omega) (by omega) (by simp;omega)
     rw [List.append_assoc,List.singleton_append] at h2
     rw [List.drop_eq_getElem_cons hlt,shS]
     show Ev (fun k => spec_l03Shift.l0 k by_ ((i + 1 : Nat) : Int) t.f0 t.f1 t.f2 t.f3 t.f0 t.f1 a2 (ys ++ [(⟨(shT by_ t.f3[i]).f0,(shT by_ t.f3[i]).f1,(shT by_ t.f3[i]).f2,(shT by_ t.f3[i]).f3⟩ : S29)])) _
     rw [eta29]
     exact h2
  have hj : ∀ a2,Ev (fun k => spec_l03Shift.j0 k by_ t.f0 t.f1 t.f2 t.f3 t.f0 t.f1 a2 t.f3) (t.f0,t.f1,a2,shS by_ t.f3):=fun a2 => by
   refine Ev.step (f:=fun k => spec_l03Shift.l0 k by_ 0 t.f0 t.f1 t.f2 t.f3 t.f0 t.f1 a2 []) (fun k => by simp only [spec_l03Shift.j0]) ?_
   have:=hl a2 t.f3.length 0 [] (by omega) (by omega) rfl
   rw [List.drop_zero,List.nil_append] at this
   exact this
  rw [shT_eq]
  refine Ev.step (f:=fun k => if t.f0 = 1 then spec_l03Shift.j0 k by_ t.f0 t.f1 t.f2 t.f3 t.f0 t.f1 (wrap64 (t.f2 + by_)) t.f3 else spec_l03Shift.j0 k by_ t.f0 t.f1 t.f2 t.f3 t.f0 t.f1 t.f2 t.f3) (fun k => ?_) ?_
  ·simp only [spec_l03Shift.f]
  ·by_cases c : t.f0 = 1
   ·simp only [if_pos c];exact hj _
   ·simp only [if_neg c];exact hj _
def okB (t : S29) : Bool:=decide (cn29 t ≤ 400) && rt29 t 1
def inB (b : Int) : Bool:=decide (-99999 ≤ b) && decide (b ≤ 99999)
def shR (by_ : Int) (t : S29) : S29:=if okB t = true ∧ inB by_ = true ∧ okB (shT by_ t) = true then shT by_ t else t
theorem spec_in (b : Int) : spec_l01In.f b (-99999) 99999 = some (inB b):=by
 unfold spec_l01In.f inB
 by_cases c : b ≥ -99999
 ·rw [if_pos c,decide_eq_true (show -99999 ≤ b from c),Bool.true_and]
 ·rw [if_neg c,decide_eq_false (show ¬ -99999 ≤ b from c),Bool.false_and]
theorem impl_in (b : Int) : impl_within.f b (-99999) 99999 = some (inB b):=by
 unfold impl_within.f inB
 by_cases c : b ≥ -99999
 ·rw [if_pos c,decide_eq_true (show -99999 ≤ b from c),Bool.true_and]
 ·rw [if_neg c,decide_eq_false (show ¬ -99999 ≤ b from c),Bool.false_and]
theorem shR_ht (by_ : Int) (t : S29) : cn29 (shR by_ t) = cn29 t ∧ ht29 (shR by_ t) = ht29 t:=by
 unfold shR
 split
 ·obtain ⟨h1,h2,_⟩:=(sh_keeps by_ (ht29 t)).1 t (Nat.le_refl _)
  exact ⟨h1,h2⟩
 ·exact ⟨rfl,rfl⟩
theorem spec_sh (by_ : Int) (t : S29) (n : Nat) (ht : ht29 t ≤ n) (hc : cn29 t ≤ 1048577) (hnm : nm29 t) : Ev (fun k => @spec_Shifted.f (i_34 n) k t.f0 t.f1 t.f2 t.f3 by_) ((shR by_ t).f0,(shR by_ t).f1,(shR by_ t).f2,(shR by_ t).f3):=by
 obtain ⟨hk1,hk2,hk3⟩:=(sh_keeps by_ (ht29 t)).1 t (Nat.le_refl _)
 obtain ⟨hr1,hr2⟩:=shR_ht by_ t
 have hok1 : Ev (fun k => spec_TermOk.f k t.f0 t.f1 t.f2 t.f3) (okB t):=spec_ok_ev t hc hnm
 have hok2 : Ev (fun k => spec_TermOk.f k (shT by_ t).f0 (shT by_ t).f1 (shT by_ t).f2 (shT by_ t).f3) (okB (shT by_ t)):=spec_ok_ev (shT by_ t) (by omega) (hk3 hnm)
 have hT : Ev (fun k => spec_l03ShiftedRaw.j0 k by_ true t.f0 t.f1 t.f2 t.f3) (t.f0,t.f1,t.f2,t.f3):=Ev.step (f:=fun _ => some (t.f0,t.f1,t.f2,t.f3)) (fun k => by simp only [spec_l03ShiftedRaw.j0,if_true]) (Ev.now _)
 have hraw : Ev (fun k => spec_l03ShiftedRaw.f k t.f0 t.f1 t.f2 t.f3 by_) ((shR by_ t).f0,(shR by_ t).f1,(shR by_ t).f2,(shR by_ t).f3):=by
  unfold spec_l03ShiftedRaw.f
  refine Ev.bind (f:=fun k t193 => (if t193 = true then ((spec_l01In.f by_ (-99999) 99999).bind fun t194 => (spec_l03ShiftedRaw.j0 k by_ (!t194) t.f0 t.f1 t.f2 t.f3)) else (spec_l03ShiftedRaw.j0 k by_ true t.f0 t.f1 t.f2 t.f3))) hok1 ?_
  cases c1 : okB t with
  | false =>
   have e : shR by_ t = t:=by unfold shR;rw [if_neg (fun z => by rw [c1] at z;exact absurd z.1 (by decide))]
   rw [e]
   simp only [Bool.false_eq_true,if_false]
   exact hT
  | true =>
   simp only [if_true,spec_in,Option.bind_some]
   cases c2 : inB by_ with
   | false =>
    have e : shR by_ t = t:=by unfold shR;rw [if_neg (fun z => by rw [c2] at z;exact absurd z.2.1 (by decide))]
    rw [e]
    exact hT
   | true =>
    refine Ev.step (f:=fun k => (spec_l03Shift.f k t.f0 t.f1 t.f2 t.f3 by_).bind fun bt195 => ((spec_TermOk.f k bt195.1 bt195.2.1 bt195.2.2.1 bt195.2.2.2).bind fun t202 => (if t202 = true then (some (bt195.1,bt195.2.1,bt195.2.2.1,bt195.2.2.2)) else (some (t.f0,t.f1,t.f2,t.f3))))) (fun k => by simp only [spec_l03ShiftedRaw.j0,Bool.not_true,Bool.false_eq_true,if_false]) ?_
    refine Ev.bind (f:=fun k bt195 => ((spec_TermOk.f k bt195.1 bt195.2.1 bt195.2.2.1 bt195.2.2.2).bind fun t202 => (if t202 = true then (some (bt195.1,bt195.2.1,bt195.2.2.1,bt195.2.2.2)) else (some (t.f0,t.f1,t.f2,t.f3))))) (spsh_ev by_ (ht29 t) t (Nat.le_refl _) hc) ?_
    refine Ev.bind (f:=fun _ t202 => (if t202 = true then (some ((shT by_ t).f0,(shT by_ t).f1,(shT by_ t).f2,(shT by_ t).f3)) else (some (t.f0,t.f1,t.f2,t.f3)))) hok2 ?_
    cases c3 : okB (shT by_ t) with
    | false =>
     have e : shR by_ t = t:=by unfold shR;rw [if_neg (fun z => by rw [c3] at z;exact absurd z.2.2 (by decide))]
     rw [e]
     exact Ev.now _
    | true =>
     have e : shR by_ t = shT by_ t:=by unfold shR;rw [if_pos ⟨c1,c2,c3⟩]
     rw [e]
     exact Ev.now _
 unfold spec_Shifted.f
 refine Ev.bind (f:=fun k bt205 => ((@spec_l34Term.f (i_34 n) k bt205.1 bt205.2.1 bt205.2.2.1 bt205.2.2.2).bind fun bt212 => (some (bt212.1,bt212.2.1,bt212.2.2.1,bt212.2.2.2)))) hraw ?_
 exact Ev.bind (f:=fun _ bt212 => (some (bt212.1,bt212.2.1,bt212.2.2.1,bt212.2.2.2))) (l34_ev (n + 1) (shR by_ t) (by omega) (by omega)) (Ev.now _)
section
set_option linter.unusedSectionVars false
variable [fk_laws_szTerm] [fk_laws_toTerm] [fk_laws_eqTerm] [fk_spec_l34Term] [fk_impl_copyTerm_1]
set_option maxHeartbeats 16000000 in
set_option maxRecDepth 100000 in
theorem shA1 (t : S29) (by_ : Int) (A : Option Addr) (c : Nat) (vs : List Int) (kT kT2 kC : Nat) (w : World) (hC : Kd.C k29 w A t.f3.length t.f3) (hc : t.f3.length ≤ c)
  (hT1 : impl_TermOk.f kT t.f0 t.f1 t.f2 t.f3 = some false)
  (hCP : impl_renamed.f kC t.f0 t.f1 t.f2 t.f3 0 = some (t.f0,t.f1,t.f2,t.f3))
  : Calls Try.prog 53 #[.agg #[.int .i64 t.f0,.string t.f1,.int .i64 t.f2,.slice A t.f3.length c],.int .i64 by_] w fun e w' => ∃ v,e = .returned (.agg #[.int .i64 t.f0,.string t.f1,.int .i64 t.f2,v]) ∧ Kd.S kD29 29 w' w.heap.size (fun _ => True) v t.f3 ∧ Below w.heap.size w w':=by
 have HC:=Aside0.mk hC
 have HCC:=Aside0.mk hc
 have HB:=Aside0.mk (Below.refl w.heap.size w)
 have HT1:=Aside0.mk hT1
 have HCP:=Aside0.mk hCP
 clear hT1 hCP
 clear hC hc
 go_enter Try.func53,Try.ntmps53
 go_wp2_with (first
  | ((with_reducible refine gate_dst (N := 2) rfl ?_); refine box_event ?hg2 (N := 2) ?hd2 (cs := #[.int .i64 t.f0, .string t.f1, .int .i64 t.f2, .slice A t.f3.length c]) (t := 29) ?hr2 ?_; (case hd2 => rfl); (case hg2 => rfl); (case hr2 => first | (go_simp; done) | (go_simp; rfl)); intro ga hg w1 hbox hb; have HGE_ga := Aside0.mk (show w.heap.size ≤ ga by have := HB.out.size; omega); have q_ := Aside0.mk (below_step HB.out hb); clear HB; have HB := q_; clear q_; have BK_ga := Aside0.mk hbox; have HLT_ga := Aside0.mk (blk_lt hbox); have hc1_ga_0 : w1.cell? ⟨ga, 0, none⟩ = some (.int .i64 t.f0) := (blk_cell BK_ga.out 0).trans rfl; have hc1_ga_1 : w1.cell? ⟨ga, 1, none⟩ = some (.string t.f1) := (blk_cell BK_ga.out 1).trans rfl; have hc1_ga_2 : w1.cell? ⟨ga, 2, none⟩ = some (.int .i64 t.f2) := (blk_cell BK_ga.out 2).trans rfl; have hc1_ga_3 : w1.cell? ⟨ga, 3, none⟩ = some (.slice A t.f3.length c) := (blk_cell BK_ga.out 3).trans rfl; clear hg hbox hb)
  | ((with_reducible refine gate_dst (N := 3) rfl ?_); refine box_event ?hg3 (N := 3) ?hd3 (cs := #[.int .i64 by_]) (t := 3) ?hr3 ?_; (case hd3 => rfl); (case hg3 => rfl); (case hr3 => first | (go_simp; done) | (go_simp; rfl)); intro gq hg w2 hbox hb; have HGE_gq := Aside0.mk (show w.heap.size ≤ gq by have := HB.out.size; omega); have HN_ga_gq := Aside0.mk (show ga ≠ gq by intro e_; have := HLT_ga.out; omega); have q_ := Aside0.mk (blk_below BK_ga.out hb); clear BK_ga; have BK_ga := q_; clear q_; have q_ := Aside0.mk (Nat.lt_of_lt_of_le HLT_ga.out hb.size); clear HLT_ga; have HLT_ga := q_; clear q_; have q_ := Aside0.mk (below_step HB.out hb); clear HB; have HB := q_; clear q_; have BK_gq := Aside0.mk hbox; have HLT_gq := Aside0.mk (blk_lt hbox); clear hc1_ga_0 hc1_ga_1 hc1_ga_2 hc1_ga_3; have hc2_ga_0 : w2.cell? ⟨ga, 0, none⟩ = some (.int .i64 t.f0) := (blk_cell BK_ga.out 0).trans rfl; have hc2_ga_1 : w2.cell? ⟨ga, 1, none⟩ = some (.string t.f1) := (blk_cell BK_ga.out 1).trans rfl; have hc2_ga_2 : w2.cell? ⟨ga, 2, none⟩ = some (.int .i64 t.f2) := (blk_cell BK_ga.out 2).trans rfl; have hc2_ga_3 : w2.cell? ⟨ga, 3, none⟩ = some (.slice A t.f3.length c) := (blk_cell BK_ga.out 3).trans rfl; have hc2_gq_0 : w2.cell? ⟨gq, 0, none⟩ = some (.int .i64 by_) := (blk_cell BK_gq.out 0).trans rfl; clear hg hbox hb)
  | ((with_reducible refine gate_dst (N := 4) rfl ?_); refine box_event ?hg4 (N := 4) ?hd4 (cs := #[.int .i64 0, .string (⟨#[]⟩ : ByteArray), .int .i64 0, .slice none 0 0]) (t := 29) ?hr4 ?_; (case hd4 => rfl); (case hg4 => rfl); (case hr4 => first | (go_simp; done) | (go_simp; rfl)); intro gr hg w3 hbox hb; have HGE_gr := Aside0.mk (show w.heap.size ≤ gr by have := HB.out.size; omega); have HN_ga_gr := Aside0.mk (show ga ≠ gr by intro e_; have := HLT_ga.out; omega); have HN_gq_gr := Aside0.mk (show gq ≠ gr by intro e_; have := HLT_gq.out; omega); have q_ := Aside0.mk (blk_below BK_ga.out hb); clear BK_ga; have BK_ga := q_; clear q_; have q_ := Aside0.mk (Nat.lt_of_lt_of_le HLT_ga.out hb.size); clear HLT_ga; have HLT_ga := q_; clear q_; have q_ := Aside0.mk (blk_below BK_gq.out hb); clear BK_gq; have BK_gq := q_; clear q_; have q_ := Aside0.mk (Nat.lt_of_lt_of_le HLT_gq.out hb.size); clear HLT_gq; have HLT_gq := q_; clear q_; have q_ := Aside0.mk (below_step HB.out hb); clear HB; have HB := q_; clear q_; have BK_gr := Aside0.mk hbox; have HLT_gr := Aside0.mk (blk_lt hbox); clear hc2_ga_0 hc2_ga_1 hc2_ga_2 hc2_ga_3 hc2_gq_0; have hc3_ga_0 : w3.cell? ⟨ga, 0, none⟩ = some (.int .i64 t.f0) := (blk_cell BK_ga.out 0).trans rfl; have hc3_ga_1 : w3.cell? ⟨ga, 1, none⟩ = some (.string t.f1) := (blk_cell BK_ga.out 1).trans rfl; have hc3_ga_2 : w3.cell? ⟨ga, 2, none⟩ = some (.int .i64 t.f2) := (blk_cell BK_ga.out 2).trans rfl; have hc3_ga_3 : w3.cell? ⟨ga, 3, none⟩ = some (.slice A t.f3.length c) := (blk_cell BK_ga.out 3).trans rfl; have hc3_gq_0 : w3.cell? ⟨gq, 0, none⟩ = some (.int .i64 by_) := (blk_cell BK_gq.out 0).trans rfl; clear hg hbox hb)
  | (go_at_call 32; refine (impl_TermOk.calls kT t.f0 t.f1 t.f2 A c t.f3 false _ (Kd.C_below HC.out HB.out) HCC.out HT1.out).mono ?_; rintro e w4 ⟨rfl, hb⟩; have q_ := Aside0.mk (blk_below BK_ga.out hb); clear BK_ga; have BK_ga := q_; clear q_; have q_ := Aside0.mk (Nat.lt_of_lt_of_le HLT_ga.out hb.size); clear HLT_ga; have HLT_ga := q_; clear q_; have q_ := Aside0.mk (blk_below BK_gq.out hb); clear BK_gq; have BK_gq := q_; clear q_; have q_ := Aside0.mk (Nat.lt_of_lt_of_le HLT_gq.out hb.size); clear HLT_gq; have HLT_gq := q_; clear q_; have q_ := Aside0.mk (blk_below BK_gr.out hb); clear BK_gr; have BK_gr := q_; clear q_; have q_ := Aside0.mk (Nat.lt_of_lt_of_le HLT_gr.out hb.size); clear HLT_gr; have HLT_gr := q_; clear q_; have q_ := Aside0.mk (below_step HB.out hb); clear HB; have HB := q_; clear q_; clear hc3_ga_0 hc3_ga_1 hc3_ga_2 hc3_ga_3 hc3_gq_0; have hc4_ga_0 : w4.cell? ⟨ga, 0, none⟩ = some (.int .i64 t.f0) := (blk_cell BK_ga.out 0).trans rfl; have hc4_ga_1 : w4.cell? ⟨ga, 1, none⟩ = some (.string t.f1) := (blk_cell BK_ga.out 1).trans rfl; have hc4_ga_2 : w4.cell? ⟨ga, 2, none⟩ = some (.int .i64 t.f2) := (blk_cell BK_ga.out 2).trans rfl; have hc4_ga_3 : w4.cell? ⟨ga, 3, none⟩ = some (.slice A t.f3.length c) := (blk_cell BK_ga.out 3).trans rfl; have hc4_gq_0 : w4.cell? ⟨gq, 0, none⟩ = some (.int .i64 by_) := (blk_cell BK_gq.out 0).trans rfl; clear hb)
  | (go_at_call 81; refine (copy_calls kC t.f0 t.f1 t.f2 A c t.f3 t.f0 t.f1 t.f2 t.f3 _ (Kd.C_below HC.out HB.out) HCC.out HCP.out).mono ?_; rintro e w5 ⟨v_, rfl, ho, hb⟩; obtain ⟨A_z, c_z, rfl⟩ := Kd.S_slice ho; have nS_z := Aside0.mk (Kd.S_lower (Kd.S_mono (ok' := fun k_ => k_ ≠ ga ∧ k_ ≠ gq ∧ k_ ≠ gr) (Kd.S_bound ho) (fun k_ hk_ => ⟨(fun e_ => by have h1_ := hk_.2.1; have h2_ := HLT_ga.out; omega), (fun e_ => by have h1_ := hk_.2.1; have h2_ := HLT_gq.out; omega), (fun e_ => by have h1_ := hk_.2.1; have h2_ := HLT_gr.out; omega)⟩)) HB.out.size); clear ho; have q_ := Aside0.mk (blk_below BK_ga.out hb); clear BK_ga; have BK_ga := q_; clear q_; have q_ := Aside0.mk (Nat.lt_of_lt_of_le HLT_ga.out hb.size); clear HLT_ga; have HLT_ga := q_; clear q_; have q_ := Aside0.mk (blk_below BK_gq.out hb); clear BK_gq; have BK_gq := q_; clear q_; have q_ := Aside0.mk (Nat.lt_of_lt_of_le HLT_gq.out hb.size); clear HLT_gq; have HLT_gq := q_; clear q_; have q_ := Aside0.mk (blk_below BK_gr.out hb); clear BK_gr; have BK_gr := q_; clear q_; have q_ := Aside0.mk (Nat.lt_of_lt_of_le HLT_gr.out hb.size); clear HLT_gr; have HLT_gr := q_; clear q_; have q_ := Aside0.mk (below_step HB.out hb); clear HB; have HB := q_; clear q_; have HS_z := nS_z; clear nS_z; clear hc4_ga_0 hc4_ga_1 hc4_ga_2 hc4_ga_3 hc4_gq_0; have hc5_gr_0 : w5.cell? ⟨gr, 0, none⟩ = some (.int .i64 0) := (blk_cell BK_gr.out 0).trans rfl; have fc5_gr_0 := blk_frozen BK_gr.out 0; have hc5_gr_1 : w5.cell? ⟨gr, 1, none⟩ = some (.string (⟨#[]⟩ : ByteArray)) := (blk_cell BK_gr.out 1).trans rfl; have fc5_gr_1 := blk_frozen BK_gr.out 1; have hc5_gr_2 : w5.cell? ⟨gr, 2, none⟩ = some (.int .i64 0) := (blk_cell BK_gr.out 2).trans rfl; have fc5_gr_2 := blk_frozen BK_gr.out 2; have hc5_gr_3 : w5.cell? ⟨gr, 3, none⟩ = some (.slice none 0 0) := (blk_cell BK_gr.out 3).trans rfl; have fc5_gr_3 := blk_frozen BK_gr.out 3; clear hb))
 refine bodyPost_ret (results_cell_row rfl _ _ gr 29 #[.int .i64 t.f0,.string t.f1,.int .i64 t.f2,.slice A_z t.f3.length c_z] (0,0) _ rfl (by refine blk_put (cs:=#[.int .i64 t.f0,.string t.f1,.int .i64 t.f2,.slice none 0 0]) ?_ 3 _ rfl;refine blk_put (cs:=#[.int .i64 t.f0,.string t.f1,.int .i64 0,.slice none 0 0]) ?_ 2 _ rfl;refine blk_put (cs:=#[.int .i64 t.f0,.string (⟨#[]⟩ : ByteArray),.int .i64 0,.slice none 0 0]) ?_ 1 _ rfl;refine blk_put (cs:=#[.int .i64 0,.string (⟨#[]⟩ : ByteArray),.int .i64 0,.slice none 0 0]) ?_ 0 _ rfl;exact BK_gr.out) Try.underlying29 rfl (by kernel_rfl)) rfl ?_
 refine ⟨_,rfl,?_,(below_set (below_set (below_set (below_set HB.out HGE_gr.out) HGE_gr.out) HGE_gr.out) HGE_gr.out)⟩
 exact Kd.S_mono (Kd.S_far (p:=⟨gr,3,none⟩) (Kd.S_far (p:=⟨gr,2,none⟩) (Kd.S_far (p:=⟨gr,1,none⟩) (Kd.S_far (p:=⟨gr,0,none⟩) HS_z.out (fun k_ hk_ => by first|exact hk_.2.2|exact hk_.2.2.1|exact hk_.1.2.2) _) (fun k_ hk_ => by first|exact hk_.2.2|exact hk_.2.2.1|exact hk_.1.2.2) _) (fun k_ hk_ => by first|exact hk_.2.2|exact hk_.2.2.1|exact hk_.1.2.2) _) (fun k_ hk_ => by first|exact hk_.2.2|exact hk_.2.2.1|exact hk_.1.2.2) _) (fun _ _ => trivial)
set_option maxHeartbeats 16000000 in
set_option maxRecDepth 100000 in
theorem shA2 (t : S29) (by_ : Int) (A : Option Addr) (c : Nat) (vs : List Int) (kT kT2 kC : Nat) (w : World) (hC : Kd.C k29 w A t.f3.length t.f3) (hc : t.f3.length ≤ c)
  (hT1 : impl_TermOk.f kT t.f0 t.f1 t.f2 t.f3 = some true)
  (hV : ∀ W A c,Kd.C k29 W A t.f3.length t.f3 → t.f3.length ≤ c → Calls Try.prog 34 #[.agg #[.int .i64 t.f0,.string t.f1,.int .i64 t.f2,.slice A t.f3.length c]] W fun e W' => ∃ v,e = .returned v ∧ Kd.R (Kd.int .i64) 3 W' W.heap.size (fun _ => True) v vs ∧ Below W.heap.size W W')
  (h0 : ((vs.length : Int) == 0) = true)
  (hCP : impl_renamed.f kC t.f0 t.f1 t.f2 t.f3 0 = some (t.f0,t.f1,t.f2,t.f3))
  : Calls Try.prog 53 #[.agg #[.int .i64 t.f0,.string t.f1,.int .i64 t.f2,.slice A t.f3.length c],.int .i64 by_] w fun e w' => ∃ v,e = .returned (.agg #[.int .i64 t.f0,.string t.f1,.int .i64 t.f2,v]) ∧ Kd.S kD29 29 w' w.heap.size (fun _ => True) v t.f3 ∧ Below w.heap.size w w':=by
 have HC:=Aside0.mk hC
 have HCC:=Aside0.mk hc
 have HB:=Aside0.mk (Below.refl w.heap.size w)
 have HT1:=Aside0.mk hT1
 have HCP:=Aside0.mk hCP
 have HV:=Aside0.mk hV
 clear hT1 hCP hV
 clear hC hc
 go_enter Try.func53,Try.ntmps53
 go_wp2_with (first
  | ((with_reducible refine gate_dst (N := 2) rfl ?_); refine box_event ?hg2 (N := 2) ?hd2 (cs := #[.int .i64 t.f0, .string t.f1, .int .i64 t.f2, .slice A t.f3.length c]) (t := 29) ?hr2 ?_; (case hd2 => rfl); (case hg2 => rfl); (case hr2 => first | (go_simp; done) | (go_simp; rfl)); intro ga hg w1 hbox hb; have HGE_ga := Aside0.mk (show w.heap.size ≤ ga by have := HB.out.size; omega); have q_ := Aside0.mk (below_step HB.out hb); clear HB; have HB := q_; clear q_; have BK_ga := Aside0.mk hbox; have HLT_ga := Aside0.mk (blk_lt hbox); have hc1_ga_0 : w1.cell? ⟨ga, 0, none⟩ = some (.int .i64 t.f0) := (blk_cell BK_ga.out 0).trans rfl; have hc1_ga_1 : w1.cell? ⟨ga, 1, none⟩ = some (.string t.f1) := (blk_cell BK_ga.out 1).trans rfl; have hc1_ga_2 : w1.cell? ⟨ga, 2, none⟩ = some (.int .i64 t.f2) := (blk_cell BK_ga.out 2).trans rfl; have hc1_ga_3 : w1.cell? ⟨ga, 3, none⟩ = some (.slice A t.f3.length c) := (blk_cell BK_ga.out 3).trans rfl; clear hg hbox hb)
  | ((with_reducible refine gate_dst (N := 3) rfl ?_); refine box_event ?hg3 (N := 3) ?hd3 (cs := #[.int .i64 by_]) (t := 3) ?hr3 ?_; (case hd3 => rfl); (case hg3 => rfl); (case hr3 => first | (go_simp; done) | (go_simp; rfl)); intro gq hg w2 hbox hb; have HGE_gq := Aside0.mk (show w.heap.size ≤ gq by have := HB.out.size; omega); have HN_ga_gq := Aside0.mk (show ga ≠ gq by intro e_; have := HLT_ga.out; omega); have q_ := Aside0.mk (blk_below BK_ga.out hb); clear BK_ga; have BK_ga := q_; clear q_; have q_ := Aside0.mk (Nat.lt_of_lt_of_le HLT_ga.out hb.size); clear HLT_ga; have HLT_ga := q_; clear q_; have q_ := Aside0.mk (below_step HB.out hb); clear HB; have HB := q_; clear q_; have BK_gq := Aside0.mk hbox; have HLT_gq := Aside0.mk (blk_lt hbox); clear hc1_ga_0 hc1_ga_1 hc1_ga_2 hc1_ga_3; have hc2_ga_0 : w2.cell? ⟨ga, 0, none⟩ = some (.int .i64 t.f0) := (blk_cell BK_ga.out 0).trans rfl; have hc2_ga_1 : w2.cell? ⟨ga, 1, none⟩ = some (.string t.f1) := (blk_cell BK_ga.out 1).trans rfl; have hc2_ga_2 : w2.cell? ⟨ga, 2, none⟩ = some (.int .i64 t.f2) := (blk_cell BK_ga.out 2).trans rfl; have hc2_ga_3 : w2.cell? ⟨ga, 3, none⟩ = some (.slice A t.f3.length c) := (blk_cell BK_ga.out 3).trans rfl; have hc2_gq_0 : w2.cell? ⟨gq, 0, none⟩ = some (.int .i64 by_) := (blk_cell BK_gq.out 0).trans rfl; clear hg hbox hb)
  | ((with_reducible refine gate_dst (N := 4) rfl ?_); refine box_event ?hg4 (N := 4) ?hd4 (cs := #[.int .i64 0, .string (⟨#[]⟩ : ByteArray), .int .i64 0, .slice none 0 0]) (t := 29) ?hr4 ?_; (case hd4 => rfl); (case hg4 => rfl); (case hr4 => first | (go_simp; done) | (go_simp; rfl)); intro gr hg w3 hbox hb; have HGE_gr := Aside0.mk (show w.heap.size ≤ gr by have := HB.out.size; omega); have HN_ga_gr := Aside0.mk (show ga ≠ gr by intro e_; have := HLT_ga.out; omega); have HN_gq_gr := Aside0.mk (show gq ≠ gr by intro e_; have := HLT_gq.out; omega); have q_ := Aside0.mk (blk_below BK_ga.out hb); clear BK_ga; have BK_ga := q_; clear q_; have q_ := Aside0.mk (Nat.lt_of_lt_of_le HLT_ga.out hb.size); clear HLT_ga; have HLT_ga := q_; clear q_; have q_ := Aside0.mk (blk_below BK_gq.out hb); clear BK_gq; have BK_gq := q_; clear q_; have q_ := Aside0.mk (Nat.lt_of_lt_of_le HLT_gq.out hb.size); clear HLT_gq; have HLT_gq := q_; clear q_; have q_ := Aside0.mk (below_step HB.out hb); clear HB; have HB := q_; clear q_; have BK_gr := Aside0.mk hbox; have HLT_gr := Aside0.mk (blk_lt hbox); clear hc2_ga_0 hc2_ga_1 hc2_ga_2 hc2_ga_3 hc2_gq_0; have hc3_ga_0 : w3.cell? ⟨ga, 0, none⟩ = some (.int .i64 t.f0) := (blk_cell BK_ga.out 0).trans rfl; have hc3_ga_1 : w3.cell? ⟨ga, 1, none⟩ = some (.string t.f1) := (blk_cell BK_ga.out 1).trans rfl; have hc3_ga_2 : w3.cell? ⟨ga, 2, none⟩ = some (.int .i64 t.f2) := (blk_cell BK_ga.out 2).trans rfl; have hc3_ga_3 : w3.cell? ⟨ga, 3, none⟩ = some (.slice A t.f3.length c) := (blk_cell BK_ga.out 3).trans rfl; have hc3_gq_0 : w3.cell? ⟨gq, 0, none⟩ = some (.int .i64 by_) := (blk_cell BK_gq.out 0).trans rfl; clear hg hbox hb)
  | (go_at_call 32; refine (impl_TermOk.calls kT t.f0 t.f1 t.f2 A c t.f3 true _ (Kd.C_below HC.out HB.out) HCC.out HT1.out).mono ?_; rintro e w4 ⟨rfl, hb⟩; have q_ := Aside0.mk (blk_below BK_ga.out hb); clear BK_ga; have BK_ga := q_; clear q_; have q_ := Aside0.mk (Nat.lt_of_lt_of_le HLT_ga.out hb.size); clear HLT_ga; have HLT_ga := q_; clear q_; have q_ := Aside0.mk (blk_below BK_gq.out hb); clear BK_gq; have BK_gq := q_; clear q_; have q_ := Aside0.mk (Nat.lt_of_lt_of_le HLT_gq.out hb.size); clear HLT_gq; have HLT_gq := q_; clear q_; have q_ := Aside0.mk (blk_below BK_gr.out hb); clear BK_gr; have BK_gr := q_; clear q_; have q_ := Aside0.mk (Nat.lt_of_lt_of_le HLT_gr.out hb.size); clear HLT_gr; have HLT_gr := q_; clear q_; have q_ := Aside0.mk (below_step HB.out hb); clear HB; have HB := q_; clear q_; clear hc3_ga_0 hc3_ga_1 hc3_ga_2 hc3_ga_3 hc3_gq_0; have hc4_ga_0 : w4.cell? ⟨ga, 0, none⟩ = some (.int .i64 t.f0) := (blk_cell BK_ga.out 0).trans rfl; have hc4_ga_1 : w4.cell? ⟨ga, 1, none⟩ = some (.string t.f1) := (blk_cell BK_ga.out 1).trans rfl; have hc4_ga_2 : w4.cell? ⟨ga, 2, none⟩ = some (.int .i64 t.f2) := (blk_cell BK_ga.out 2).trans rfl; have hc4_ga_3 : w4.cell? ⟨ga, 3, none⟩ = some (.slice A t.f3.length c) := (blk_cell BK_ga.out 3).trans rfl; have hc4_gq_0 : w4.cell? ⟨gq, 0, none⟩ = some (.int .i64 by_) := (blk_cell BK_gq.out 0).trans rfl; clear hb)
  | (go_at_call 34; refine (HV.out _ A c (Kd.C_below HC.out HB.out) HCC.out).mono ?_; rintro e w5 ⟨v_, rfl, ho, hb⟩; obtain ⟨Av, cv, rfl⟩ := Kd.R_slice ho; clear ho; have q_ := Aside0.mk (blk_below BK_ga.out hb); clear BK_ga; have BK_ga := q_; clear q_; have q_ := Aside0.mk (Nat.lt_of_lt_of_le HLT_ga.out hb.size); clear HLT_ga; have HLT_ga := q_; clear q_; have q_ := Aside0.mk (blk_below BK_gq.out hb); clear BK_gq; have BK_gq := q_; clear q_; have q_ := Aside0.mk (Nat.lt_of_lt_of_le HLT_gq.out hb.size); clear HLT_gq; have HLT_gq := q_; clear q_; have q_ := Aside0.mk (blk_below BK_gr.out hb); clear BK_gr; have BK_gr := q_; clear q_; have q_ := Aside0.mk (Nat.lt_of_lt_of_le HLT_gr.out hb.size); clear HLT_gr; have HLT_gr := q_; clear q_; have q_ := Aside0.mk (below_step HB.out hb); clear HB; have HB := q_; clear q_; clear hc4_ga_0 hc4_ga_1 hc4_ga_2 hc4_ga_3 hc4_gq_0; have hc5_ga_0 : w5.cell? ⟨ga, 0, none⟩ = some (.int .i64 t.f0) := (blk_cell BK_ga.out 0).trans rfl; have hc5_ga_1 : w5.cell? ⟨ga, 1, none⟩ = some (.string t.f1) := (blk_cell BK_ga.out 1).trans rfl; have hc5_ga_2 : w5.cell? ⟨ga, 2, none⟩ = some (.int .i64 t.f2) := (blk_cell BK_ga.out 2).trans rfl; have hc5_ga_3 : w5.cell? ⟨ga, 3, none⟩ = some (.slice A t.f3.length c) := (blk_cell BK_ga.out 3).trans rfl; have hc5_gq_0 : w5.cell? ⟨gq, 0, none⟩ = some (.int .i64 by_) := (blk_cell BK_gq.out 0).trans rfl; clear hb)
  | (go_at_call 81; refine (copy_calls kC t.f0 t.f1 t.f2 A c t.f3 t.f0 t.f1 t.f2 t.f3 _ (Kd.C_below HC.out HB.out) HCC.out HCP.out).mono ?_; rintro e w6 ⟨v_, rfl, ho, hb⟩; obtain ⟨A_z, c_z, rfl⟩ := Kd.S_slice ho; have nS_z := Aside0.mk (Kd.S_lower (Kd.S_mono (ok' := fun k_ => k_ ≠ ga ∧ k_ ≠ gq ∧ k_ ≠ gr) (Kd.S_bound ho) (fun k_ hk_ => ⟨(fun e_ => by have h1_ := hk_.2.1; have h2_ := HLT_ga.out; omega), (fun e_ => by have h1_ := hk_.2.1; have h2_ := HLT_gq.out; omega), (fun e_ => by have h1_ := hk_.2.1; have h2_ := HLT_gr.out; omega)⟩)) HB.out.size); clear ho; have q_ := Aside0.mk (blk_below BK_ga.out hb); clear BK_ga; have BK_ga := q_; clear q_; have q_ := Aside0.mk (Nat.lt_of_lt_of_le HLT_ga.out hb.size); clear HLT_ga; have HLT_ga := q_; clear q_; have q_ := Aside0.mk (blk_below BK_gq.out hb); clear BK_gq; have BK_gq := q_; clear q_; have q_ := Aside0.mk (Nat.lt_of_lt_of_le HLT_gq.out hb.size); clear HLT_gq; have HLT_gq := q_; clear q_; have q_ := Aside0.mk (blk_below BK_gr.out hb); clear BK_gr; have BK_gr := q_; clear q_; have q_ := Aside0.mk (Nat.lt_of_lt_of_le HLT_gr.out hb.size); clear HLT_gr; have HLT_gr := q_; clear q_; have q_ := Aside0.mk (below_step HB.out hb); clear HB; have HB := q_; clear q_; have HS_z := nS_z; clear nS_z; clear hc5_ga_0 hc5_ga_1 hc5_ga_2 hc5_ga_3 hc5_gq_0; have hc6_gr_0 : w6.cell? ⟨gr, 0, none⟩ = some (.int .i64 0) := (blk_cell BK_gr.out 0).trans rfl; have fc6_gr_0 := blk_frozen BK_gr.out 0; have hc6_gr_1 : w6.cell? ⟨gr, 1, none⟩ = some (.string (⟨#[]⟩ : ByteArray)) := (blk_cell BK_gr.out 1).trans rfl; have fc6_gr_1 := blk_frozen BK_gr.out 1; have hc6_gr_2 : w6.cell? ⟨gr, 2, none⟩ = some (.int .i64 0) := (blk_cell BK_gr.out 2).trans rfl; have fc6_gr_2 := blk_frozen BK_gr.out 2; have hc6_gr_3 : w6.cell? ⟨gr, 3, none⟩ = some (.slice none 0 0) := (blk_cell BK_gr.out 3).trans rfl; have fc6_gr_3 := blk_frozen BK_gr.out 3; clear hb))
 refine bodyPost_ret (results_cell_row rfl _ _ gr 29 #[.int .i64 t.f0,.string t.f1,.int .i64 t.f2,.slice A_z t.f3.length c_z] (0,0) _ rfl (by refine blk_put (cs:=#[.int .i64 t.f0,.string t.f1,.int .i64 t.f2,.slice none 0 0]) ?_ 3 _ rfl;refine blk_put (cs:=#[.int .i64 t.f0,.string t.f1,.int .i64 0,.slice none 0 0]) ?_ 2 _ rfl;refine blk_put (cs:=#[.int .i64 t.f0,.string (⟨#[]⟩ : ByteArray),.int .i64 0,.slice none 0 0]) ?_ 1 _ rfl;refine blk_put (cs:=#[.int .i64 0,.string (⟨#[]⟩ : ByteArray),.int .i64 0,.slice none 0 0]) ?_ 0 _ rfl;exact BK_gr.out) Try.underlying29 rfl (by kernel_rfl)) rfl ?_
 refine ⟨_,rfl,?_,(below_set (below_set (below_set (below_set HB.out HGE_gr.out) HGE_gr.out) HGE_gr.out) HGE_gr.out)⟩
 exact Kd.S_mono (Kd.S_far (p:=⟨gr,3,none⟩) (Kd.S_far (p:=⟨gr,2,none⟩) (Kd.S_far (p:=⟨gr,1,none⟩) (Kd.S_far (p:=⟨gr,0,none⟩) HS_z.out (fun k_ hk_ => by first|exact hk_.2.2|exact hk_.2.2.1|exact hk_.1.2.2) _) (fun k_ hk_ => by first|exact hk_.2.2|exact hk_.2.2.1|exact hk_.1.2.2) _) (fun k_ hk_ => by first|exact hk_.2.2|exact hk_.2.2.1|exact hk_.1.2.2) _) (fun k_ hk_ => by first|exact hk_.2.2|exact hk_.2.2.1|exact hk_.1.2.2) _) (fun _ _ => trivial)
set_option maxHeartbeats 16000000 in
set_option maxRecDepth 100000 in
theorem shA3 (t : S29) (by_ : Int) (A : Option Addr) (c : Nat) (vs : List Int) (kT kT2 kC : Nat) (w : World) (hC : Kd.C k29 w A t.f3.length t.f3) (hc : t.f3.length ≤ c)
  (hT1 : impl_TermOk.f kT t.f0 t.f1 t.f2 t.f3 = some true)
  (hV : ∀ W A c,Kd.C k29 W A t.f3.length t.f3 → t.f3.length ≤ c → Calls Try.prog 34 #[.agg #[.int .i64 t.f0,.string t.f1,.int .i64 t.f2,.slice A t.f3.length c]] W fun e W' => ∃ v,e = .returned v ∧ Kd.R (Kd.int .i64) 3 W' W.heap.size (fun _ => True) v vs ∧ Below W.heap.size W W')
  (h0 : ((vs.length : Int) == 0) = false)
  (hI : impl_within.f by_ (-99999) 99999 = some false)
  (hCP : impl_renamed.f kC t.f0 t.f1 t.f2 t.f3 0 = some (t.f0,t.f1,t.f2,t.f3))
  : Calls Try.prog 53 #[.agg #[.int .i64 t.f0,.string t.f1,.int .i64 t.f2,.slice A t.f3.length c],.int .i64 by_] w fun e w' => ∃ v,e = .returned (.agg #[.int .i64 t.f0,.string t.f1,.int .i64 t.f2,v]) ∧ Kd.S kD29 29 w' w.heap.size (fun _ => True) v t.f3 ∧ Below w.heap.size w w':=by
 have HC:=Aside0.mk hC
 have HCC:=Aside0.mk hc
 have HB:=Aside0.mk (Below.refl w.heap.size w)
 have HT1:=Aside0.mk hT1
 have HCP:=Aside0.mk hCP
 have HV:=Aside0.mk hV
 have HI:=Aside0.mk hI
 clear hT1 hCP hV hI
 clear hC hc
 go_enter Try.func53,Try.ntmps53
 go_wp2_with (first
  | ((with_reducible refine gate_dst (N := 2) rfl ?_); refine box_event ?hg2 (N := 2) ?hd2 (cs := #[.int .i64 t.f0, .string t.f1, .int .i64 t.f2, .slice A t.f3.length c]) (t := 29) ?hr2 ?_; (case hd2 => rfl); (case hg2 => rfl); (case hr2 => first | (go_simp; done) | (go_simp; rfl)); intro ga hg w1 hbox hb; have HGE_ga := Aside0.mk (show w.heap.size ≤ ga by have := HB.out.size; omega); have q_ := Aside0.mk (below_step HB.out hb); clear HB; have HB := q_; clear q_; have BK_ga := Aside0.mk hbox; have HLT_ga := Aside0.mk (blk_lt hbox); have hc1_ga_0 : w1.cell? ⟨ga, 0, none⟩ = some (.int .i64 t.f0) := (blk_cell BK_ga.out 0).trans rfl; have hc1_ga_1 : w1.cell? ⟨ga, 1, none⟩ = some (.string t.f1) := (blk_cell BK_ga.out 1).trans rfl; have hc1_ga_2 : w1.cell? ⟨ga, 2, none⟩ = some (.int .i64 t.f2) := (blk_cell BK_ga.out 2).trans rfl; have hc1_ga_3 : w1.cell? ⟨ga, 3, none⟩ = some (.slice A t.f3.length c) := (blk_cell BK_ga.out 3).trans rfl; clear hg hbox hb)
  | ((with_reducible refine gate_dst (N := 3) rfl ?_); refine box_event ?hg3 (N := 3) ?hd3 (cs := #[.int .i64 by_]) (t := 3) ?hr3 ?_; (case hd3 => rfl); (case hg3 => rfl); (case hr3 => first | (go_simp; done) | (go_simp; rfl)); intro gq hg w2 hbox hb; have HGE_gq := Aside0.mk (show w.heap.size ≤ gq by have := HB.out.size; omega); have HN_ga_gq := Aside0.mk (show ga ≠ gq by intro e_; have := HLT_ga.out; omega); have q_ := Aside0.mk (blk_below BK_ga.out hb); clear BK_ga; have BK_ga := q_; clear q_; have q_ := Aside0.mk (Nat.lt_of_lt_of_le HLT_ga.out hb.size); clear HLT_ga; have HLT_ga := q_; clear q_; have q_ := Aside0.mk (below_step HB.out hb); clear HB; have HB := q_; clear q_; have BK_gq := Aside0.mk hbox; have HLT_gq := Aside0.mk (blk_lt hbox); clear hc1_ga_0 hc1_ga_1 hc1_ga_2 hc1_ga_3; have hc2_ga_0 : w2.cell? ⟨ga, 0, none⟩ = some (.int .i64 t.f0) := (blk_cell BK_ga.out 0).trans rfl; have hc2_ga_1 : w2.cell? ⟨ga, 1, none⟩ = some (.string t.f1) := (blk_cell BK_ga.out 1).trans rfl; have hc2_ga_2 : w2.cell? ⟨ga, 2, none⟩ = some (.int .i64 t.f2) := (blk_cell BK_ga.out 2).trans rfl; have hc2_ga_3 : w2.cell? ⟨ga, 3, none⟩ = some (.slice A t.f3.length c) := (blk_cell BK_ga.out 3).trans rfl; have hc2_gq_0 : w2.cell? ⟨gq, 0, none⟩ = some (.int .i64 by_) := (blk_cell BK_gq.out 0).trans rfl; clear hg hbox hb)
  | ((with_reducible refine gate_dst (N := 4) rfl ?_); refine box_event ?hg4 (N := 4) ?hd4 (cs := #[.int .i64 0, .string (⟨#[]⟩ : ByteArray), .int .i64 0, .slice none 0 0]) (t := 29) ?hr4 ?_; (case hd4 => rfl); (case hg4 => rfl); (case hr4 => first | (go_simp; done) | (go_simp; rfl)); intro gr hg w3 hbox hb; have HGE_gr := Aside0.mk (show w.heap.size ≤ gr by have := HB.out.size; omega); have HN_ga_gr := Aside0.mk (show ga ≠ gr by intro e_; have := HLT_ga.out; omega); have HN_gq_gr := Aside0.mk (show gq ≠ gr by intro e_; have := HLT_gq.out; omega); have q_ := Aside0.mk (blk_below BK_ga.out hb); clear BK_ga; have BK_ga := q_; clear q_; have q_ := Aside0.mk (Nat.lt_of_lt_of_le HLT_ga.out hb.size); clear HLT_ga; have HLT_ga := q_; clear q_; have q_ := Aside0.mk (blk_below BK_gq.out hb); clear BK_gq; have BK_gq := q_; clear q_; have q_ := Aside0.mk (Nat.lt_of_lt_of_le HLT_gq.out hb.size); clear HLT_gq; have HLT_gq := q_; clear q_; have q_ := Aside0.mk (below_step HB.out hb); clear HB; have HB := q_; clear q_; have BK_gr := Aside0.mk hbox; have HLT_gr := Aside0.mk (blk_lt hbox); clear hc2_ga_0 hc2_ga_1 hc2_ga_2 hc2_ga_3 hc2_gq_0; have hc3_ga_0 : w3.cell? ⟨ga, 0, none⟩ = some (.int .i64 t.f0) := (blk_cell BK_ga.out 0).trans rfl; have hc3_ga_1 : w3.cell? ⟨ga, 1, none⟩ = some (.string t.f1) := (blk_cell BK_ga.out 1).trans rfl; have hc3_ga_2 : w3.cell? ⟨ga, 2, none⟩ = some (.int .i64 t.f2) := (blk_cell BK_ga.out 2).trans rfl; have hc3_ga_3 : w3.cell? ⟨ga, 3, none⟩ = some (.slice A t.f3.length c) := (blk_cell BK_ga.out 3).trans rfl; have hc3_gq_0 : w3.cell? ⟨gq, 0, none⟩ = some (.int .i64 by_) := (blk_cell BK_gq.out 0).trans rfl; clear hg hbox hb)
  | (go_at_call 32; refine (impl_TermOk.calls kT t.f0 t.f1 t.f2 A c t.f3 true _ (Kd.C_below HC.out HB.out) HCC.out HT1.out).mono ?_; rintro e w4 ⟨rfl, hb⟩; have q_ := Aside0.mk (blk_below BK_ga.out hb); clear BK_ga; have BK_ga := q_; clear q_; have q_ := Aside0.mk (Nat.lt_of_lt_of_le HLT_ga.out hb.size); clear HLT_ga; have HLT_ga := q_; clear q_; have q_ := Aside0.mk (blk_below BK_gq.out hb); clear BK_gq; have BK_gq := q_; clear q_; have q_ := Aside0.mk (Nat.lt_of_lt_of_le HLT_gq.out hb.size); clear HLT_gq; have HLT_gq := q_; clear q_; have q_ := Aside0.mk (blk_below BK_gr.out hb); clear BK_gr; have BK_gr := q_; clear q_; have q_ := Aside0.mk (Nat.lt_of_lt_of_le HLT_gr.out hb.size); clear HLT_gr; have HLT_gr := q_; clear q_; have q_ := Aside0.mk (below_step HB.out hb); clear HB; have HB := q_; clear q_; clear hc3_ga_0 hc3_ga_1 hc3_ga_2 hc3_ga_3 hc3_gq_0; have hc4_ga_0 : w4.cell? ⟨ga, 0, none⟩ = some (.int .i64 t.f0) := (blk_cell BK_ga.out 0).trans rfl; have hc4_ga_1 : w4.cell? ⟨ga, 1, none⟩ = some (.string t.f1) := (blk_cell BK_ga.out 1).trans rfl; have hc4_ga_2 : w4.cell? ⟨ga, 2, none⟩ = some (.int .i64 t.f2) := (blk_cell BK_ga.out 2).trans rfl; have hc4_ga_3 : w4.cell? ⟨ga, 3, none⟩ = some (.slice A t.f3.length c) := (blk_cell BK_ga.out 3).trans rfl; have hc4_gq_0 : w4.cell? ⟨gq, 0, none⟩ = some (.int .i64 by_) := (blk_cell BK_gq.out 0).trans rfl; clear hb)
  | (go_at_call 34; refine (HV.out _ A c (Kd.C_below HC.out HB.out) HCC.out).mono ?_; rintro e w5 ⟨v_, rfl, ho, hb⟩; obtain ⟨Av, cv, rfl⟩ := Kd.R_slice ho; clear ho; have q_ := Aside0.mk (blk_below BK_ga.out hb); clear BK_ga; have BK_ga := q_; clear q_; have q_ := Aside0.mk (Nat.lt_of_lt_of_le HLT_ga.out hb.size); clear HLT_ga; have HLT_ga := q_; clear q_; have q_ := Aside0.mk (blk_below BK_gq.out hb); clear BK_gq; have BK_gq := q_; clear q_; have q_ := Aside0.mk (Nat.lt_of_lt_of_le HLT_gq.out hb.size); clear HLT_gq; have HLT_gq := q_; clear q_; have q_ := Aside0.mk (blk_below BK_gr.out hb); clear BK_gr; have BK_gr := q_; clear q_; have q_ := Aside0.mk (Nat.lt_of_lt_of_le HLT_gr.out hb.size); clear HLT_gr; have HLT_gr := q_; clear q_; have q_ := Aside0.mk (below_step HB.out hb); clear HB; have HB := q_; clear q_; clear hc4_ga_0 hc4_ga_1 hc4_ga_2 hc4_ga_3 hc4_gq_0; have hc5_ga_0 : w5.cell? ⟨ga, 0, none⟩ = some (.int .i64 t.f0) := (blk_cell BK_ga.out 0).trans rfl; have hc5_ga_1 : w5.cell? ⟨ga, 1, none⟩ = some (.string t.f1) := (blk_cell BK_ga.out 1).trans rfl; have hc5_ga_2 : w5.cell? ⟨ga, 2, none⟩ = some (.int .i64 t.f2) := (blk_cell BK_ga.out 2).trans rfl; have hc5_ga_3 : w5.cell? ⟨ga, 3, none⟩ = some (.slice A t.f3.length c) := (blk_cell BK_ga.out 3).trans rfl; have hc5_gq_0 : w5.cell? ⟨gq, 0, none⟩ = some (.int .i64 by_) := (blk_cell BK_gq.out 0).trans rfl; clear hb)
  | (go_at_call 71; refine (impl_within.calls by_ (-99999) 99999 false _ HI.out).mono ?_; rintro e w6 ⟨rfl, hd⟩; have hb := hd.below; clear hd; have q_ := Aside0.mk (blk_below BK_ga.out hb); clear BK_ga; have BK_ga := q_; clear q_; have q_ := Aside0.mk (Nat.lt_of_lt_of_le HLT_ga.out hb.size); clear HLT_ga; have HLT_ga := q_; clear q_; have q_ := Aside0.mk (blk_below BK_gq.out hb); clear BK_gq; have BK_gq := q_; clear q_; have q_ := Aside0.mk (Nat.lt_of_lt_of_le HLT_gq.out hb.size); clear HLT_gq; have HLT_gq := q_; clear q_; have q_ := Aside0.mk (blk_below BK_gr.out hb); clear BK_gr; have BK_gr := q_; clear q_; have q_ := Aside0.mk (Nat.lt_of_lt_of_le HLT_gr.out hb.size); clear HLT_gr; have HLT_gr := q_; clear q_; have q_ := Aside0.mk (below_step HB.out hb); clear HB; have HB := q_; clear q_; clear hc5_ga_0 hc5_ga_1 hc5_ga_2 hc5_ga_3 hc5_gq_0; have hc6_ga_0 : w6.cell? ⟨ga, 0, none⟩ = some (.int .i64 t.f0) := (blk_cell BK_ga.out 0).trans rfl; have hc6_ga_1 : w6.cell? ⟨ga, 1, none⟩ = some (.string t.f1) := (blk_cell BK_ga.out 1).trans rfl; have hc6_ga_2 : w6.cell? ⟨ga, 2, none⟩ = some (.int .i64 t.f2) := (blk_cell BK_ga.out 2).trans rfl; have hc6_ga_3 : w6.cell? ⟨ga, 3, none⟩ = some (.slice A t.f3.length c) := (blk_cell BK_ga.out 3).trans rfl; have hc6_gq_0 : w6.cell? ⟨gq, 0, none⟩ = some (.int .i64 by_) := (blk_cell BK_gq.out 0).trans rfl; clear hb)
  | (go_at_call 81; refine (copy_calls kC t.f0 t.f1 t.f2 A c t.f3 t.f0 t.f1 t.f2 t.f3 _ (Kd.C_below HC.out HB.out) HCC.out HCP.out).mono ?_; rintro e w7 ⟨v_, rfl, ho, hb⟩; obtain ⟨A_z, c_z, rfl⟩ := Kd.S_slice ho; have nS_z := Aside0.mk (Kd.S_lower (Kd.S_mono (ok' := fun k_ => k_ ≠ ga ∧ k_ ≠ gq ∧ k_ ≠ gr) (Kd.S_bound ho) (fun k_ hk_ => ⟨(fun e_ => by have h1_ := hk_.2.1; have h2_ := HLT_ga.out; omega), (fun e_ => by have h1_ := hk_.2.1; have h2_ := HLT_gq.out; omega), (fun e_ => by have h1_ := hk_.2.1; have h2_ := HLT_gr.out; omega)⟩)) HB.out.size); clear ho; have q_ := Aside0.mk (blk_below BK_ga.out hb); clear BK_ga; have BK_ga := q_; clear q_; have q_ := Aside0.mk (Nat.lt_of_lt_of_le HLT_ga.out hb.size); clear HLT_ga; have HLT_ga := q_; clear q_; have q_ := Aside0.mk (blk_below BK_gq.out hb); clear BK_gq; have BK_gq := q_; clear q_; have q_ := Aside0.mk (Nat.lt_of_lt_of_le HLT_gq.out hb.size); clear HLT_gq; have HLT_gq := q_; clear q_; have q_ := Aside0.mk (blk_below BK_gr.out hb); clear BK_gr; have BK_gr := q_; clear q_; have q_ := Aside0.mk (Nat.lt_of_lt_of_le HLT_gr.out hb.size); clear HLT_gr; have HLT_gr := q_; clear q_; have q_ := Aside0.mk (below_step HB.out hb); clear HB; have HB := q_; clear q_; have HS_z := nS_z; clear nS_z; clear hc6_ga_0 hc6_ga_1 hc6_ga_2 hc6_ga_3 hc6_gq_0; have hc7_gr_0 : w7.cell? ⟨gr, 0, none⟩ = some (.int .i64 0) := (blk_cell BK_gr.out 0).trans rfl; have fc7_gr_0 := blk_frozen BK_gr.out 0; have hc7_gr_1 : w7.cell? ⟨gr, 1, none⟩ = some (.string (⟨#[]⟩ : ByteArray)) := (blk_cell BK_gr.out 1).trans rfl; have fc7_gr_1 := blk_frozen BK_gr.out 1; have hc7_gr_2 : w7.cell? ⟨gr, 2, none⟩ = some (.int .i64 0) := (blk_cell BK_gr.out 2).trans rfl; have fc7_gr_2 := blk_frozen BK_gr.out 2; have hc7_gr_3 : w7.cell? ⟨gr, 3, none⟩ = some (.slice none 0 0) := (blk_cell BK_gr.out 3).trans rfl; have fc7_gr_3 := blk_frozen BK_gr.out 3; clear hb))
 refine bodyPost_ret (results_cell_row rfl _ _ gr 29 #[.int .i64 t.f0,.string t.f1,.int .i64 t.f2,.slice A_z t.f3.length c_z] (0,0) _ rfl (by refine blk_put (cs:=#[.int .i64 t.f0,.string t.f1,.int .i64 t.f2,.slice none 0 0]) ?_ 3 _ rfl;refine blk_put (cs:=#[.int .i64 t.f0,.string t.f1,.int .i64 0,.slice none 0 0]) ?_ 2 _ rfl;refine blk_put (cs:=#[.int .i64 t.f0,.string (⟨#[]⟩ : ByteArray),.int .i64 0,.slice none 0 0]) ?_ 1 _ rfl;refine blk_put (cs:=#[.int .i64 0,.string (⟨#[]⟩ : ByteArray),.int .i64 0,.slice none 0 0]) ?_ 0 _ rfl;exact BK_gr.out) Try.underlying29 rfl (by kernel_rfl)) rfl ?_
 refine ⟨_,rfl,?_,(below_set (below_set (below_set (below_set HB.out HGE_gr.out) HGE_gr.out) HGE_gr.out) HGE_gr.out)⟩
 exact Kd.S_mono (Kd.S_far (p:=⟨gr,3,none⟩) (Kd.S_far (p:=⟨gr,2,none⟩) (Kd.S_far (p:=⟨gr,1,none⟩) (Kd.S_far (p:=⟨gr,0,none⟩) HS_z.out (fun k_ hk_ => by first|exact hk_.2.2|exact hk_.2.2.1|exact hk_.1.2.2) _) (fun k_ hk_ => by first|exact hk_.2.2|exact hk_.2.2.1|exact hk_.1.2.2) _) (fun k_ hk_ => by first|exact hk_.2.2|exact hk_.2.2.1|exact hk_.1.2.2) _) (fun k_ hk_ => by first|exact hk_.2.2|exact hk_.2.2.1|exact hk_.1.2.2) _) (fun _ _ => trivial)
set_option maxHeartbeats 16000000 in
set_option maxRecDepth 100000 in
theorem shB1 (t o : S29) (by_ : Int) (A : Option Addr) (c : Nat) (vs : List Int) (kT kT2 kC : Nat) (w : World) (hC : Kd.C k29 w A t.f3.length t.f3) (hc : t.f3.length ≤ c)
  (hT1 : impl_TermOk.f kT t.f0 t.f1 t.f2 t.f3 = some true)
  (hV : ∀ W A c,Kd.C k29 W A t.f3.length t.f3 → t.f3.length ≤ c → Calls Try.prog 34 #[.agg #[.int .i64 t.f0,.string t.f1,.int .i64 t.f2,.slice A t.f3.length c]] W fun e W' => ∃ v,e = .returned v ∧ Kd.R (Kd.int .i64) 3 W' W.heap.size (fun _ => True) v vs ∧ Below W.heap.size W W')
  (h0 : ((vs.length : Int) == 0) = false)
  (hI : impl_within.f by_ (-99999) 99999 = some true)
  (hR : ∀ g : Nat,∃ K,@sh_renamed.f ⟨by_,g⟩ K t.f0 t.f1 t.f2 t.f3 0 = some (o.f0,o.f1,o.f2,o.f3))
  (hT2 : impl_TermOk.f kT2 o.f0 o.f1 o.f2 o.f3 = some false)
  (hCP : impl_renamed.f kC t.f0 t.f1 t.f2 t.f3 0 = some (t.f0,t.f1,t.f2,t.f3))
  : Calls Try.prog 53 #[.agg #[.int .i64 t.f0,.string t.f1,.int .i64 t.f2,.slice A t.f3.length c],.int .i64 by_] w fun e w' => ∃ v,e = .returned (.agg #[.int .i64 t.f0,.string t.f1,.int .i64 t.f2,v]) ∧ Kd.S kD29 29 w' w.heap.size (fun _ => True) v t.f3 ∧ Below w.heap.size w w':=by
 have HC:=Aside0.mk hC
 have HCC:=Aside0.mk hc
 have HB:=Aside0.mk (Below.refl w.heap.size w)
 have HT1:=Aside0.mk hT1
 have HCP:=Aside0.mk hCP
 have HV:=Aside0.mk hV
 have HI:=Aside0.mk hI
 have HR:=Aside0.mk hR
 have HT2:=Aside0.mk hT2
 clear hT1 hCP hV hI hR hT2
 clear hC hc
 go_enter Try.func53,Try.ntmps53
 go_wp2_with (first
  | ((with_reducible refine gate_dst (N := 2) rfl ?_); refine box_event ?hg2 (N := 2) ?hd2 (cs := #[.int .i64 t.f0, .string t.f1, .int .i64 t.f2, .slice A t.f3.length c]) (t := 29) ?hr2 ?_; (case hd2 => rfl); (case hg2 => rfl); (case hr2 => first | (go_simp; done) | (go_simp; rfl)); intro ga hg w1 hbox hb; have HGE_ga := Aside0.mk (show w.heap.size ≤ ga by have := HB.out.size; omega); have q_ := Aside0.mk (below_step HB.out hb); clear HB; have HB := q_; clear q_; have BK_ga := Aside0.mk hbox; have HLT_ga := Aside0.mk (blk_lt hbox); have hc1_ga_0 : w1.cell? ⟨ga, 0, none⟩ = some (.int .i64 t.f0) := (blk_cell BK_ga.out 0).trans rfl; have hc1_ga_1 : w1.cell? ⟨ga, 1, none⟩ = some (.string t.f1) := (blk_cell BK_ga.out 1).trans rfl; have hc1_ga_2 : w1.cell? ⟨ga, 2, none⟩ = some (.int .i64 t.f2) := (blk_cell BK_ga.out 2).trans rfl; have hc1_ga_3 : w1.cell? ⟨ga, 3, none⟩ = some (.slice A t.f3.length c) := (blk_cell BK_ga.out 3).trans rfl; clear hg hbox hb)
  | ((with_reducible refine gate_dst (N := 3) rfl ?_); refine box_event ?hg3 (N := 3) ?hd3 (cs := #[.int .i64 by_]) (t := 3) ?hr3 ?_; (case hd3 => rfl); (case hg3 => rfl); (case hr3 => first | (go_simp; done) | (go_simp; rfl)); intro gq hg w2 hbox hb; have HGE_gq := Aside0.mk (show w.heap.size ≤ gq by have := HB.out.size; omega); have HN_ga_gq := Aside0.mk (show ga ≠ gq by intro e_; have := HLT_ga.out; omega); have q_ := Aside0.mk (blk_below BK_ga.out hb); clear BK_ga; have BK_ga := q_; clear q_; have q_ := Aside0.mk (Nat.lt_of_lt_of_le HLT_ga.out hb.size); clear HLT_ga; have HLT_ga := q_; clear q_; have q_ := Aside0.mk (below_step HB.out hb); clear HB; have HB := q_; clear q_; have BK_gq := Aside0.mk hbox; have HLT_gq := Aside0.mk (blk_lt hbox); clear hc1_ga_0 hc1_ga_1 hc1_ga_2 hc1_ga_3; have hc2_ga_0 : w2.cell? ⟨ga, 0, none⟩ = some (.int .i64 t.f0) := (blk_cell BK_ga.out 0).trans rfl; have hc2_ga_1 : w2.cell? ⟨ga, 1, none⟩ = some (.string t.f1) := (blk_cell BK_ga.out 1).trans rfl; have hc2_ga_2 : w2.cell? ⟨ga, 2, none⟩ = some (.int .i64 t.f2) := (blk_cell BK_ga.out 2).trans rfl; have hc2_ga_3 : w2.cell? ⟨ga, 3, none⟩ = some (.slice A t.f3.length c) := (blk_cell BK_ga.out 3).trans rfl; have hc2_gq_0 : w2.cell? ⟨gq, 0, none⟩ = some (.int .i64 by_) := (blk_cell BK_gq.out 0).trans rfl; clear hg hbox hb)
  | ((with_reducible refine gate_dst (N := 4) rfl ?_); refine box_event ?hg4 (N := 4) ?hd4 (cs := #[.int .i64 0, .string (⟨#[]⟩ : ByteArray), .int .i64 0, .slice none 0 0]) (t := 29) ?hr4 ?_; (case hd4 => rfl); (case hg4 => rfl); (case hr4 => first | (go_simp; done) | (go_simp; rfl)); intro gr hg w3 hbox hb; have HGE_gr := Aside0.mk (show w.heap.size ≤ gr by have := HB.out.size; omega); have HN_ga_gr := Aside0.mk (show ga ≠ gr by intro e_; have := HLT_ga.out; omega); have HN_gq_gr := Aside0.mk (show gq ≠ gr by intro e_; have := HLT_gq.out; omega); have q_ := Aside0.mk (blk_below BK_ga.out hb); clear BK_ga; have BK_ga := q_; clear q_; have q_ := Aside0.mk (Nat.lt_of_lt_of_le HLT_ga.out hb.size); clear HLT_ga; have HLT_ga := q_; clear q_; have q_ := Aside0.mk (blk_below BK_gq.out hb); clear BK_gq; have BK_gq := q_; clear q_; have q_ := Aside0.mk (Nat.lt_of_lt_of_le HLT_gq.out hb.size); clear HLT_gq; have HLT_gq := q_; clear q_; have q_ := Aside0.mk (below_step HB.out hb); clear HB; have HB := q_; clear q_; have BK_gr := Aside0.mk hbox; have HLT_gr := Aside0.mk (blk_lt hbox); clear hc2_ga_0 hc2_ga_1 hc2_ga_2 hc2_ga_3 hc2_gq_0; have hc3_ga_0 : w3.cell? ⟨ga, 0, none⟩ = some (.int .i64 t.f0) := (blk_cell BK_ga.out 0).trans rfl; have hc3_ga_1 : w3.cell? ⟨ga, 1, none⟩ = some (.string t.f1) := (blk_cell BK_ga.out 1).trans rfl; have hc3_ga_2 : w3.cell? ⟨ga, 2, none⟩ = some (.int .i64 t.f2) := (blk_cell BK_ga.out 2).trans rfl; have hc3_ga_3 : w3.cell? ⟨ga, 3, none⟩ = some (.slice A t.f3.length c) := (blk_cell BK_ga.out 3).trans rfl; have hc3_gq_0 : w3.cell? ⟨gq, 0, none⟩ = some (.int .i64 by_) := (blk_cell BK_gq.out 0).trans rfl; clear hg hbox hb)
  | (go_at_call 32; refine (impl_TermOk.calls kT t.f0 t.f1 t.f2 A c t.f3 true _ (Kd.C_below HC.out HB.out) HCC.out HT1.out).mono ?_; rintro e w4 ⟨rfl, hb⟩; have q_ := Aside0.mk (blk_below BK_ga.out hb); clear BK_ga; have BK_ga := q_; clear q_; have q_ := Aside0.mk (Nat.lt_of_lt_of_le HLT_ga.out hb.size); clear HLT_ga; have HLT_ga := q_; clear q_; have q_ := Aside0.mk (blk_below BK_gq.out hb); clear BK_gq; have BK_gq := q_; clear q_; have q_ := Aside0.mk (Nat.lt_of_lt_of_le HLT_gq.out hb.size); clear HLT_gq; have HLT_gq := q_; clear q_; have q_ := Aside0.mk (blk_below BK_gr.out hb); clear BK_gr; have BK_gr := q_; clear q_; have q_ := Aside0.mk (Nat.lt_of_lt_of_le HLT_gr.out hb.size); clear HLT_gr; have HLT_gr := q_; clear q_; have q_ := Aside0.mk (below_step HB.out hb); clear HB; have HB := q_; clear q_; clear hc3_ga_0 hc3_ga_1 hc3_ga_2 hc3_ga_3 hc3_gq_0; have hc4_ga_0 : w4.cell? ⟨ga, 0, none⟩ = some (.int .i64 t.f0) := (blk_cell BK_ga.out 0).trans rfl; have hc4_ga_1 : w4.cell? ⟨ga, 1, none⟩ = some (.string t.f1) := (blk_cell BK_ga.out 1).trans rfl; have hc4_ga_2 : w4.cell? ⟨ga, 2, none⟩ = some (.int .i64 t.f2) := (blk_cell BK_ga.out 2).trans rfl; have hc4_ga_3 : w4.cell? ⟨ga, 3, none⟩ = some (.slice A t.f3.length c) := (blk_cell BK_ga.out 3).trans rfl; have hc4_gq_0 : w4.cell? ⟨gq, 0, none⟩ = some (.int .i64 by_) := (blk_cell BK_gq.out 0).trans rfl; clear hb)
  | (go_at_call 34; refine (HV.out _ A c (Kd.C_below HC.out HB.out) HCC.out).mono ?_; rintro e w5 ⟨v_, rfl, ho, hb⟩; obtain ⟨Av, cv, rfl⟩ := Kd.R_slice ho; clear ho; have q_ := Aside0.mk (blk_below BK_ga.out hb); clear BK_ga; have BK_ga := q_; clear q_; have q_ := Aside0.mk (Nat.lt_of_lt_of_le HLT_ga.out hb.size); clear HLT_ga; have HLT_ga := q_; clear q_; have q_ := Aside0.mk (blk_below BK_gq.out hb); clear BK_gq; have BK_gq := q_; clear q_; have q_ := Aside0.mk (Nat.lt_of_lt_of_le HLT_gq.out hb.size); clear HLT_gq; have HLT_gq := q_; clear q_; have q_ := Aside0.mk (blk_below BK_gr.out hb); clear BK_gr; have BK_gr := q_; clear q_; have q_ := Aside0.mk (Nat.lt_of_lt_of_le HLT_gr.out hb.size); clear HLT_gr; have HLT_gr := q_; clear q_; have q_ := Aside0.mk (below_step HB.out hb); clear HB; have HB := q_; clear q_; clear hc4_ga_0 hc4_ga_1 hc4_ga_2 hc4_ga_3 hc4_gq_0; have hc5_ga_0 : w5.cell? ⟨ga, 0, none⟩ = some (.int .i64 t.f0) := (blk_cell BK_ga.out 0).trans rfl; have hc5_ga_1 : w5.cell? ⟨ga, 1, none⟩ = some (.string t.f1) := (blk_cell BK_ga.out 1).trans rfl; have hc5_ga_2 : w5.cell? ⟨ga, 2, none⟩ = some (.int .i64 t.f2) := (blk_cell BK_ga.out 2).trans rfl; have hc5_ga_3 : w5.cell? ⟨ga, 3, none⟩ = some (.slice A t.f3.length c) := (blk_cell BK_ga.out 3).trans rfl; have hc5_gq_0 : w5.cell? ⟨gq, 0, none⟩ = some (.int .i64 by_) := (blk_cell BK_gq.out 0).trans rfl; clear hb)
  | (go_at_call 71; refine (impl_within.calls by_ (-99999) 99999 true _ HI.out).mono ?_; rintro e w6 ⟨rfl, hd⟩; have hb := hd.below; clear hd; have q_ := Aside0.mk (blk_below BK_ga.out hb); clear BK_ga; have BK_ga := q_; clear q_; have q_ := Aside0.mk (Nat.lt_of_lt_of_le HLT_ga.out hb.size); clear HLT_ga; have HLT_ga := q_; clear q_; have q_ := Aside0.mk (blk_below BK_gq.out hb); clear BK_gq; have BK_gq := q_; clear q_; have q_ := Aside0.mk (Nat.lt_of_lt_of_le HLT_gq.out hb.size); clear HLT_gq; have HLT_gq := q_; clear q_; have q_ := Aside0.mk (blk_below BK_gr.out hb); clear BK_gr; have BK_gr := q_; clear q_; have q_ := Aside0.mk (Nat.lt_of_lt_of_le HLT_gr.out hb.size); clear HLT_gr; have HLT_gr := q_; clear q_; have q_ := Aside0.mk (below_step HB.out hb); clear HB; have HB := q_; clear q_; clear hc5_ga_0 hc5_ga_1 hc5_ga_2 hc5_ga_3 hc5_gq_0; have hc6_ga_0 : w6.cell? ⟨ga, 0, none⟩ = some (.int .i64 t.f0) := (blk_cell BK_ga.out 0).trans rfl; have hc6_ga_1 : w6.cell? ⟨ga, 1, none⟩ = some (.string t.f1) := (blk_cell BK_ga.out 1).trans rfl; have hc6_ga_2 : w6.cell? ⟨ga, 2, none⟩ = some (.int .i64 t.f2) := (blk_cell BK_ga.out 2).trans rfl; have hc6_ga_3 : w6.cell? ⟨ga, 3, none⟩ = some (.slice A t.f3.length c) := (blk_cell BK_ga.out 3).trans rfl; have hc6_gq_0 : w6.cell? ⟨gq, 0, none⟩ = some (.int .i64 by_) := (blk_cell BK_gq.out 0).trans rfl; clear hb)
  | (go_at_call 89; refine (@sh_renamed.deep _ _ _ _ _ (⟨by_, gq⟩ : ShBy) _ t.f0 t.f1 t.f2 A c t.f3 0 o.f0 o.f1 o.f2 o.f3 _ ((blk_cell BK_gq.out 0).trans rfl) (Kd.C_below HC.out HB.out) HCC.out (HR.out gq).choose_spec).mono ?_; rintro e w7 ⟨v_, rfl, ho, hb⟩; obtain ⟨A_o, c_o, rfl⟩ := Kd.S_slice ho; have nS_o := Aside0.mk (Kd.S_lower (Kd.S_mono (ok' := fun k_ => k_ ≠ ga ∧ k_ ≠ gq ∧ k_ ≠ gr) (Kd.S_bound ho) (fun k_ hk_ => ⟨(fun e_ => by have h1_ := hk_.2.1; have h2_ := HLT_ga.out; omega), (fun e_ => by have h1_ := hk_.2.1; have h2_ := HLT_gq.out; omega), (fun e_ => by have h1_ := hk_.2.1; have h2_ := HLT_gr.out; omega)⟩)) HB.out.size); clear ho; have q_ := Aside0.mk (blk_below BK_ga.out hb); clear BK_ga; have BK_ga := q_; clear q_; have q_ := Aside0.mk (Nat.lt_of_lt_of_le HLT_ga.out hb.size); clear HLT_ga; have HLT_ga := q_; clear q_; have q_ := Aside0.mk (blk_below BK_gq.out hb); clear BK_gq; have BK_gq := q_; clear q_; have q_ := Aside0.mk (Nat.lt_of_lt_of_le HLT_gq.out hb.size); clear HLT_gq; have HLT_gq := q_; clear q_; have q_ := Aside0.mk (blk_below BK_gr.out hb); clear BK_gr; have BK_gr := q_; clear q_; have q_ := Aside0.mk (Nat.lt_of_lt_of_le HLT_gr.out hb.size); clear HLT_gr; have HLT_gr := q_; clear q_; have q_ := Aside0.mk (below_step HB.out hb); clear HB; have HB := q_; clear q_; have HS_o := nS_o; clear nS_o; clear hc6_ga_0 hc6_ga_1 hc6_ga_2 hc6_ga_3 hc6_gq_0; have hc7_ga_0 : w7.cell? ⟨ga, 0, none⟩ = some (.int .i64 t.f0) := (blk_cell BK_ga.out 0).trans rfl; have hc7_ga_1 : w7.cell? ⟨ga, 1, none⟩ = some (.string t.f1) := (blk_cell BK_ga.out 1).trans rfl; have hc7_ga_2 : w7.cell? ⟨ga, 2, none⟩ = some (.int .i64 t.f2) := (blk_cell BK_ga.out 2).trans rfl; have hc7_ga_3 : w7.cell? ⟨ga, 3, none⟩ = some (.slice A t.f3.length c) := (blk_cell BK_ga.out 3).trans rfl; have hc7_gq_0 : w7.cell? ⟨gq, 0, none⟩ = some (.int .i64 by_) := (blk_cell BK_gq.out 0).trans rfl; clear hb)
  | ((with_reducible refine gate_dst (N := 5) rfl ?_); refine box_event ?hg5 (N := 5) ?hd5 (cs := #[.int .i64 0, .string (⟨#[]⟩ : ByteArray), .int .i64 0, .slice none 0 0]) (t := 29) ?hr5 ?_; (case hd5 => rfl); (case hg5 => rfl); (case hr5 => first | (go_simp; done) | (go_simp; rfl)); intro go hg w8 hbox hb; have HGE_go := Aside0.mk (show w.heap.size ≤ go by have := HB.out.size; omega); have HN_ga_go := Aside0.mk (show ga ≠ go by intro e_; have := HLT_ga.out; omega); have HN_gq_go := Aside0.mk (show gq ≠ go by intro e_; have := HLT_gq.out; omega); have HN_gr_go := Aside0.mk (show gr ≠ go by intro e_; have := HLT_gr.out; omega); have q_ := Aside0.mk (Kd.S_mono (ok' := fun k_ => (k_ ≠ ga ∧ k_ ≠ gq ∧ k_ ≠ gr) ∧ k_ ≠ go) (Kd.S_bound HS_o.out) (fun k_ hk_ => ⟨hk_.1, fun e_ => by have := hk_.2.2.1; omega⟩)); clear HS_o; have HS_o := q_; clear q_; have q_ := Aside0.mk (blk_below BK_ga.out hb); clear BK_ga; have BK_ga := q_; clear q_; have q_ := Aside0.mk (Nat.lt_of_lt_of_le HLT_ga.out hb.size); clear HLT_ga; have HLT_ga := q_; clear q_; have q_ := Aside0.mk (blk_below BK_gq.out hb); clear BK_gq; have BK_gq := q_; clear q_; have q_ := Aside0.mk (Nat.lt_of_lt_of_le HLT_gq.out hb.size); clear HLT_gq; have HLT_gq := q_; clear q_; have q_ := Aside0.mk (blk_below BK_gr.out hb); clear BK_gr; have BK_gr := q_; clear q_; have q_ := Aside0.mk (Nat.lt_of_lt_of_le HLT_gr.out hb.size); clear HLT_gr; have HLT_gr := q_; clear q_; have q_ := Aside0.mk (Kd.S_below HS_o.out hb); clear HS_o; have HS_o := q_; clear q_; have q_ := Aside0.mk (below_step HB.out hb); clear HB; have HB := q_; clear q_; have BK_go := Aside0.mk hbox; have HLT_go := Aside0.mk (blk_lt hbox); clear hc7_ga_0 hc7_ga_1 hc7_ga_2 hc7_ga_3 hc7_gq_0; have hc8_ga_0 : w8.cell? ⟨ga, 0, none⟩ = some (.int .i64 t.f0) := (blk_cell BK_ga.out 0).trans rfl; have hc8_ga_1 : w8.cell? ⟨ga, 1, none⟩ = some (.string t.f1) := (blk_cell BK_ga.out 1).trans rfl; have hc8_ga_2 : w8.cell? ⟨ga, 2, none⟩ = some (.int .i64 t.f2) := (blk_cell BK_ga.out 2).trans rfl; have hc8_ga_3 : w8.cell? ⟨ga, 3, none⟩ = some (.slice A t.f3.length c) := (blk_cell BK_ga.out 3).trans rfl; have hc8_gq_0 : w8.cell? ⟨gq, 0, none⟩ = some (.int .i64 by_) := (blk_cell BK_gq.out 0).trans rfl; have hc8_go_0 : w8.cell? ⟨go, 0, none⟩ = some (.int .i64 0) := (blk_cell BK_go.out 0).trans rfl; have fc8_go_0 := blk_frozen BK_go.out 0; have hc8_go_1 : w8.cell? ⟨go, 1, none⟩ = some (.string (⟨#[]⟩ : ByteArray)) := (blk_cell BK_go.out 1).trans rfl; have fc8_go_1 := blk_frozen BK_go.out 1; have hc8_go_2 : w8.cell? ⟨go, 2, none⟩ = some (.int .i64 0) := (blk_cell BK_go.out 2).trans rfl; have fc8_go_2 := blk_frozen BK_go.out 2; have hc8_go_3 : w8.cell? ⟨go, 3, none⟩ = some (.slice none 0 0) := (blk_cell BK_go.out 3).trans rfl; have fc8_go_3 := blk_frozen BK_go.out 3; clear hg hbox hb)
  | ((with_reducible refine gate_store (t := 29) (p := 5) rfl ?_); refine store_event (t := 29) (p := 5) (v := ?vo9) (w1 := ((((w8.setCell ⟨go, 0, none⟩ (.int .i64 o.f0)).setCell ⟨go, 1, none⟩ (.string o.f1)).setCell ⟨go, 2, none⟩ (.int .i64 o.f2)).setCell ⟨go, 3, none⟩ (.slice A_o o.f3.length c_o))) ?hgs9 ?hos9 ?hns9 ?hrs9 ?_; (case hos9 => rfl); (case hgs9 => rfl); (case hns9 => rfl); (case hrs9 => first | (go_simp; done) | (go_simp; rfl)); intro w9 hw; have nB_ := Aside0.mk (show Below w.heap.size w w9 from hw ▸ (below_set (below_set (below_set (below_set HB.out HGE_go.out) HGE_go.out) HGE_go.out) HGE_go.out)); have nK_go := Aside0.mk (show w9.heap[go]? = some (.cells #[.int .i64 o.f0, .string o.f1, .int .i64 o.f2, .slice A_o o.f3.length c_o] 29 (0, 0)) from by rw [hw]; refine blk_put (cs := #[.int .i64 o.f0, .string o.f1, .int .i64 o.f2, .slice none 0 0]) ?_ 3 _ rfl; refine blk_put (cs := #[.int .i64 o.f0, .string o.f1, .int .i64 0, .slice none 0 0]) ?_ 2 _ rfl; refine blk_put (cs := #[.int .i64 o.f0, .string (⟨#[]⟩ : ByteArray), .int .i64 0, .slice none 0 0]) ?_ 1 _ rfl; refine blk_put (cs := #[.int .i64 0, .string (⟨#[]⟩ : ByteArray), .int .i64 0, .slice none 0 0]) ?_ 0 _ rfl; exact BK_go.out); have nK_ga := Aside0.mk (show w9.heap[ga]? = some (.cells #[.int .i64 t.f0, .string t.f1, .int .i64 t.f2, .slice A t.f3.length c] 29 (0, 0)) from by rw [hw]; exact (blk_far (blk_far (blk_far (blk_far BK_ga.out HN_ga_go.out _) HN_ga_go.out _) HN_ga_go.out _) HN_ga_go.out _)); have nK_gq := Aside0.mk (show w9.heap[gq]? = some (.cells #[.int .i64 by_] 3 (0, 0)) from by rw [hw]; exact (blk_far (blk_far (blk_far (blk_far BK_gq.out HN_gq_go.out _) HN_gq_go.out _) HN_gq_go.out _) HN_gq_go.out _)); have nK_gr := Aside0.mk (show w9.heap[gr]? = some (.cells #[.int .i64 0, .string (⟨#[]⟩ : ByteArray), .int .i64 0, .slice none 0 0] 29 (0, 0)) from by rw [hw]; exact (blk_far (blk_far (blk_far (blk_far BK_gr.out HN_gr_go.out _) HN_gr_go.out _) HN_gr_go.out _) HN_gr_go.out _)); have nS_o := Aside0.mk (show Kd.S kD29 29 w9 w.heap.size (fun k_ => (k_ ≠ ga ∧ k_ ≠ gq ∧ k_ ≠ gr) ∧ k_ ≠ go) (.slice A_o o.f3.length c_o) o.f3 from by rw [hw]; exact (Kd.S_far (p := ⟨go, 3, none⟩) (Kd.S_far (p := ⟨go, 2, none⟩) (Kd.S_far (p := ⟨go, 1, none⟩) (Kd.S_far (p := ⟨go, 0, none⟩) HS_o.out (fun k_ hk_ => by first | exact hk_.2 | exact hk_.1.2 | exact hk_.1.1.2 | exact hk_.1.1.1.2 | (intro e_; subst e_; simp_all; done)) _) (fun k_ hk_ => by first | exact hk_.2 | exact hk_.1.2 | exact hk_.1.1.2 | exact hk_.1.1.1.2 | (intro e_; subst e_; simp_all; done)) _) (fun k_ hk_ => by first | exact hk_.2 | exact hk_.1.2 | exact hk_.1.1.2 | exact hk_.1.1.1.2 | (intro e_; subst e_; simp_all; done)) _) (fun k_ hk_ => by first | exact hk_.2 | exact hk_.1.2 | exact hk_.1.1.2 | exact hk_.1.1.1.2 | (intro e_; subst e_; simp_all; done)) _)); have nL_ := Aside0.mk (show w9.heap.size = w8.heap.size by rw [hw]; simp [World.setCell]); clear hw; have q_ := Aside0.mk (show ga < w9.heap.size by have h1_ := HLT_ga.out; have h2_ := nL_.out; omega); clear HLT_ga; have HLT_ga := q_; clear q_; have q_ := Aside0.mk (show gq < w9.heap.size by have h1_ := HLT_gq.out; have h2_ := nL_.out; omega); clear HLT_gq; have HLT_gq := q_; clear q_; have q_ := Aside0.mk (show gr < w9.heap.size by have h1_ := HLT_gr.out; have h2_ := nL_.out; omega); clear HLT_gr; have HLT_gr := q_; clear q_; have q_ := Aside0.mk (show go < w9.heap.size by have h1_ := HLT_go.out; have h2_ := nL_.out; omega); clear HLT_go; have HLT_go := q_; clear q_; clear HB BK_ga BK_gq BK_gr BK_go HS_o; have HB := nB_; have BK_ga := nK_ga; have BK_gq := nK_gq; have BK_gr := nK_gr; have BK_go := nK_go; have HS_o := nS_o; clear nL_ nB_ nK_ga nK_gq nK_gr nK_go nS_o; clear hc8_ga_0 hc8_ga_1 hc8_ga_2 hc8_ga_3 hc8_gq_0 hc8_go_0 fc8_go_0 hc8_go_1 fc8_go_1 hc8_go_2 fc8_go_2 hc8_go_3 fc8_go_3; have hc9_go_0 : w9.cell? ⟨go, 0, none⟩ = some (.int .i64 o.f0) := (blk_cell BK_go.out 0).trans rfl; have hc9_go_1 : w9.cell? ⟨go, 1, none⟩ = some (.string o.f1) := (blk_cell BK_go.out 1).trans rfl; have hc9_go_2 : w9.cell? ⟨go, 2, none⟩ = some (.int .i64 o.f2) := (blk_cell BK_go.out 2).trans rfl; have hc9_go_3 : w9.cell? ⟨go, 3, none⟩ = some (.slice A_o o.f3.length c_o) := (blk_cell BK_go.out 3).trans rfl)
  | (go_at_call 32; refine (impl_TermOk.calls kT2 o.f0 o.f1 o.f2 A_o c_o o.f3 false _ (readS HS_o.out).2 (readS HS_o.out).1 HT2.out).mono ?_; rintro e w10 ⟨rfl, hb⟩; have q_ := Aside0.mk (blk_below BK_ga.out hb); clear BK_ga; have BK_ga := q_; clear q_; have q_ := Aside0.mk (Nat.lt_of_lt_of_le HLT_ga.out hb.size); clear HLT_ga; have HLT_ga := q_; clear q_; have q_ := Aside0.mk (blk_below BK_gq.out hb); clear BK_gq; have BK_gq := q_; clear q_; have q_ := Aside0.mk (Nat.lt_of_lt_of_le HLT_gq.out hb.size); clear HLT_gq; have HLT_gq := q_; clear q_; have q_ := Aside0.mk (blk_below BK_gr.out hb); clear BK_gr; have BK_gr := q_; clear q_; have q_ := Aside0.mk (Nat.lt_of_lt_of_le HLT_gr.out hb.size); clear HLT_gr; have HLT_gr := q_; clear q_; have q_ := Aside0.mk (blk_below BK_go.out hb); clear BK_go; have BK_go := q_; clear q_; have q_ := Aside0.mk (Nat.lt_of_lt_of_le HLT_go.out hb.size); clear HLT_go; have HLT_go := q_; clear q_; have q_ := Aside0.mk (Kd.S_below HS_o.out hb); clear HS_o; have HS_o := q_; clear q_; have q_ := Aside0.mk (below_step HB.out hb); clear HB; have HB := q_; clear q_; clear hc9_go_0 hc9_go_1 hc9_go_2 hc9_go_3; have hc10_ga_0 : w10.cell? ⟨ga, 0, none⟩ = some (.int .i64 t.f0) := (blk_cell BK_ga.out 0).trans rfl; have hc10_ga_1 : w10.cell? ⟨ga, 1, none⟩ = some (.string t.f1) := (blk_cell BK_ga.out 1).trans rfl; have hc10_ga_2 : w10.cell? ⟨ga, 2, none⟩ = some (.int .i64 t.f2) := (blk_cell BK_ga.out 2).trans rfl; have hc10_ga_3 : w10.cell? ⟨ga, 3, none⟩ = some (.slice A t.f3.length c) := (blk_cell BK_ga.out 3).trans rfl; have hc10_go_0 : w10.cell? ⟨go, 0, none⟩ = some (.int .i64 o.f0) := (blk_cell BK_go.out 0).trans rfl; have hc10_go_1 : w10.cell? ⟨go, 1, none⟩ = some (.string o.f1) := (blk_cell BK_go.out 1).trans rfl; have hc10_go_2 : w10.cell? ⟨go, 2, none⟩ = some (.int .i64 o.f2) := (blk_cell BK_go.out 2).trans rfl; have hc10_go_3 : w10.cell? ⟨go, 3, none⟩ = some (.slice A_o o.f3.length c_o) := (blk_cell BK_go.out 3).trans rfl; clear hb)
  | (go_at_call 81; refine (copy_calls kC t.f0 t.f1 t.f2 A c t.f3 t.f0 t.f1 t.f2 t.f3 _ (Kd.C_below HC.out HB.out) HCC.out HCP.out).mono ?_; rintro e w11 ⟨v_, rfl, ho, hb⟩; obtain ⟨A_z, c_z, rfl⟩ := Kd.S_slice ho; have nS_z := Aside0.mk (Kd.S_lower (Kd.S_mono (ok' := fun k_ => k_ ≠ ga ∧ k_ ≠ gq ∧ k_ ≠ gr ∧ k_ ≠ go) (Kd.S_bound ho) (fun k_ hk_ => ⟨(fun e_ => by have h1_ := hk_.2.1; have h2_ := HLT_ga.out; omega), (fun e_ => by have h1_ := hk_.2.1; have h2_ := HLT_gq.out; omega), (fun e_ => by have h1_ := hk_.2.1; have h2_ := HLT_gr.out; omega), (fun e_ => by have h1_ := hk_.2.1; have h2_ := HLT_go.out; omega)⟩)) HB.out.size); clear ho; have q_ := Aside0.mk (blk_below BK_ga.out hb); clear BK_ga; have BK_ga := q_; clear q_; have q_ := Aside0.mk (Nat.lt_of_lt_of_le HLT_ga.out hb.size); clear HLT_ga; have HLT_ga := q_; clear q_; have q_ := Aside0.mk (blk_below BK_gq.out hb); clear BK_gq; have BK_gq := q_; clear q_; have q_ := Aside0.mk (Nat.lt_of_lt_of_le HLT_gq.out hb.size); clear HLT_gq; have HLT_gq := q_; clear q_; have q_ := Aside0.mk (blk_below BK_gr.out hb); clear BK_gr; have BK_gr := q_; clear q_; have q_ := Aside0.mk (Nat.lt_of_lt_of_le HLT_gr.out hb.size); clear HLT_gr; have HLT_gr := q_; clear q_; have q_ := Aside0.mk (blk_below BK_go.out hb); clear BK_go; have BK_go := q_; clear q_; have q_ := Aside0.mk (Nat.lt_of_lt_of_le HLT_go.out hb.size); clear HLT_go; have HLT_go := q_; clear q_; have q_ := Aside0.mk (below_step HB.out hb); clear HB; have HB := q_; clear q_; have HS_z := nS_z; clear nS_z; clear hc10_ga_0 hc10_ga_1 hc10_ga_2 hc10_ga_3 hc10_go_0 hc10_go_1 hc10_go_2 hc10_go_3; have hc11_gr_0 : w11.cell? ⟨gr, 0, none⟩ = some (.int .i64 0) := (blk_cell BK_gr.out 0).trans rfl; have fc11_gr_0 := blk_frozen BK_gr.out 0; have hc11_gr_1 : w11.cell? ⟨gr, 1, none⟩ = some (.string (⟨#[]⟩ : ByteArray)) := (blk_cell BK_gr.out 1).trans rfl; have fc11_gr_1 := blk_frozen BK_gr.out 1; have hc11_gr_2 : w11.cell? ⟨gr, 2, none⟩ = some (.int .i64 0) := (blk_cell BK_gr.out 2).trans rfl; have fc11_gr_2 := blk_frozen BK_gr.out 2; have hc11_gr_3 : w11.cell? ⟨gr, 3, none⟩ = some (.slice none 0 0) := (blk_cell BK_gr.out 3).trans rfl; have fc11_gr_3 := blk_frozen BK_gr.out 3; clear hb))
 refine bodyPost_ret (results_cell_row rfl _ _ gr 29 #[.int .i64 t.f0,.string t.f1,.int .i64 t.f2,.slice A_z t.f3.length c_z] (0,0) _ rfl (by refine blk_put (cs:=#[.int .i64 t.f0,.string t.f1,.int .i64 t.f2,.slice none 0 0]) ?_ 3 _ rfl;refine blk_put (cs:=#[.int .i64 t.f0,.string t.f1,.int .i64 0,.slice none 0 0]) ?_ 2 _ rfl;refine blk_put (cs:=#[.int .i64 t.f0,.string (⟨#[]⟩ : ByteArray),.int .i64 0,.slice none 0 0]) ?_ 1 _ rfl;refine blk_put (cs:=#[.int .i64 0,.string (⟨#[]⟩ : ByteArray),.int .i64 0,.slice none 0 0]) ?_ 0 _ rfl;exact BK_gr.out) Try.underlying29 rfl (by kernel_rfl)) rfl ?_
 refine ⟨_,rfl,?_,(below_set (below_set (below_set (below_set HB.out HGE_gr.out) HGE_gr.out) HGE_gr.out) HGE_gr.out)⟩
 exact Kd.S_mono (Kd.S_far (p:=⟨gr,3,none⟩) (Kd.S_far (p:=⟨gr,2,none⟩) (Kd.S_far (p:=⟨gr,1,none⟩) (Kd.S_far (p:=⟨gr,0,none⟩) HS_z.out (fun k_ hk_ => by first|exact hk_.2.2|exact hk_.2.2.1|exact hk_.1.2.2) _) (fun k_ hk_ => by first|exact hk_.2.2|exact hk_.2.2.1|exact hk_.1.2.2) _) (fun k_ hk_ => by first|exact hk_.2.2|exact hk_.2.2.1|exact hk_.1.2.2) _) (fun k_ hk_ => by first|exact hk_.2.2|exact hk_.2.2.1|exact hk_.1.2.2) _) (fun _ _ => trivial)
set_option maxHeartbeats 16000000 in
set_option maxRecDepth 100000 in
theorem shB2 (t o : S29) (by_ : Int) (A : Option Addr) (c : Nat) (vs : List Int) (kT kT2 kC : Nat) (w : World) (hC : Kd.C k29 w A t.f3.length t.f3) (hc : t.f3.length ≤ c)
  (hT1 : impl_TermOk.f kT t.f0 t.f1 t.f2 t.f3 = some true)
  (hV : ∀ W A c,Kd.C k29 W A t.f3.length t.f3 → t.f3.length ≤ c → Calls Try.prog 34 #[.agg #[.int .i64 t.f0,.string t.f1,.int .i64 t.f2,.slice A t.f3.length c]] W fun e W' => ∃ v,e = .returned v ∧ Kd.R (Kd.int .i64) 3 W' W.heap.size (fun _ => True) v vs ∧ Below W.heap.size W W')
  (h0 : ((vs.length : Int) == 0) = false)
  (hI : impl_within.f by_ (-99999) 99999 = some true)
  (hR : ∀ g : Nat,∃ K,@sh_renamed.f ⟨by_,g⟩ K t.f0 t.f1 t.f2 t.f3 0 = some (o.f0,o.f1,o.f2,o.f3))
  (hT2 : impl_TermOk.f kT2 o.f0 o.f1 o.f2 o.f3 = some true)
  : Calls Try.prog 53 #[.agg #[.int .i64 t.f0,.string t.f1,.int .i64 t.f2,.slice A t.f3.length c],.int .i64 by_] w fun e w' => ∃ v,e = .returned (.agg #[.int .i64 o.f0,.string o.f1,.int .i64 o.f2,v]) ∧ Kd.S kD29 29 w' w.heap.size (fun _ => True) v o.f3 ∧ Below w.heap.size w w':=by
 have HC:=Aside0.mk hC
 have HCC:=Aside0.mk hc
 have HB:=Aside0.mk (Below.refl w.heap.size w)
 have HT1:=Aside0.mk hT1
 have HV:=Aside0.mk hV
 have HI:=Aside0.mk hI
 have HR:=Aside0.mk hR
 have HT2:=Aside0.mk hT2
 clear hT1 hV hI hR hT2
 clear hC hc
 go_enter Try.func53,Try.ntmps53
 go_wp2_with (first
  | ((with_reducible refine gate_dst (N := 2) rfl ?_); refine box_event ?hg2 (N := 2) ?hd2 (cs := #[.int .i64 t.f0, .string t.f1, .int .i64 t.f2, .slice A t.f3.length c]) (t := 29) ?hr2 ?_; (case hd2 => rfl); (case hg2 => rfl); (case hr2 => first | (go_simp; done) | (go_simp; rfl)); intro ga hg w1 hbox hb; have HGE_ga := Aside0.mk (show w.heap.size ≤ ga by have := HB.out.size; omega); have q_ := Aside0.mk (below_step HB.out hb); clear HB; have HB := q_; clear q_; have BK_ga := Aside0.mk hbox; have HLT_ga := Aside0.mk (blk_lt hbox); have hc1_ga_0 : w1.cell? ⟨ga, 0, none⟩ = some (.int .i64 t.f0) := (blk_cell BK_ga.out 0).trans rfl; have hc1_ga_1 : w1.cell? ⟨ga, 1, none⟩ = some (.string t.f1) := (blk_cell BK_ga.out 1).trans rfl; have hc1_ga_2 : w1.cell? ⟨ga, 2, none⟩ = some (.int .i64 t.f2) := (blk_cell BK_ga.out 2).trans rfl; have hc1_ga_3 : w1.cell? ⟨ga, 3, none⟩ = some (.slice A t.f3.length c) := (blk_cell BK_ga.out 3).trans rfl; clear hg hbox hb)
  | ((with_reducible refine gate_dst (N := 3) rfl ?_); refine box_event ?hg3 (N := 3) ?hd3 (cs := #[.int .i64 by_]) (t := 3) ?hr3 ?_; (case hd3 => rfl); (case hg3 => rfl); (case hr3 => first | (go_simp; done) | (go_simp; rfl)); intro gq hg w2 hbox hb; have HGE_gq := Aside0.mk (show w.heap.size ≤ gq by have := HB.out.size; omega); have HN_ga_gq := Aside0.mk (show ga ≠ gq by intro e_; have := HLT_ga.out; omega); have q_ := Aside0.mk (blk_below BK_ga.out hb); clear BK_ga; have BK_ga := q_; clear q_; have q_ := Aside0.mk (Nat.lt_of_lt_of_le HLT_ga.out hb.size); clear HLT_ga; have HLT_ga := q_; clear q_; have q_ := Aside0.mk (below_step HB.out hb); clear HB; have HB := q_; clear q_; have BK_gq := Aside0.mk hbox; have HLT_gq := Aside0.mk (blk_lt hbox); clear hc1_ga_0 hc1_ga_1 hc1_ga_2 hc1_ga_3; have hc2_ga_0 : w2.cell? ⟨ga, 0, none⟩ = some (.int .i64 t.f0) := (blk_cell BK_ga.out 0).trans rfl; have hc2_ga_1 : w2.cell? ⟨ga, 1, none⟩ = some (.string t.f1) := (blk_cell BK_ga.out 1).trans rfl; have hc2_ga_2 : w2.cell? ⟨ga, 2, none⟩ = some (.int .i64 t.f2) := (blk_cell BK_ga.out 2).trans rfl; have hc2_ga_3 : w2.cell? ⟨ga, 3, none⟩ = some (.slice A t.f3.length c) := (blk_cell BK_ga.out 3).trans rfl; have hc2_gq_0 : w2.cell? ⟨gq, 0, none⟩ = some (.int .i64 by_) := (blk_cell BK_gq.out 0).trans rfl; clear hg hbox hb)
  | ((with_reducible refine gate_dst (N := 4) rfl ?_); refine box_event ?hg4 (N := 4) ?hd4 (cs := #[.int .i64 0, .string (⟨#[]⟩ : ByteArray), .int .i64 0, .slice none 0 0]) (t := 29) ?hr4 ?_; (case hd4 => rfl); (case hg4 => rfl); (case hr4 => first | (go_simp; done) | (go_simp; rfl)); intro gr hg w3 hbox hb; have HGE_gr := Aside0.mk (show w.heap.size ≤ gr by have := HB.out.size; omega); have HN_ga_gr := Aside0.mk (show ga ≠ gr by intro e_; have := HLT_ga.out; omega); have HN_gq_gr := Aside0.mk (show gq ≠ gr by intro e_; have := HLT_gq.out; omega); have q_ := Aside0.mk (blk_below BK_ga.out hb); clear BK_ga; have BK_ga := q_; clear q_; have q_ := Aside0.mk (Nat.lt_of_lt_of_le HLT_ga.out hb.size); clear HLT_ga; have HLT_ga := q_; clear q_; have q_ := Aside0.mk (blk_below BK_gq.out hb); clear BK_gq; have BK_gq := q_; clear q_; have q_ := Aside0.mk (Nat.lt_of_lt_of_le HLT_gq.out hb.size); clear HLT_gq; have HLT_gq := q_; clear q_; have q_ := Aside0.mk (below_step HB.out hb); clear HB; have HB := q_; clear q_; have BK_gr := Aside0.mk hbox; have HLT_gr := Aside0.mk (blk_lt hbox); clear hc2_ga_0 hc2_ga_1 hc2_ga_2 hc2_ga_3 hc2_gq_0; have hc3_ga_0 : w3.cell? ⟨ga, 0, none⟩ = some (.int .i64 t.f0) := (blk_cell BK_ga.out 0).trans rfl; have hc3_ga_1 : w3.cell? ⟨ga, 1, none⟩ = some (.string t.f1) := (blk_cell BK_ga.out 1).trans rfl; have hc3_ga_2 : w3.cell? ⟨ga, 2, none⟩ = some (.int .i64 t.f2) := (blk_cell BK_ga.out 2).trans rfl; have hc3_ga_3 : w3.cell? ⟨ga, 3, none⟩ = some (.slice A t.f3.length c) := (blk_cell BK_ga.out 3).trans rfl; have hc3_gq_0 : w3.cell? ⟨gq, 0, none⟩ = some (.int .i64 by_) := (blk_cell BK_gq.out 0).trans rfl; clear hg hbox hb)
  | (go_at_call 32; refine (impl_TermOk.calls kT t.f0 t.f1 t.f2 A c t.f3 true _ (Kd.C_below HC.out HB.out) HCC.out HT1.out).mono ?_; rintro e w4 ⟨rfl, hb⟩; have q_ := Aside0.mk (blk_below BK_ga.out hb); clear BK_ga; have BK_ga := q_; clear q_; have q_ := Aside0.mk (Nat.lt_of_lt_of_le HLT_ga.out hb.size); clear HLT_ga; have HLT_ga := q_; clear q_; have q_ := Aside0.mk (blk_below BK_gq.out hb); clear BK_gq; have BK_gq := q_; clear q_; have q_ := Aside0.mk (Nat.lt_of_lt_of_le HLT_gq.out hb.size); clear HLT_gq; have HLT_gq := q_; clear q_; have q_ := Aside0.mk (blk_below BK_gr.out hb); clear BK_gr; have BK_gr := q_; clear q_; have q_ := Aside0.mk (Nat.lt_of_lt_of_le HLT_gr.out hb.size); clear HLT_gr; have HLT_gr := q_; clear q_; have q_ := Aside0.mk (below_step HB.out hb); clear HB; have HB := q_; clear q_; clear hc3_ga_0 hc3_ga_1 hc3_ga_2 hc3_ga_3 hc3_gq_0; have hc4_ga_0 : w4.cell? ⟨ga, 0, none⟩ = some (.int .i64 t.f0) := (blk_cell BK_ga.out 0).trans rfl; have hc4_ga_1 : w4.cell? ⟨ga, 1, none⟩ = some (.string t.f1) := (blk_cell BK_ga.out 1).trans rfl; have hc4_ga_2 : w4.cell? ⟨ga, 2, none⟩ = some (.int .i64 t.f2) := (blk_cell BK_ga.out 2).trans rfl; have hc4_ga_3 : w4.cell? ⟨ga, 3, none⟩ = some (.slice A t.f3.length c) := (blk_cell BK_ga.out 3).trans rfl; have hc4_gq_0 : w4.cell? ⟨gq, 0, none⟩ = some (.int .i64 by_) := (blk_cell BK_gq.out 0).trans rfl; clear hb)
  | (go_at_call 34; refine (HV.out _ A c (Kd.C_below HC.out HB.out) HCC.out).mono ?_; rintro e w5 ⟨v_, rfl, ho, hb⟩; obtain ⟨Av, cv, rfl⟩ := Kd.R_slice ho; clear ho; have q_ := Aside0.mk (blk_below BK_ga.out hb); clear BK_ga; have BK_ga := q_; clear q_; have q_ := Aside0.mk (Nat.lt_of_lt_of_le HLT_ga.out hb.size); clear HLT_ga; have HLT_ga := q_; clear q_; have q_ := Aside0.mk (blk_below BK_gq.out hb); clear BK_gq; have BK_gq := q_; clear q_; have q_ := Aside0.mk (Nat.lt_of_lt_of_le HLT_gq.out hb.size); clear HLT_gq; have HLT_gq := q_; clear q_; have q_ := Aside0.mk (blk_below BK_gr.out hb); clear BK_gr; have BK_gr := q_; clear q_; have q_ := Aside0.mk (Nat.lt_of_lt_of_le HLT_gr.out hb.size); clear HLT_gr; have HLT_gr := q_; clear q_; have q_ := Aside0.mk (below_step HB.out hb); clear HB; have HB := q_; clear q_; clear hc4_ga_0 hc4_ga_1 hc4_ga_2 hc4_ga_3 hc4_gq_0; have hc5_ga_0 : w5.cell? ⟨ga, 0, none⟩ = some (.int .i64 t.f0) := (blk_cell BK_ga.out 0).trans rfl; have hc5_ga_1 : w5.cell? ⟨ga, 1, none⟩ = some (.string t.f1) := (blk_cell BK_ga.out 1).trans rfl; have hc5_ga_2 : w5.cell? ⟨ga, 2, none⟩ = some (.int .i64 t.f2) := (blk_cell BK_ga.out 2).trans rfl; have hc5_ga_3 : w5.cell? ⟨ga, 3, none⟩ = some (.slice A t.f3.length c) := (blk_cell BK_ga.out 3).trans rfl; have hc5_gq_0 : w5.cell? ⟨gq, 0, none⟩ = some (.int .i64 by_) := (blk_cell BK_gq.out 0).trans rfl; clear hb)
  | (go_at_call 71; refine (impl_within.calls by_ (-99999) 99999 true _ HI.out).mono ?_; rintro e w6 ⟨rfl, hd⟩; have hb := hd.below; clear hd; have q_ := Aside0.mk (blk_below BK_ga.out hb); clear BK_ga; have BK_ga := q_; clear q_; have q_ := Aside0.mk (Nat.lt_of_lt_of_le HLT_ga.out hb.size); clear HLT_ga; have HLT_ga := q_; clear q_; have q_ := Aside0.mk (blk_below BK_gq.out hb); clear BK_gq; have BK_gq := q_; clear q_; have q_ := Aside0.mk (Nat.lt_of_lt_of_le HLT_gq.out hb.size); clear HLT_gq; have HLT_gq := q_; clear q_; have q_ := Aside0.mk (blk_below BK_gr.out hb); clear BK_gr; have BK_gr := q_; clear q_; have q_ := Aside0.mk (Nat.lt_of_lt_of_le HLT_gr.out hb.size); clear HLT_gr; have HLT_gr := q_; clear q_; have q_ := Aside0.mk (below_step HB.out hb); clear HB; have HB := q_; clear q_; clear hc5_ga_0 hc5_ga_1 hc5_ga_2 hc5_ga_3 hc5_gq_0; have hc6_ga_0 : w6.cell? ⟨ga, 0, none⟩ = some (.int .i64 t.f0) := (blk_cell BK_ga.out 0).trans rfl; have hc6_ga_1 : w6.cell? ⟨ga, 1, none⟩ = some (.string t.f1) := (blk_cell BK_ga.out 1).trans rfl; have hc6_ga_2 : w6.cell? ⟨ga, 2, none⟩ = some (.int .i64 t.f2) := (blk_cell BK_ga.out 2).trans rfl; have hc6_ga_3 : w6.cell? ⟨ga, 3, none⟩ = some (.slice A t.f3.length c) := (blk_cell BK_ga.out 3).trans rfl; have hc6_gq_0 : w6.cell? ⟨gq, 0, none⟩ = some (.int .i64 by_) := (blk_cell BK_gq.out 0).trans rfl; clear hb)
  | (go_at_call 89; refine (@sh_renamed.deep _ _ _ _ _ (⟨by_, gq⟩ : ShBy) _ t.f0 t.f1 t.f2 A c t.f3 0 o.f0 o.f1 o.f2 o.f3 _ ((blk_cell BK_gq.out 0).trans rfl) (Kd.C_below HC.out HB.out) HCC.out (HR.out gq).choose_spec).mono ?_; rintro e w7 ⟨v_, rfl, ho, hb⟩; obtain ⟨A_o, c_o, rfl⟩ := Kd.S_slice ho; have nS_o := Aside0.mk (Kd.S_lower (Kd.S_mono (ok' := fun k_ => k_ ≠ ga ∧ k_ ≠ gq ∧ k_ ≠ gr) (Kd.S_bound ho) (fun k_ hk_ => ⟨(fun e_ => by have h1_ := hk_.2.1; have h2_ := HLT_ga.out; omega), (fun e_ => by have h1_ := hk_.2.1; have h2_ := HLT_gq.out; omega), (fun e_ => by have h1_ := hk_.2.1; have h2_ := HLT_gr.out; omega)⟩)) HB.out.size); clear ho; have q_ := Aside0.mk (blk_below BK_ga.out hb); clear BK_ga; have BK_ga := q_; clear q_; have q_ := Aside0.mk (Nat.lt_of_lt_of_le HLT_ga.out hb.size); clear HLT_ga; have HLT_ga := q_; clear q_; have q_ := Aside0.mk (blk_below BK_gq.out hb); clear BK_gq; have BK_gq := q_; clear q_; have q_ := Aside0.mk (Nat.lt_of_lt_of_le HLT_gq.out hb.size); clear HLT_gq; have HLT_gq := q_; clear q_; have q_ := Aside0.mk (blk_below BK_gr.out hb); clear BK_gr; have BK_gr := q_; clear q_; have q_ := Aside0.mk (Nat.lt_of_lt_of_le HLT_gr.out hb.size); clear HLT_gr; have HLT_gr := q_; clear q_; have q_ := Aside0.mk (below_step HB.out hb); clear HB; have HB := q_; clear q_; have HS_o := nS_o; clear nS_o; clear hc6_ga_0 hc6_ga_1 hc6_ga_2 hc6_ga_3 hc6_gq_0; have hc7_ga_0 : w7.cell? ⟨ga, 0, none⟩ = some (.int .i64 t.f0) := (blk_cell BK_ga.out 0).trans rfl; have hc7_ga_1 : w7.cell? ⟨ga, 1, none⟩ = some (.string t.f1) := (blk_cell BK_ga.out 1).trans rfl; have hc7_ga_2 : w7.cell? ⟨ga, 2, none⟩ = some (.int .i64 t.f2) := (blk_cell BK_ga.out 2).trans rfl; have hc7_ga_3 : w7.cell? ⟨ga, 3, none⟩ = some (.slice A t.f3.length c) := (blk_cell BK_ga.out 3).trans rfl; have hc7_gq_0 : w7.cell? ⟨gq, 0, none⟩ = some (.int .i64 by_) := (blk_cell BK_gq.out 0).trans rfl; clear hb)
  | ((with_reducible refine gate_dst (N := 5) rfl ?_); refine box_event ?hg5 (N := 5) ?hd5 (cs := #[.int .i64 0, .string (⟨#[]⟩ : ByteArray), .int .i64 0, .slice none 0 0]) (t := 29) ?hr5 ?_; (case hd5 => rfl); (case hg5 => rfl); (case hr5 => first | (go_simp; done) | (go_simp; rfl)); intro go hg w8 hbox hb; have HGE_go := Aside0.mk (show w.heap.size ≤ go by have := HB.out.size; omega); have HN_ga_go := Aside0.mk (show ga ≠ go by intro e_; have := HLT_ga.out; omega); have HN_gq_go := Aside0.mk (show gq ≠ go by intro e_; have := HLT_gq.out; omega); have HN_gr_go := Aside0.mk (show gr ≠ go by intro e_; have := HLT_gr.out; omega); have q_ := Aside0.mk (Kd.S_mono (ok' := fun k_ => (k_ ≠ ga ∧ k_ ≠ gq ∧ k_ ≠ gr) ∧ k_ ≠ go) (Kd.S_bound HS_o.out) (fun k_ hk_ => ⟨hk_.1, fun e_ => by have := hk_.2.2.1; omega⟩)); clear HS_o; have HS_o := q_; clear q_; have q_ := Aside0.mk (blk_below BK_ga.out hb); clear BK_ga; have BK_ga := q_; clear q_; have q_ := Aside0.mk (Nat.lt_of_lt_of_le HLT_ga.out hb.size); clear HLT_ga; have HLT_ga := q_; clear q_; have q_ := Aside0.mk (blk_below BK_gq.out hb); clear BK_gq; have BK_gq := q_; clear q_; have q_ := Aside0.mk (Nat.lt_of_lt_of_le HLT_gq.out hb.size); clear HLT_gq; have HLT_gq := q_; clear q_; have q_ := Aside0.mk (blk_below BK_gr.out hb); clear BK_gr; have BK_gr := q_; clear q_; have q_ := Aside0.mk (Nat.lt_of_lt_of_le HLT_gr.out hb.size); clear HLT_gr; have HLT_gr := q_; clear q_; have q_ := Aside0.mk (Kd.S_below HS_o.out hb); clear HS_o; have HS_o := q_; clear q_; have q_ := Aside0.mk (below_step HB.out hb); clear HB; have HB := q_; clear q_; have BK_go := Aside0.mk hbox; have HLT_go := Aside0.mk (blk_lt hbox); clear hc7_ga_0 hc7_ga_1 hc7_ga_2 hc7_ga_3 hc7_gq_0; have hc8_ga_0 : w8.cell? ⟨ga, 0, none⟩ = some (.int .i64 t.f0) := (blk_cell BK_ga.out 0).trans rfl; have hc8_ga_1 : w8.cell? ⟨ga, 1, none⟩ = some (.string t.f1) := (blk_cell BK_ga.out 1).trans rfl; have hc8_ga_2 : w8.cell? ⟨ga, 2, none⟩ = some (.int .i64 t.f2) := (blk_cell BK_ga.out 2).trans rfl; have hc8_ga_3 : w8.cell? ⟨ga, 3, none⟩ = some (.slice A t.f3.length c) := (blk_cell BK_ga.out 3).trans rfl; have hc8_gq_0 : w8.cell? ⟨gq, 0, none⟩ = some (.int .i64 by_) := (blk_cell BK_gq.out 0).trans rfl; have hc8_go_0 : w8.cell? ⟨go, 0, none⟩ = some (.int .i64 0) := (blk_cell BK_go.out 0).trans rfl; have fc8_go_0 := blk_frozen BK_go.out 0; have hc8_go_1 : w8.cell? ⟨go, 1, none⟩ = some (.string (⟨#[]⟩ : ByteArray)) := (blk_cell BK_go.out 1).trans rfl; have fc8_go_1 := blk_frozen BK_go.out 1; have hc8_go_2 : w8.cell? ⟨go, 2, none⟩ = some (.int .i64 0) := (blk_cell BK_go.out 2).trans rfl; have fc8_go_2 := blk_frozen BK_go.out 2; have hc8_go_3 : w8.cell? ⟨go, 3, none⟩ = some (.slice none 0 0) := (blk_cell BK_go.out 3).trans rfl; have fc8_go_3 := blk_frozen BK_go.out 3; clear hg hbox hb)
  | ((with_reducible refine gate_store (t := 29) (p := 5) rfl ?_); refine store_event (t := 29) (p := 5) (v := ?vo9) (w1 := ((((w8.setCell ⟨go, 0, none⟩ (.int .i64 o.f0)).setCell ⟨go, 1, none⟩ (.string o.f1)).setCell ⟨go, 2, none⟩ (.int .i64 o.f2)).setCell ⟨go, 3, none⟩ (.slice A_o o.f3.length c_o))) ?hgs9 ?hos9 ?hns9 ?hrs9 ?_; (case hos9 => rfl); (case hgs9 => rfl); (case hns9 => rfl); (case hrs9 => first | (go_simp; done) | (go_simp; rfl)); intro w9 hw; have nB_ := Aside0.mk (show Below w.heap.size w w9 from hw ▸ (below_set (below_set (below_set (below_set HB.out HGE_go.out) HGE_go.out) HGE_go.out) HGE_go.out)); have nK_go := Aside0.mk (show w9.heap[go]? = some (.cells #[.int .i64 o.f0, .string o.f1, .int .i64 o.f2, .slice A_o o.f3.length c_o] 29 (0, 0)) from by rw [hw]; refine blk_put (cs := #[.int .i64 o.f0, .string o.f1, .int .i64 o.f2, .slice none 0 0]) ?_ 3 _ rfl; refine blk_put (cs := #[.int .i64 o.f0, .string o.f1, .int .i64 0, .slice none 0 0]) ?_ 2 _ rfl; refine blk_put (cs := #[.int .i64 o.f0, .string (⟨#[]⟩ : ByteArray), .int .i64 0, .slice none 0 0]) ?_ 1 _ rfl; refine blk_put (cs := #[.int .i64 0, .string (⟨#[]⟩ : ByteArray), .int .i64 0, .slice none 0 0]) ?_ 0 _ rfl; exact BK_go.out); have nK_ga := Aside0.mk (show w9.heap[ga]? = some (.cells #[.int .i64 t.f0, .string t.f1, .int .i64 t.f2, .slice A t.f3.length c] 29 (0, 0)) from by rw [hw]; exact (blk_far (blk_far (blk_far (blk_far BK_ga.out HN_ga_go.out _) HN_ga_go.out _) HN_ga_go.out _) HN_ga_go.out _)); have nK_gq := Aside0.mk (show w9.heap[gq]? = some (.cells #[.int .i64 by_] 3 (0, 0)) from by rw [hw]; exact (blk_far (blk_far (blk_far (blk_far BK_gq.out HN_gq_go.out _) HN_gq_go.out _) HN_gq_go.out _) HN_gq_go.out _)); have nK_gr := Aside0.mk (show w9.heap[gr]? = some (.cells #[.int .i64 0, .string (⟨#[]⟩ : ByteArray), .int .i64 0, .slice none 0 0] 29 (0, 0)) from by rw [hw]; exact (blk_far (blk_far (blk_far (blk_far BK_gr.out HN_gr_go.out _) HN_gr_go.out _) HN_gr_go.out _) HN_gr_go.out _)); have nS_o := Aside0.mk (show Kd.S kD29 29 w9 w.heap.size (fun k_ => (k_ ≠ ga ∧ k_ ≠ gq ∧ k_ ≠ gr) ∧ k_ ≠ go) (.slice A_o o.f3.length c_o) o.f3 from by rw [hw]; exact (Kd.S_far (p := ⟨go, 3, none⟩) (Kd.S_far (p := ⟨go, 2, none⟩) (Kd.S_far (p := ⟨go, 1, none⟩) (Kd.S_far (p := ⟨go, 0, none⟩) HS_o.out (fun k_ hk_ => by first | exact hk_.2 | exact hk_.1.2 | exact hk_.1.1.2 | exact hk_.1.1.1.2 | (intro e_; subst e_; simp_all; done)) _) (fun k_ hk_ => by first | exact hk_.2 | exact hk_.1.2 | exact hk_.1.1.2 | exact hk_.1.1.1.2 | (intro e_; subst e_; simp_all; done)) _) (fun k_ hk_ => by first | exact hk_.2 | exact hk_.1.2 | exact hk_.1.1.2 | exact hk_.1.1.1.2 | (intro e_; subst e_; simp_all; done)) _) (fun k_ hk_ => by first | exact hk_.2 | exact hk_.1.2 | exact hk_.1.1.2 | exact hk_.1.1.1.2 | (intro e_; subst e_; simp_all; done)) _)); have nL_ := Aside0.mk (show w9.heap.size = w8.heap.size by rw [hw]; simp [World.setCell]); clear hw; have q_ := Aside0.mk (show ga < w9.heap.size by have h1_ := HLT_ga.out; have h2_ := nL_.out; omega); clear HLT_ga; have HLT_ga := q_; clear q_; have q_ := Aside0.mk (show gq < w9.heap.size by have h1_ := HLT_gq.out; have h2_ := nL_.out; omega); clear HLT_gq; have HLT_gq := q_; clear q_; have q_ := Aside0.mk (show gr < w9.heap.size by have h1_ := HLT_gr.out; have h2_ := nL_.out; omega); clear HLT_gr; have HLT_gr := q_; clear q_; have q_ := Aside0.mk (show go < w9.heap.size by have h1_ := HLT_go.out; have h2_ := nL_.out; omega); clear HLT_go; have HLT_go := q_; clear q_; clear HB BK_ga BK_gq BK_gr BK_go HS_o; have HB := nB_; have BK_ga := nK_ga; have BK_gq := nK_gq; have BK_gr := nK_gr; have BK_go := nK_go; have HS_o := nS_o; clear nL_ nB_ nK_ga nK_gq nK_gr nK_go nS_o; clear hc8_ga_0 hc8_ga_1 hc8_ga_2 hc8_ga_3 hc8_gq_0 hc8_go_0 fc8_go_0 hc8_go_1 fc8_go_1 hc8_go_2 fc8_go_2 hc8_go_3 fc8_go_3; have hc9_go_0 : w9.cell? ⟨go, 0, none⟩ = some (.int .i64 o.f0) := (blk_cell BK_go.out 0).trans rfl; have hc9_go_1 : w9.cell? ⟨go, 1, none⟩ = some (.string o.f1) := (blk_cell BK_go.out 1).trans rfl; have hc9_go_2 : w9.cell? ⟨go, 2, none⟩ = some (.int .i64 o.f2) := (blk_cell BK_go.out 2).trans rfl; have hc9_go_3 : w9.cell? ⟨go, 3, none⟩ = some (.slice A_o o.f3.length c_o) := (blk_cell BK_go.out 3).trans rfl)
  | (go_at_call 32; refine (impl_TermOk.calls kT2 o.f0 o.f1 o.f2 A_o c_o o.f3 true _ (readS HS_o.out).2 (readS HS_o.out).1 HT2.out).mono ?_; rintro e w10 ⟨rfl, hb⟩; have q_ := Aside0.mk (blk_below BK_ga.out hb); clear BK_ga; have BK_ga := q_; clear q_; have q_ := Aside0.mk (Nat.lt_of_lt_of_le HLT_ga.out hb.size); clear HLT_ga; have HLT_ga := q_; clear q_; have q_ := Aside0.mk (blk_below BK_gq.out hb); clear BK_gq; have BK_gq := q_; clear q_; have q_ := Aside0.mk (Nat.lt_of_lt_of_le HLT_gq.out hb.size); clear HLT_gq; have HLT_gq := q_; clear q_; have q_ := Aside0.mk (blk_below BK_gr.out hb); clear BK_gr; have BK_gr := q_; clear q_; have q_ := Aside0.mk (Nat.lt_of_lt_of_le HLT_gr.out hb.size); clear HLT_gr; have HLT_gr := q_; clear q_; have q_ := Aside0.mk (blk_below BK_go.out hb); clear BK_go; have BK_go := q_; clear q_; have q_ := Aside0.mk (Nat.lt_of_lt_of_le HLT_go.out hb.size); clear HLT_go; have HLT_go := q_; clear q_; have q_ := Aside0.mk (Kd.S_below HS_o.out hb); clear HS_o; have HS_o := q_; clear q_; have q_ := Aside0.mk (below_step HB.out hb); clear HB; have HB := q_; clear q_; clear hc9_go_0 hc9_go_1 hc9_go_2 hc9_go_3; have hc10_ga_0 : w10.cell? ⟨ga, 0, none⟩ = some (.int .i64 t.f0) := (blk_cell BK_ga.out 0).trans rfl; have hc10_ga_1 : w10.cell? ⟨ga, 1, none⟩ = some (.string t.f1) := (blk_cell BK_ga.out 1).trans rfl; have hc10_ga_2 : w10.cell? ⟨ga, 2, none⟩ = some (.int .i64 t.f2) := (blk_cell BK_ga.out 2).trans rfl; have hc10_ga_3 : w10.cell? ⟨ga, 3, none⟩ = some (.slice A t.f3.length c) := (blk_cell BK_ga.out 3).trans rfl; have hc10_gr_0 : w10.cell? ⟨gr, 0, none⟩ = some (.int .i64 0) := (blk_cell BK_gr.out 0).trans rfl; have fc10_gr_0 := blk_frozen BK_gr.out 0; have hc10_gr_1 : w10.cell? ⟨gr, 1, none⟩ = some (.string (⟨#[]⟩ : ByteArray)) := (blk_cell BK_gr.out 1).trans rfl; have fc10_gr_1 := blk_frozen BK_gr.out 1; have hc10_gr_2 : w10.cell? ⟨gr, 2, none⟩ = some (.int .i64 0) := (blk_cell BK_gr.out 2).trans rfl; have fc10_gr_2 := blk_frozen BK_gr.out 2; have hc10_gr_3 : w10.cell? ⟨gr, 3, none⟩ = some (.slice none 0 0) := (blk_cell BK_gr.out 3).trans rfl; have fc10_gr_3 := blk_frozen BK_gr.out 3; have hc10_go_0 : w10.cell? ⟨go, 0, none⟩ = some (.int .i64 o.f0) := (blk_cell BK_go.out 0).trans rfl; have hc10_go_1 : w10.cell? ⟨go, 1, none⟩ = some (.string o.f1) := (blk_cell BK_go.out 1).trans rfl; have hc10_go_2 : w10.cell? ⟨go, 2, none⟩ = some (.int .i64 o.f2) := (blk_cell BK_go.out 2).trans rfl; have hc10_go_3 : w10.cell? ⟨go, 3, none⟩ = some (.slice A_o o.f3.length c_o) := (blk_cell BK_go.out 3).trans rfl; clear hb))
 refine bodyPost_ret (results_cell_row rfl _ _ gr 29 #[.int .i64 o.f0,.string o.f1,.int .i64 o.f2,.slice A_o o.f3.length c_o] (0,0) _ rfl (by refine blk_put (cs:=#[.int .i64 o.f0,.string o.f1,.int .i64 o.f2,.slice none 0 0]) ?_ 3 _ rfl;refine blk_put (cs:=#[.int .i64 o.f0,.string o.f1,.int .i64 0,.slice none 0 0]) ?_ 2 _ rfl;refine blk_put (cs:=#[.int .i64 o.f0,.string (⟨#[]⟩ : ByteArray),.int .i64 0,.slice none 0 0]) ?_ 1 _ rfl;refine blk_put (cs:=#[.int .i64 0,.string (⟨#[]⟩ : ByteArray),.int .i64 0,.slice none 0 0]) ?_ 0 _ rfl;exact BK_gr.out) Try.underlying29 rfl (by kernel_rfl)) rfl ?_
 refine ⟨_,rfl,?_,(below_set (below_set (below_set (below_set HB.out HGE_gr.out) HGE_gr.out) HGE_gr.out) HGE_gr.out)⟩
 exact Kd.S_mono (Kd.S_far (p:=⟨gr,3,none⟩) (Kd.S_far (p:=⟨gr,2,none⟩) (Kd.S_far (p:=⟨gr,1,none⟩) (Kd.S_far (p:=⟨gr,0,none⟩) HS_o.out (fun k_ hk_ => by first|exact hk_.2.2|exact hk_.2.2.1|exact hk_.1.2.2) _) (fun k_ hk_ => by first|exact hk_.2.2|exact hk_.2.2.1|exact hk_.1.2.2) _) (fun k_ hk_ => by first|exact hk_.2.2|exact hk_.2.2.1|exact hk_.1.2.2) _) (fun k_ hk_ => by first|exact hk_.2.2|exact hk_.2.2.1|exact hk_.1.2.2) _) (fun _ _ => trivial)
end
section
set_option linter.unusedSectionVars false
variable [fk_laws_szTerm] [fk_laws_toTerm] [fk_laws_eqTerm] [fk_spec_l34Term] [fk_impl_copyTerm_1]
def lw13_10_T : Bool × List (List Nat × List Nat):=(true,[([],[]),([],[]),([1],[1]),([0,2,2],[0,2]),([3],[3])])
def lw13_10_B : List Nat:=[0,0,2,7,15]
theorem lw13_10_tab : rtab .any (opsOf Try.f13 10) = lw13_10_T:=by kernel_rfl
theorem lw13_10_bits : waitsOk lw13_10_T.2 lw13_10_B = true:=by kernel_rfl

set_option maxHeartbeats 32000000 in
set_option maxRecDepth 100000 in
theorem sh_walk (t : S24) (by_ : Int) (A_T : Option Addr) (c_T : Nat) (left1 m m2 r0 r2 : Int) (r1 : ByteArray) (xs ys xt yt : List S29) (w : World)
  (hm : 0 ≤ m)
  (hm2 : 0 ≤ m2)
  (hl1 : 0 ≤ left1)
  (hlT : t.f3.length ≤ c_T)
  (hCT : Kd.C k24 w A_T t.f3.length t.f3)
  (c15 : ∀ W A c,t.f3.length ≤ c → Kd.C k24 W A t.f3.length t.f3 → Calls Try.prog 15 #[.agg #[.int .i64 t.f0,.string t.f1,.int .i64 t.f2,.slice A t.f3.length c],.int .i64 1048576] W fun e W' => e = .returned (.int .i64 left1) ∧ Below W.heap.size W W')
  (c17 : ∀ W A c,t.f3.length ≤ c → Kd.C k24 W A t.f3.length t.f3 → Calls Try.prog 17 #[.agg #[.int .i64 t.f0,.string t.f1,.int .i64 t.f2,.slice A t.f3.length c]] W fun e W' => ∃ v,e = .returned (.agg #[.int .i64 t.f0,.string t.f1,.int .i64 t.f2,v]) ∧ Kd.S kD29 29 W' W.heap.size (fun _ => True) v xt ∧ Below W.heap.size W W')
  (c52 : ∀ W A c,xt.length ≤ c → Kd.C k29 W A xt.length xt → Calls Try.prog 52 #[.agg #[.int .i64 t.f0,.string t.f1,.int .i64 t.f2,.slice A xt.length c],.int .i64 by_] W fun e W' => ∃ v,e = .returned (.agg #[.int .i64 r0,.string r1,.int .i64 r2,v]) ∧ Kd.V k29 29 W' 0 (fun k_ => W.heap.size ≤ k_) v xs ∧ Below W.heap.size W W')
  (c53 : ∀ W A c,xt.length ≤ c → Kd.C k29 W A xt.length xt → Calls Try.prog 53 #[.agg #[.int .i64 t.f0,.string t.f1,.int .i64 t.f2,.slice A xt.length c],.int .i64 by_] W fun e W' => ∃ v,e = .returned (.agg #[.int .i64 r0,.string r1,.int .i64 r2,v]) ∧ Kd.S kD29 29 W' W.heap.size (fun _ => True) v xs ∧ Below W.heap.size W W')
  (c19 : ∀ W A c B d,xs.length ≤ c → Kd.C k29 W A xs.length xs → xs.length ≤ d → Kd.C k29 W B xs.length xs → Calls Try.prog 19 #[.agg #[.int .i64 r0,.string r1,.int .i64 r2,.slice A xs.length c],.agg #[.int .i64 r0,.string r1,.int .i64 r2,.slice B xs.length d]] W fun e W' => e = .returned (.bool true) ∧ Below W.heap.size W W')
  (d19 : ∀ W A c B d,xt.length ≤ c → Kd.C k29 W A xt.length xt → xt.length ≤ d → Kd.C k29 W B xt.length xt → Calls Try.prog 19 #[.agg #[.int .i64 t.f0,.string t.f1,.int .i64 t.f2,.slice A xt.length c],.agg #[.int .i64 t.f0,.string t.f1,.int .i64 t.f2,.slice B xt.length d]] W fun e W' => e = .returned (.bool true) ∧ Below W.heap.size W W')
  (d29 : ∀ W base ok A c,base ≤ W.heap.size → Kd.S kD29 29 W base ok (.slice A xt.length c) xt → Calls Try.prog 29 #[.agg #[.int .i64 t.f0,.string t.f1,.int .i64 t.f2,.slice A xt.length c],.int .i64 1] W fun e W' => e = .returned (.int .i64 m2) ∧ Kd.S kD29 29 W' base ok (.slice A xt.length c) yt ∧ Below base W W' ∧ Kept W W' ok)
  (c29 : ∀ W base ok A c,base ≤ W.heap.size → Kd.S kD29 29 W base ok (.slice A xs.length c) xs → Calls Try.prog 29 #[.agg #[.int .i64 r0,.string r1,.int .i64 r2,.slice A xs.length c],.int .i64 1] W fun e W' => e = .returned (.int .i64 m) ∧ Kd.S kD29 29 W' base ok (.slice A xs.length c) ys ∧ Below base W W' ∧ Kept W W' ok)
  (c30 : ∀ W A c,xs.length ≤ c → Kd.C k29 W A xs.length ys → Calls Try.prog 30 #[.agg #[.int .i64 r0,.string r1,.int .i64 r2,.slice A xs.length c],.int .i64 1] W fun e W' => e = .returned (.int .i64 m) ∧ Below W.heap.size W W') :
  Calls Try.prog 13 #[.agg #[.int .i64 t.f0,.string t.f1,.int .i64 t.f2,.slice A_T t.f3.length c_T],.int .i64 by_] w fun e w' => e = .returned (.bool true) ∧ Below w.heap.size w w':=by
 have HL_T:=Aside0.mk hlT
 have HC_T:=Aside0.mk hCT
 clear hlT hCT
 have cm0 : decide (m < 0) = false:=decide_eq_false (by omega)
 have cm1 : (m != m) = false:=by simp
 have cm2 : decide (m2 < 0) = false:=decide_eq_false (by omega)
 have cl1 : decide (left1 < 0) = false:=decide_eq_false (by omega)
 clear hm hm2 hl1
 have HB:=Aside0.mk (Below.refl w.heap.size w)
 go_enter Try.func13,Try.ntmps13
 go_wp2_with (first
  | ((with_reducible refine gate_dst (N := 2) rfl ?_); refine box_event ?hg2 (N := 2) ?hd2 (cs := #[.int .i64 t.f0, .string t.f1, .int .i64 t.f2, .slice A_T t.f3.length c_T]) (t := 24) ?hr2 ?_; (case hd2 => rfl); (case hg2 => rfl); (case hr2 => first | (go_simp; done) | (go_simp; rfl)); intro g_b2 hg w1 hbox hb; have HG_b2 := Aside0.mk hg; have HL_b2 := Aside0.mk (blk_lt hbox); have CH0 := Aside0.mk hb.size; have n0_ := Aside0.mk (below_step HB.out hb); clear HB; have HB := n0_; clear n0_; have BK_b2 := Aside0.mk hbox; clear hg hbox hb; have hc_b2_0 : w1.cell? ⟨g_b2, 0, none⟩ = some (.int .i64 t.f0) := (blk_cell BK_b2.out 0).trans rfl; have hc_b2_1 : w1.cell? ⟨g_b2, 1, none⟩ = some (.string t.f1) := (blk_cell BK_b2.out 1).trans rfl; have hc_b2_2 : w1.cell? ⟨g_b2, 2, none⟩ = some (.int .i64 t.f2) := (blk_cell BK_b2.out 2).trans rfl; have hc_b2_3 : w1.cell? ⟨g_b2, 3, none⟩ = some (.slice A_T t.f3.length c_T) := (blk_cell BK_b2.out 3).trans rfl)
  | ((with_reducible refine gate_callee (f := 15) rfl ?_); refine goesL_ (some 15) rfl rfl Try.func15 (by kernel_rfl) rfl #[.agg #[.int .i64 t.f0, .string t.f1, .int .i64 t.f2, .slice A_T t.f3.length c_T], .int .i64 1048576] rfl (by (try simp only [List.map_toArray, List.map_cons, List.map_nil]); first | done | rfl) ?_; refine (c15 _ _ _ HL_T.out (Kd.C_below HC_T.out HB.out)).mono ?_; rintro e w2 ⟨rfl, hb⟩; refine ⟨_, rfl, ?_⟩; have CH1 := Aside0.mk hb.size; have n0_ := Aside0.mk (below_step HB.out hb); have n1_ := Aside0.mk (blk_below BK_b2.out hb); clear HB BK_b2; have HB := n0_; have BK_b2 := n1_; clear n0_ n1_; clear hb; clear hc_b2_0 hc_b2_1 hc_b2_2 hc_b2_3; have hc_b2_0 : w2.cell? ⟨g_b2, 0, none⟩ = some (.int .i64 t.f0) := (blk_cell BK_b2.out 0).trans rfl; have hc_b2_1 : w2.cell? ⟨g_b2, 1, none⟩ = some (.string t.f1) := (blk_cell BK_b2.out 1).trans rfl; have hc_b2_2 : w2.cell? ⟨g_b2, 2, none⟩ = some (.int .i64 t.f2) := (blk_cell BK_b2.out 2).trans rfl; have hc_b2_3 : w2.cell? ⟨g_b2, 3, none⟩ = some (.slice A_T t.f3.length c_T) := (blk_cell BK_b2.out 3).trans rfl)
  | ((with_reducible refine gate_callee (f := 17) rfl ?_); refine goesL_ (some 19) rfl rfl Try.func17 (by kernel_rfl) rfl #[.agg #[.int .i64 t.f0, .string t.f1, .int .i64 t.f2, .slice A_T t.f3.length c_T]] rfl (by (try simp only [List.map_toArray, List.map_cons, List.map_nil]); first | done | rfl) ?_; refine (c17 _ _ _ HL_T.out (Kd.C_below HC_T.out HB.out)).mono ?_; rintro e w3 ⟨v_f0, rfl, ho_f0, hb⟩; refine ⟨_, rfl, ?_⟩; have CH2 := Aside0.mk hb.size; have HW_f0 := Aside0.mk HB.out.size; have n0_ := Aside0.mk (below_step HB.out hb); have n1_ := Aside0.mk (blk_below BK_b2.out hb); clear HB BK_b2; have HB := n0_; have BK_b2 := n1_; clear n0_ n1_; obtain ⟨A_f0, c_f0, rfl⟩ := Kd.S_slice ho_f0; have RW_f0 := Aside0.mk (Kd.S_mono (ok' := fun k_ => w2.heap.size ≤ k_ ∧ k_ < w3.heap.size) (Kd.S_bound ho_f0) (fun k_ hk_ => ⟨hk_.2.1, hk_.2.2.1⟩)); clear hb ho_f0; clear hc_b2_0 hc_b2_1 hc_b2_2 hc_b2_3)
  | ((with_reducible refine gate_callee (f := 52) rfl ?_); refine goesL_ (some 21) rfl rfl Try.func52 (by kernel_rfl) rfl #[.agg #[.int .i64 t.f0, .string t.f1, .int .i64 t.f2, .slice A_f0 xt.length c_f0], .int .i64 by_] rfl (by (try simp only [List.map_toArray, List.map_cons, List.map_nil]); first | done | rfl) ?_; refine (c52 _ _ _ (readS RW_f0.out).1 (readS RW_f0.out).2).mono ?_; rintro e w4 ⟨v_w0, rfl, ho_w0, hb⟩; refine ⟨_, rfl, ?_⟩; have CH3 := Aside0.mk hb.size; have HW_w0 := Aside0.mk HB.out.size; have n0_ := Aside0.mk (below_step HB.out hb); have n1_ := Aside0.mk (blk_below BK_b2.out hb); have n2_ := Aside0.mk (Kd.S_below RW_f0.out hb); clear HB BK_b2 RW_f0; have HB := n0_; have BK_b2 := n1_; have RW_f0 := n2_; clear n0_ n1_ n2_; obtain ⟨A_w0, c_w0, rfl⟩ := Kd.V_slice ho_w0; have RW_w0 := Aside0.mk (Kd.V_mono (ok' := fun k_ => w3.heap.size ≤ k_ ∧ k_ < w4.heap.size) (Kd.V_bound ho_w0) (fun k_ hk_ => hk_)); clear hb ho_w0; clear RW_f0)
  | ((with_reducible refine gate_dst (N := 6) rfl ?_); refine box_event ?hg6 (N := 6) ?hd6 (cs := #[.int .i64 0, .string (⟨#[]⟩ : ByteArray), .int .i64 0, .slice none 0 0]) (t := 29) ?hr6 ?_; (case hd6 => rfl); (case hg6 => rfl); (case hr6 => first | (go_simp; done) | (go_simp; rfl)); intro g_b6 hg z_b6 hbox hb; have HG_b6 := Aside0.mk hg; have BB_b6 := Aside0.mk hbox; have HBB_b6 := Aside0.mk hb; have hz_b6_0 : z_b6.cell? ⟨g_b6, 0, none⟩ = some (.int .i64 0) := (blk_cell BB_b6.out 0).trans rfl; have hf_b6_0 := blk_frozen BB_b6.out 0; have hz_b6_1 : z_b6.cell? ⟨g_b6, 1, none⟩ = some (.string (⟨#[]⟩ : ByteArray)) := (blk_cell BB_b6.out 1).trans rfl; have hf_b6_1 := blk_frozen BB_b6.out 1; have hz_b6_2 : z_b6.cell? ⟨g_b6, 2, none⟩ = some (.int .i64 0) := (blk_cell BB_b6.out 2).trans rfl; have hf_b6_2 := blk_frozen BB_b6.out 2; have hz_b6_3 : z_b6.cell? ⟨g_b6, 3, none⟩ = some (.slice none 0 0) := (blk_cell BB_b6.out 3).trans rfl; have hf_b6_3 := blk_frozen BB_b6.out 3; clear hg hbox hb)
  | ((with_reducible refine gate_store (t := 29) (p := 6) rfl ?_); refine store_event (t := 29) (p := 6) (v := ?vo6) (w1 := ((((z_b6.setCell ⟨g_b6, 0, none⟩ (.int .i64 r0)).setCell ⟨g_b6, 1, none⟩ (.string r1)).setCell ⟨g_b6, 2, none⟩ (.int .i64 r2)).setCell ⟨g_b6, 3, none⟩ (.slice A_w0 xs.length c_w0))) ?hgs6 ?hos6 ?hns6 ?hrs6 ?_; (case hos6 => rfl); (case hgs6 => rfl); (case hns6 => rfl); (case hrs6 => first | (go_simp; done) | (go_simp; rfl)); intro w5 hw; have hb : Below w4.heap.size w4 w5 := (by rw [hw]; exact (below_set (below_set (below_set (below_set HBB_b6.out (by have := HG_b6.out; omega)) (by have := HG_b6.out; omega)) (by have := HG_b6.out; omega)) (by have := HG_b6.out; omega))); have CH4 := Aside0.mk hb.size; have n0_ := Aside0.mk (below_step HB.out hb); have n1_ := Aside0.mk (blk_below BK_b2.out hb); have n2_ := Aside0.mk (Kd.V_below RW_w0.out hb); clear HB BK_b2 RW_w0; have HB := n0_; have BK_b2 := n1_; have RW_w0 := n2_; clear n0_ n1_ n2_; have BK_b6 : Aside0 (w5.heap[g_b6]? = some (.cells #[.int .i64 r0, .string r1, .int .i64 r2, .slice A_w0 xs.length c_w0] 29 (0, 0))) := ⟨by rw [hw]; refine blk_put (cs := #[.int .i64 r0, .string r1, .int .i64 r2, .slice none 0 0]) ?_ 3 _ rfl; refine blk_put (cs := #[.int .i64 r0, .string r1, .int .i64 0, .slice none 0 0]) ?_ 2 _ rfl; refine blk_put (cs := #[.int .i64 r0, .string (⟨#[]⟩ : ByteArray), .int .i64 0, .slice none 0 0]) ?_ 1 _ rfl; refine blk_put (cs := #[.int .i64 0, .string (⟨#[]⟩ : ByteArray), .int .i64 0, .slice none 0 0]) ?_ 0 _ rfl; exact BB_b6.out⟩; have HL_b6 := Aside0.mk (show g_b6 < w5.heap.size from blk_lt BK_b6.out); clear hb hw hz_b6_0 hf_b6_0 hz_b6_1 hf_b6_1 hz_b6_2 hf_b6_2 hz_b6_3 hf_b6_3; have hc_b2_0 : w5.cell? ⟨g_b2, 0, none⟩ = some (.int .i64 t.f0) := (blk_cell BK_b2.out 0).trans rfl; have hc_b2_1 : w5.cell? ⟨g_b2, 1, none⟩ = some (.string t.f1) := (blk_cell BK_b2.out 1).trans rfl; have hc_b2_2 : w5.cell? ⟨g_b2, 2, none⟩ = some (.int .i64 t.f2) := (blk_cell BK_b2.out 2).trans rfl; have hc_b2_3 : w5.cell? ⟨g_b2, 3, none⟩ = some (.slice A_T t.f3.length c_T) := (blk_cell BK_b2.out 3).trans rfl)
  | ((with_reducible refine gate_callee (f := 17) rfl ?_); refine goesL_ (some 23) rfl rfl Try.func17 (by kernel_rfl) rfl #[.agg #[.int .i64 t.f0, .string t.f1, .int .i64 t.f2, .slice A_T t.f3.length c_T]] rfl (by (try simp only [List.map_toArray, List.map_cons, List.map_nil]); first | done | rfl) ?_; refine (c17 _ _ _ HL_T.out (Kd.C_below HC_T.out HB.out)).mono ?_; rintro e w6 ⟨v_x0, rfl, ho_x0, hb⟩; refine ⟨_, rfl, ?_⟩; have CH5 := Aside0.mk hb.size; have HW_x0 := Aside0.mk HB.out.size; have n0_ := Aside0.mk (below_step HB.out hb); have n1_ := Aside0.mk (blk_below BK_b2.out hb); have n2_ := Aside0.mk (blk_below BK_b6.out hb); have n3_ := Aside0.mk (Kd.V_below RW_w0.out hb); clear HB BK_b2 BK_b6 RW_w0; have HB := n0_; have BK_b2 := n1_; have BK_b6 := n2_; have RW_w0 := n3_; clear n0_ n1_ n2_ n3_; obtain ⟨A_x0, c_x0, rfl⟩ := Kd.S_slice ho_x0; have RW_x0 := Aside0.mk (Kd.S_mono (ok' := fun k_ => w5.heap.size ≤ k_ ∧ k_ < w6.heap.size) (Kd.S_bound ho_x0) (fun k_ hk_ => ⟨hk_.2.1, hk_.2.2.1⟩)); clear hb ho_x0; clear hc_b2_0 hc_b2_1 hc_b2_2 hc_b2_3)
  | ((with_reducible refine gate_dst (N := 7) rfl ?_); refine box_event ?hg7 (N := 7) ?hd7 (cs := #[.int .i64 0, .string (⟨#[]⟩ : ByteArray), .int .i64 0, .slice none 0 0]) (t := 29) ?hr7 ?_; (case hd7 => rfl); (case hg7 => rfl); (case hr7 => first | (go_simp; done) | (go_simp; rfl)); intro g_b7 hg z_b7 hbox hb; have HG_b7 := Aside0.mk hg; have BB_b7 := Aside0.mk hbox; have HBB_b7 := Aside0.mk hb; have hz_b7_0 : z_b7.cell? ⟨g_b7, 0, none⟩ = some (.int .i64 0) := (blk_cell BB_b7.out 0).trans rfl; have hf_b7_0 := blk_frozen BB_b7.out 0; have hz_b7_1 : z_b7.cell? ⟨g_b7, 1, none⟩ = some (.string (⟨#[]⟩ : ByteArray)) := (blk_cell BB_b7.out 1).trans rfl; have hf_b7_1 := blk_frozen BB_b7.out 1; have hz_b7_2 : z_b7.cell? ⟨g_b7, 2, none⟩ = some (.int .i64 0) := (blk_cell BB_b7.out 2).trans rfl; have hf_b7_2 := blk_frozen BB_b7.out 2; have hz_b7_3 : z_b7.cell? ⟨g_b7, 3, none⟩ = some (.slice none 0 0) := (blk_cell BB_b7.out 3).trans rfl; have hf_b7_3 := blk_frozen BB_b7.out 3; clear hg hbox hb)
  | ((with_reducible refine gate_store (t := 29) (p := 7) rfl ?_); refine store_event (t := 29) (p := 7) (v := ?vo7) (w1 := ((((z_b7.setCell ⟨g_b7, 0, none⟩ (.int .i64 t.f0)).setCell ⟨g_b7, 1, none⟩ (.string t.f1)).setCell ⟨g_b7, 2, none⟩ (.int .i64 t.f2)).setCell ⟨g_b7, 3, none⟩ (.slice A_x0 xt.length c_x0))) ?hgs7 ?hos7 ?hns7 ?hrs7 ?_; (case hos7 => rfl); (case hgs7 => rfl); (case hns7 => rfl); (case hrs7 => first | (go_simp; done) | (go_simp; rfl)); intro w7 hw; have hb : Below w6.heap.size w6 w7 := (by rw [hw]; exact (below_set (below_set (below_set (below_set HBB_b7.out (by have := HG_b7.out; omega)) (by have := HG_b7.out; omega)) (by have := HG_b7.out; omega)) (by have := HG_b7.out; omega))); have CH6 := Aside0.mk hb.size; have n0_ := Aside0.mk (below_step HB.out hb); have n1_ := Aside0.mk (blk_below BK_b2.out hb); have n2_ := Aside0.mk (blk_below BK_b6.out hb); have n3_ := Aside0.mk (Kd.V_below RW_w0.out hb); have n4_ := Aside0.mk (Kd.S_below RW_x0.out hb); clear HB BK_b2 BK_b6 RW_w0 RW_x0; have HB := n0_; have BK_b2 := n1_; have BK_b6 := n2_; have RW_w0 := n3_; have RW_x0 := n4_; clear n0_ n1_ n2_ n3_ n4_; have BK_b7 : Aside0 (w7.heap[g_b7]? = some (.cells #[.int .i64 t.f0, .string t.f1, .int .i64 t.f2, .slice A_x0 xt.length c_x0] 29 (0, 0))) := ⟨by rw [hw]; refine blk_put (cs := #[.int .i64 t.f0, .string t.f1, .int .i64 t.f2, .slice none 0 0]) ?_ 3 _ rfl; refine blk_put (cs := #[.int .i64 t.f0, .string t.f1, .int .i64 0, .slice none 0 0]) ?_ 2 _ rfl; refine blk_put (cs := #[.int .i64 t.f0, .string (⟨#[]⟩ : ByteArray), .int .i64 0, .slice none 0 0]) ?_ 1 _ rfl; refine blk_put (cs := #[.int .i64 0, .string (⟨#[]⟩ : ByteArray), .int .i64 0, .slice none 0 0]) ?_ 0 _ rfl; exact BB_b7.out⟩; have HL_b7 := Aside0.mk (show g_b7 < w7.heap.size from blk_lt BK_b7.out); clear hb hw hz_b7_0 hf_b7_0 hz_b7_1 hf_b7_1 hz_b7_2 hf_b7_2 hz_b7_3 hf_b7_3; have hc_b7_0 : w7.cell? ⟨g_b7, 0, none⟩ = some (.int .i64 t.f0) := (blk_cell BK_b7.out 0).trans rfl; have hc_b7_1 : w7.cell? ⟨g_b7, 1, none⟩ = some (.string t.f1) := (blk_cell BK_b7.out 1).trans rfl; have hc_b7_2 : w7.cell? ⟨g_b7, 2, none⟩ = some (.int .i64 t.f2) := (blk_cell BK_b7.out 2).trans rfl; have hc_b7_3 : w7.cell? ⟨g_b7, 3, none⟩ = some (.slice A_x0 xt.length c_x0) := (blk_cell BK_b7.out 3).trans rfl)
  | ((with_reducible refine gate_callee (f := 53) rfl ?_); refine goesL_ (some 26) rfl rfl Try.func53 (by kernel_rfl) rfl #[.agg #[.int .i64 t.f0, .string t.f1, .int .i64 t.f2, .slice A_x0 xt.length c_x0], .int .i64 by_] rfl (by (try simp only [List.map_toArray, List.map_cons, List.map_nil]); first | done | rfl) ?_; refine (c53 _ _ _ (readS RW_x0.out).1 (readS RW_x0.out).2).mono ?_; rintro e w8 ⟨v_g0, rfl, ho_g0, hb⟩; refine ⟨_, rfl, ?_⟩; have CH7 := Aside0.mk hb.size; have HW_g0 := Aside0.mk HB.out.size; have n0_ := Aside0.mk (below_step HB.out hb); have n1_ := Aside0.mk (blk_below BK_b2.out hb); have n2_ := Aside0.mk (blk_below BK_b6.out hb); have n3_ := Aside0.mk (blk_below BK_b7.out hb); have n4_ := Aside0.mk (Kd.V_below RW_w0.out hb); have n5_ := Aside0.mk (Kd.S_below RW_x0.out hb); clear HB BK_b2 BK_b6 BK_b7 RW_w0 RW_x0; have HB := n0_; have BK_b2 := n1_; have BK_b6 := n2_; have BK_b7 := n3_; have RW_w0 := n4_; have RW_x0 := n5_; clear n0_ n1_ n2_ n3_ n4_ n5_; obtain ⟨A_g0, c_g0, rfl⟩ := Kd.S_slice ho_g0; have RW_g0 := Aside0.mk (Kd.S_mono (ok' := fun k_ => w7.heap.size ≤ k_ ∧ k_ < w8.heap.size) (Kd.S_bound ho_g0) (fun k_ hk_ => ⟨hk_.2.1, hk_.2.2.1⟩)); clear hb ho_g0; clear hc_b7_0 hc_b7_1 hc_b7_2 hc_b7_3)
  | ((with_reducible refine gate_dst (N := 8) rfl ?_); refine box_event ?hg8 (N := 8) ?hd8 (cs := #[.int .i64 0, .string (⟨#[]⟩ : ByteArray), .int .i64 0, .slice none 0 0]) (t := 29) ?hr8 ?_; (case hd8 => rfl); (case hg8 => rfl); (case hr8 => first | (go_simp; done) | (go_simp; rfl)); intro g_b8 hg z_b8 hbox hb; have HG_b8 := Aside0.mk hg; have BB_b8 := Aside0.mk hbox; have HBB_b8 := Aside0.mk hb; have hz_b8_0 : z_b8.cell? ⟨g_b8, 0, none⟩ = some (.int .i64 0) := (blk_cell BB_b8.out 0).trans rfl; have hf_b8_0 := blk_frozen BB_b8.out 0; have hz_b8_1 : z_b8.cell? ⟨g_b8, 1, none⟩ = some (.string (⟨#[]⟩ : ByteArray)) := (blk_cell BB_b8.out 1).trans rfl; have hf_b8_1 := blk_frozen BB_b8.out 1; have hz_b8_2 : z_b8.cell? ⟨g_b8, 2, none⟩ = some (.int .i64 0) := (blk_cell BB_b8.out 2).trans rfl; have hf_b8_2 := blk_frozen BB_b8.out 2; have hz_b8_3 : z_b8.cell? ⟨g_b8, 3, none⟩ = some (.slice none 0 0) := (blk_cell BB_b8.out 3).trans rfl; have hf_b8_3 := blk_frozen BB_b8.out 3; clear hg hbox hb)
  | ((with_reducible refine gate_store (t := 29) (p := 8) rfl ?_); refine store_event (t := 29) (p := 8) (v := ?vo8) (w1 := ((((z_b8.setCell ⟨g_b8, 0, none⟩ (.int .i64 r0)).setCell ⟨g_b8, 1, none⟩ (.string r1)).setCell ⟨g_b8, 2, none⟩ (.int .i64 r2)).setCell ⟨g_b8, 3, none⟩ (.slice A_g0 xs.length c_g0))) ?hgs8 ?hos8 ?hns8 ?hrs8 ?_; (case hos8 => rfl); (case hgs8 => rfl); (case hns8 => rfl); (case hrs8 => first | (go_simp; done) | (go_simp; rfl)); intro w9 hw; have hb : Below w8.heap.size w8 w9 := (by rw [hw]; exact (below_set (below_set (below_set (below_set HBB_b8.out (by have := HG_b8.out; omega)) (by have := HG_b8.out; omega)) (by have := HG_b8.out; omega)) (by have := HG_b8.out; omega))); have CH8 := Aside0.mk hb.size; have n0_ := Aside0.mk (below_step HB.out hb); have n1_ := Aside0.mk (blk_below BK_b2.out hb); have n2_ := Aside0.mk (blk_below BK_b6.out hb); have n3_ := Aside0.mk (blk_below BK_b7.out hb); have n4_ := Aside0.mk (Kd.V_below RW_w0.out hb); have n5_ := Aside0.mk (Kd.S_below RW_x0.out hb); have n6_ := Aside0.mk (Kd.S_below RW_g0.out hb); clear HB BK_b2 BK_b6 BK_b7 RW_w0 RW_x0 RW_g0; have HB := n0_; have BK_b2 := n1_; have BK_b6 := n2_; have BK_b7 := n3_; have RW_w0 := n4_; have RW_x0 := n5_; have RW_g0 := n6_; clear n0_ n1_ n2_ n3_ n4_ n5_ n6_; have BK_b8 : Aside0 (w9.heap[g_b8]? = some (.cells #[.int .i64 r0, .string r1, .int .i64 r2, .slice A_g0 xs.length c_g0] 29 (0, 0))) := ⟨by rw [hw]; refine blk_put (cs := #[.int .i64 r0, .string r1, .int .i64 r2, .slice none 0 0]) ?_ 3 _ rfl; refine blk_put (cs := #[.int .i64 r0, .string r1, .int .i64 0, .slice none 0 0]) ?_ 2 _ rfl; refine blk_put (cs := #[.int .i64 r0, .string (⟨#[]⟩ : ByteArray), .int .i64 0, .slice none 0 0]) ?_ 1 _ rfl; refine blk_put (cs := #[.int .i64 0, .string (⟨#[]⟩ : ByteArray), .int .i64 0, .slice none 0 0]) ?_ 0 _ rfl; exact BB_b8.out⟩; have HL_b8 := Aside0.mk (show g_b8 < w9.heap.size from blk_lt BK_b8.out); clear hb hw hz_b8_0 hf_b8_0 hz_b8_1 hf_b8_1 hz_b8_2 hf_b8_2 hz_b8_3 hf_b8_3; have hc_b6_0 : w9.cell? ⟨g_b6, 0, none⟩ = some (.int .i64 r0) := (blk_cell BK_b6.out 0).trans rfl; have hc_b6_1 : w9.cell? ⟨g_b6, 1, none⟩ = some (.string r1) := (blk_cell BK_b6.out 1).trans rfl; have hc_b6_2 : w9.cell? ⟨g_b6, 2, none⟩ = some (.int .i64 r2) := (blk_cell BK_b6.out 2).trans rfl; have hc_b6_3 : w9.cell? ⟨g_b6, 3, none⟩ = some (.slice A_w0 xs.length c_w0) := (blk_cell BK_b6.out 3).trans rfl; have hc_b8_0 : w9.cell? ⟨g_b8, 0, none⟩ = some (.int .i64 r0) := (blk_cell BK_b8.out 0).trans rfl; have hc_b8_1 : w9.cell? ⟨g_b8, 1, none⟩ = some (.string r1) := (blk_cell BK_b8.out 1).trans rfl; have hc_b8_2 : w9.cell? ⟨g_b8, 2, none⟩ = some (.int .i64 r2) := (blk_cell BK_b8.out 2).trans rfl; have hc_b8_3 : w9.cell? ⟨g_b8, 3, none⟩ = some (.slice A_g0 xs.length c_g0) := (blk_cell BK_b8.out 3).trans rfl)
  | ((with_reducible refine gate_callee (f := 19) rfl ?_); refine goesL_ (some 29) rfl rfl Try.func19 (by kernel_rfl) rfl #[.agg #[.int .i64 r0, .string r1, .int .i64 r2, .slice A_g0 xs.length c_g0], .agg #[.int .i64 r0, .string r1, .int .i64 r2, .slice A_w0 xs.length c_w0]] rfl (by (try simp only [List.map_toArray, List.map_cons, List.map_nil]); first | done | rfl) ?_; refine (c19 _ _ _ _ _ (readS RW_g0.out).1 (readS RW_g0.out).2 (readV RW_w0.out).1 (readV RW_w0.out).2).mono ?_; rintro e w10 ⟨rfl, hb⟩; refine ⟨_, rfl, ?_⟩; have CH9 := Aside0.mk hb.size; have n0_ := Aside0.mk (below_step HB.out hb); have n1_ := Aside0.mk (blk_below BK_b2.out hb); have n2_ := Aside0.mk (blk_below BK_b6.out hb); have n3_ := Aside0.mk (blk_below BK_b7.out hb); have n4_ := Aside0.mk (blk_below BK_b8.out hb); have n5_ := Aside0.mk (Kd.V_below RW_w0.out hb); have n6_ := Aside0.mk (Kd.S_below RW_x0.out hb); have n7_ := Aside0.mk (Kd.S_below RW_g0.out hb); clear HB BK_b2 BK_b6 BK_b7 BK_b8 RW_w0 RW_x0 RW_g0; have HB := n0_; have BK_b2 := n1_; have BK_b6 := n2_; have BK_b7 := n3_; have BK_b8 := n4_; have RW_w0 := n5_; have RW_x0 := n6_; have RW_g0 := n7_; clear n0_ n1_ n2_ n3_ n4_ n5_ n6_ n7_; clear hb; clear hc_b6_0 hc_b6_1 hc_b6_2 hc_b6_3 hc_b8_0 hc_b8_1 hc_b8_2 hc_b8_3))
 have hb:=below_drew (Below.refl w10.heap.size w10)
 have CH10:=Aside0.mk (show w10.heap.size ≤ w10.drew.heap.size from hb.size)
 have n0_:=Aside0.mk (below_step HB.out hb)
 have n1_:=Aside0.mk (blk_below BK_b2.out hb)
 have n2_:=Aside0.mk (blk_below BK_b6.out hb)
 have n3_:=Aside0.mk (blk_below BK_b7.out hb)
 have n4_:=Aside0.mk (blk_below BK_b8.out hb)
 have n5_:=Aside0.mk (Kd.V_below RW_w0.out hb)
 have n6_:=Aside0.mk (Kd.S_below RW_x0.out hb)
 have n7_:=Aside0.mk (Kd.S_below RW_g0.out hb)
 clear HB BK_b2 BK_b6 BK_b7 BK_b8 RW_w0 RW_x0 RW_g0
 have HB:=n0_
 have BK_b2:=n1_
 have BK_b6:=n2_
 have BK_b7:=n3_
 have BK_b8:=n4_
 have RW_w0:=n5_
 have RW_x0:=n6_
 have RW_g0:=n7_
 clear n0_ n1_ n2_ n3_ n4_ n5_ n6_ n7_
 clear hb
 refine start_ (n:=5) (S:=fun w' => w'.cell? ⟨g_b7,0,none⟩ = some (.int .i64 t.f0) ∧ w'.cell? ⟨g_b7,1,none⟩ = some (.string t.f1) ∧ w'.cell? ⟨g_b7,2,none⟩ = some (.int .i64 t.f2) ∧ w'.cell? ⟨g_b7,3,none⟩ = some (.slice A_x0 xt.length c_x0) ∧ w'.cell? ⟨g_b2,0,none⟩ = some (.int .i64 t.f0) ∧ w'.cell? ⟨g_b2,1,none⟩ = some (.string t.f1) ∧ w'.cell? ⟨g_b2,2,none⟩ = some (.int .i64 t.f2) ∧ w'.cell? ⟨g_b2,3,none⟩ = some (.slice A_T t.f3.length c_T)) (ds:=[]) #[false,false,false,false,false] (by kernel_rfl) rfl rfl ⟨(blk_cell BK_b7.out 0).trans rfl,(blk_cell BK_b7.out 1).trans rfl,(blk_cell BK_b7.out 2).trans rfl,(blk_cell BK_b7.out 3).trans rfl,(blk_cell BK_b2.out 0).trans rfl,(blk_cell BK_b2.out 1).trans rfl,(blk_cell BK_b2.out 2).trans rfl,(blk_cell BK_b2.out 3).trans rfl⟩ (fun hHeld => ?_);refine with_tabW lw13_10_tab lw13_10_bits (fun HT_ HW_ => ?_)
 generalize w10.drew = w11 at HB BK_b2 BK_b6 BK_b7 BK_b8 RW_w0 RW_x0 RW_g0 CH10 hHeld ⊢
 refine take_ (i:=0) (N:=some 31) (v:=?_) (a':=?_) #[true,false,false,false,false] rfl rfl (take_ofW HT_.out HW_.out (by kernel_rfl)) (fun _ _ _ h => h) (Or.inl ⟨by rfl,?_⟩) hHeld ?_ ?_
 rotate_left
 ·rintro w' ⟨s0,s1,s2,s3,s4,s5,s6,s7⟩
  go_simp
  with_reducible rfl
 rotate_left
 ·simp only [Act.put,List.setIfInBounds_toArray,List.set_cons_zero,List.set_cons_succ,i64_w,i32_w]
  rfl
 refine take_ (i:=1) (N:=some 32) (v:=?_) (a':=?_) #[true,true,false,false,false] rfl rfl (take_ofW HT_.out HW_.out (by kernel_rfl)) (fun _ _ _ h => h) (Or.inl ⟨by rfl,?_⟩) hHeld ?_ ?_
 rotate_left
 ·rintro w' ⟨s0,s1,s2,s3,s4,s5,s6,s7⟩
  go_simp
  with_reducible rfl
 rotate_left
 ·simp only [Act.put,List.setIfInBounds_toArray,List.set_cons_zero,List.set_cons_succ,i64_w,i32_w]
  rfl
 refine one_ (i:=2) (N:=some 33) #[true,true,true,false,false] rfl rfl (one_of HT_.out (by kernel_rfl)) (by decide) (fun K hK => ?_)
 refine goes_ Try.func17 (by kernel_rfl) rfl #[.agg #[.int .i64 t.f0,.string t.f1,.int .i64 t.f2,.slice A_T t.f3.length c_T]] (by rfl) rfl rfl (by (try simp only [List.map_toArray,List.map_cons,List.map_nil]);first|done|rfl) ?_
 refine (c17 _ _ _ HL_T.out (Kd.C_below HC_T.out HB.out)).mono ?_
 rintro e w12 ⟨v_f1,rfl,ho_f1,hb⟩
 refine ⟨_,rfl,?_⟩
 have CH11:=Aside0.mk hb.size
 have HW_f1:=Aside0.mk HB.out.size
 have n0_:=Aside0.mk (below_step HB.out hb)
 have n1_:=Aside0.mk (blk_below BK_b2.out hb)
 have n2_:=Aside0.mk (blk_below BK_b6.out hb)
 have n3_:=Aside0.mk (blk_below BK_b7.out hb)
 have n4_:=Aside0.mk (blk_below BK_b8.out hb)
 have n5_:=Aside0.mk (Kd.V_below RW_w0.out hb)
 have n6_:=Aside0.mk (Kd.S_below RW_x0.out hb)
 have n7_:=Aside0.mk (Kd.S_below RW_g0.out hb)
 clear HB BK_b2 BK_b6 BK_b7 BK_b8 RW_w0 RW_x0 RW_g0
 have HB:=n0_
 have BK_b2:=n1_
 have BK_b6:=n2_
 have BK_b7:=n3_
 have BK_b8:=n4_
 have RW_w0:=n5_
 have RW_x0:=n6_
 have RW_g0:=n7_
 clear n0_ n1_ n2_ n3_ n4_ n5_ n6_ n7_
 obtain ⟨A_f1,c_f1,rfl⟩:=Kd.S_slice ho_f1
 have RW_f1:=Aside0.mk (Kd.S_mono (ok':=fun k_ => w11.heap.size ≤ k_ ∧ k_ < w12.heap.size) (Kd.S_bound ho_f1) (fun k_ hk_ => ⟨hk_.2.1,hk_.2.2.1⟩))
 clear hb ho_f1
 refine hK.out _ _ ⟨(blk_cell BK_b7.out 0).trans rfl,(blk_cell BK_b7.out 1).trans rfl,(blk_cell BK_b7.out 2).trans rfl,(blk_cell BK_b7.out 3).trans rfl,(blk_cell BK_b2.out 0).trans rfl,(blk_cell BK_b2.out 1).trans rfl,(blk_cell BK_b2.out 2).trans rfl,(blk_cell BK_b2.out 3).trans rfl⟩ (fun hHeld => ?_)
 clear hK K
 refine norm_ (a':=?_) ?_ ?_
 rotate_left
 ·show Act.put _ (some 33) _ = _
  simp only [Act.put,List.setIfInBounds_toArray,List.set_cons_zero,List.set_cons_succ,i64_w,i32_w]
  rfl
 refine one_ (i:=3) (N:=some 34) #[true,true,true,true,false] rfl rfl (one_of HT_.out (by kernel_rfl)) (by decide) (fun K hK => ?_)
 refine goes_ Try.func19 (by kernel_rfl) rfl #[.agg #[.int .i64 t.f0,.string t.f1,.int .i64 t.f2,.slice A_x0 xt.length c_x0],.agg #[.int .i64 t.f0,.string t.f1,.int .i64 t.f2,.slice A_f1 xt.length c_f1]] (by rfl) rfl rfl (by (try simp only [List.map_toArray,List.map_cons,List.map_nil]);first|done|rfl) ?_
 refine (d19 _ _ _ _ _ (readS RW_x0.out).1 (readS RW_x0.out).2 (readS RW_f1.out).1 (readS RW_f1.out).2).mono ?_
 rintro e w13 ⟨rfl,hb⟩
 refine ⟨_,rfl,?_⟩
 have CH12:=Aside0.mk hb.size
 have n0_:=Aside0.mk (below_step HB.out hb)
 have n1_:=Aside0.mk (blk_below BK_b2.out hb)
 have n2_:=Aside0.mk (blk_below BK_b6.out hb)
 have n3_:=Aside0.mk (blk_below BK_b7.out hb)
 have n4_:=Aside0.mk (blk_below BK_b8.out hb)
 have n5_:=Aside0.mk (Kd.V_below RW_w0.out hb)
 have n6_:=Aside0.mk (Kd.S_below RW_x0.out hb)
 have n7_:=Aside0.mk (Kd.S_below RW_g0.out hb)
 have n8_:=Aside0.mk (Kd.S_below RW_f1.out hb)
 clear HB BK_b2 BK_b6 BK_b7 BK_b8 RW_w0 RW_x0 RW_g0 RW_f1
 have HB:=n0_
 have BK_b2:=n1_
 have BK_b6:=n2_
 have BK_b7:=n3_
 have BK_b8:=n4_
 have RW_w0:=n5_
 have RW_x0:=n6_
 have RW_g0:=n7_
 have RW_f1:=n8_
 clear n0_ n1_ n2_ n3_ n4_ n5_ n6_ n7_ n8_
 clear hb
 clear RW_f1
 refine hK.out _ _ ⟨(blk_cell BK_b7.out 0).trans rfl,(blk_cell BK_b7.out 1).trans rfl,(blk_cell BK_b7.out 2).trans rfl,(blk_cell BK_b7.out 3).trans rfl,(blk_cell BK_b2.out 0).trans rfl,(blk_cell BK_b2.out 1).trans rfl,(blk_cell BK_b2.out 2).trans rfl,(blk_cell BK_b2.out 3).trans rfl⟩ (fun hHeld => ?_)
 clear hK K
 refine norm_ (a':=?_) ?_ ?_
 rotate_left
 ·show Act.put _ (some 34) _ = _
  simp only [Act.put,List.setIfInBounds_toArray,List.set_cons_zero,List.set_cons_succ,i64_w,i32_w]
  rfl
 refine pure_ (i:=4) (N:=some 35) (v:=?_) (a':=?_) #[true,true,true,true,true] rfl rfl (any_of HT_.out (by kernel_rfl)) (fun _ _ _ h => h) (Or.inl ⟨by rfl,?_⟩) ?_ ?_
 rotate_left
 ·intro w'
  go_simp
  with_reducible rfl
 rotate_left
 ·simp only [Act.put,List.setIfInBounds_toArray,List.set_cons_zero,List.set_cons_succ,i64_w,i32_w]
  rfl
 refine done_ (done_of HT_.out (by kernel_rfl)) ?_
 have hc_b7_0 : w13.cell? ⟨g_b7,0,none⟩ = some (.int .i64 t.f0):=(blk_cell BK_b7.out 0).trans rfl
 have hc_b7_1 : w13.cell? ⟨g_b7,1,none⟩ = some (.string t.f1):=(blk_cell BK_b7.out 1).trans rfl
 have hc_b7_2 : w13.cell? ⟨g_b7,2,none⟩ = some (.int .i64 t.f2):=(blk_cell BK_b7.out 2).trans rfl
 have hc_b7_3 : w13.cell? ⟨g_b7,3,none⟩ = some (.slice A_x0 xt.length c_x0):=(blk_cell BK_b7.out 3).trans rfl
 go_wp2_with (first
  | ((with_reducible refine gate_callee (f := 29) rfl ?_); refine goesL_ (some 38) rfl rfl Try.func29 (by kernel_rfl) rfl #[.agg #[.int .i64 t.f0, .string t.f1, .int .i64 t.f2, .slice A_x0 xt.length c_x0], .int .i64 1] rfl (by (try simp only [List.map_toArray, List.map_cons, List.map_nil]); first | done | rfl) ?_; refine (d29 _ w5.heap.size _ _ _ (by have := CH0.out; have := CH1.out; have := CH2.out; have := CH3.out; have := CH4.out; have := CH5.out; have := CH6.out; have := CH7.out; have := CH8.out; have := CH9.out; have := CH10.out; have := CH11.out; have := CH12.out; omega) RW_x0.out).mono ?_; rintro e w14 ⟨rfl, ho, hb, hk⟩; refine ⟨_, rfl, ?_⟩; have CH13 := Aside0.mk hk.1; have n0_ := Aside0.mk (below_weaken HB.out HW_x0.out hb); have n1_ := Aside0.mk (blk_kept BK_b2.out hk (by have := HG_b2.out; have := HL_b2.out; have := CH0.out; have := CH1.out; have := CH2.out; have := CH3.out; have := CH4.out; have := CH5.out; have := CH6.out; have := CH7.out; have := CH8.out; have := CH9.out; have := CH10.out; have := CH11.out; have := CH12.out; omega)); have n2_ := Aside0.mk (blk_kept BK_b6.out hk (by have := HG_b6.out; have := HL_b6.out; have := CH0.out; have := CH1.out; have := CH2.out; have := CH3.out; have := CH4.out; have := CH5.out; have := CH6.out; have := CH7.out; have := CH8.out; have := CH9.out; have := CH10.out; have := CH11.out; have := CH12.out; omega)); have n3_ := Aside0.mk (blk_kept BK_b7.out hk (by have := HG_b7.out; have := HL_b7.out; have := CH0.out; have := CH1.out; have := CH2.out; have := CH3.out; have := CH4.out; have := CH5.out; have := CH6.out; have := CH7.out; have := CH8.out; have := CH9.out; have := CH10.out; have := CH11.out; have := CH12.out; omega)); have n4_ := Aside0.mk (blk_kept BK_b8.out hk (by have := HG_b8.out; have := HL_b8.out; have := CH0.out; have := CH1.out; have := CH2.out; have := CH3.out; have := CH4.out; have := CH5.out; have := CH6.out; have := CH7.out; have := CH8.out; have := CH9.out; have := CH10.out; have := CH11.out; have := CH12.out; omega)); have n5_ := Aside0.mk (Kd.V_kept RW_w0.out hk (fun k_ hk1_ hk2_ => by have := CH0.out; have := CH1.out; have := CH2.out; have := CH3.out; have := CH4.out; have := CH5.out; have := CH6.out; have := CH7.out; have := CH8.out; have := CH9.out; have := CH10.out; have := CH11.out; have := CH12.out; omega)); have n6_ := Aside0.mk (Kd.S_kept RW_g0.out hk (fun k_ hk1_ hk2_ => by have := CH0.out; have := CH1.out; have := CH2.out; have := CH3.out; have := CH4.out; have := CH5.out; have := CH6.out; have := CH7.out; have := CH8.out; have := CH9.out; have := CH10.out; have := CH11.out; have := CH12.out; omega)); clear HB BK_b2 BK_b6 BK_b7 BK_b8 RW_w0 RW_g0; have HB := n0_; have BK_b2 := n1_; have BK_b6 := n2_; have BK_b7 := n3_; have BK_b8 := n4_; have RW_w0 := n5_; have RW_g0 := n6_; clear n0_ n1_ n2_ n3_ n4_ n5_ n6_; clear RW_x0; have RW_x0 := Aside0.mk ho; clear ho; clear hb hk; clear hc_b7_0 hc_b7_1 hc_b7_2 hc_b7_3; have hc_b6_0 : w14.cell? ⟨g_b6, 0, none⟩ = some (.int .i64 r0) := (blk_cell BK_b6.out 0).trans rfl; have hc_b6_1 : w14.cell? ⟨g_b6, 1, none⟩ = some (.string r1) := (blk_cell BK_b6.out 1).trans rfl; have hc_b6_2 : w14.cell? ⟨g_b6, 2, none⟩ = some (.int .i64 r2) := (blk_cell BK_b6.out 2).trans rfl; have hc_b6_3 : w14.cell? ⟨g_b6, 3, none⟩ = some (.slice A_w0 xs.length c_w0) := (blk_cell BK_b6.out 3).trans rfl; have hc_b8_0 : w14.cell? ⟨g_b8, 0, none⟩ = some (.int .i64 r0) := (blk_cell BK_b8.out 0).trans rfl; have hc_b8_1 : w14.cell? ⟨g_b8, 1, none⟩ = some (.string r1) := (blk_cell BK_b8.out 1).trans rfl; have hc_b8_2 : w14.cell? ⟨g_b8, 2, none⟩ = some (.int .i64 r2) := (blk_cell BK_b8.out 2).trans rfl; have hc_b8_3 : w14.cell? ⟨g_b8, 3, none⟩ = some (.slice A_g0 xs.length c_g0) := (blk_cell BK_b8.out 3).trans rfl)
  | (go_at_call 19; refine (c19 _ _ _ _ _ (readS RW_g0.out).1 (readS RW_g0.out).2 (readV RW_w0.out).1 (readV RW_w0.out).2).mono ?_; rintro e w15 ⟨rfl, hb⟩; have CH14 := Aside0.mk hb.size; have n0_ := Aside0.mk (below_step HB.out hb); have n1_ := Aside0.mk (blk_below BK_b2.out hb); have n2_ := Aside0.mk (blk_below BK_b6.out hb); have n3_ := Aside0.mk (blk_below BK_b7.out hb); have n4_ := Aside0.mk (blk_below BK_b8.out hb); have n5_ := Aside0.mk (Kd.V_below RW_w0.out hb); have n6_ := Aside0.mk (Kd.S_below RW_x0.out hb); have n7_ := Aside0.mk (Kd.S_below RW_g0.out hb); clear HB BK_b2 BK_b6 BK_b7 BK_b8 RW_w0 RW_x0 RW_g0; have HB := n0_; have BK_b2 := n1_; have BK_b6 := n2_; have BK_b7 := n3_; have BK_b8 := n4_; have RW_w0 := n5_; have RW_x0 := n6_; have RW_g0 := n7_; clear n0_ n1_ n2_ n3_ n4_ n5_ n6_ n7_; clear hb; clear hc_b6_0 hc_b6_1 hc_b6_2 hc_b6_3 hc_b8_0 hc_b8_1 hc_b8_2 hc_b8_3; have hc_b8_0 : w15.cell? ⟨g_b8, 0, none⟩ = some (.int .i64 r0) := (blk_cell BK_b8.out 0).trans rfl; have hc_b8_1 : w15.cell? ⟨g_b8, 1, none⟩ = some (.string r1) := (blk_cell BK_b8.out 1).trans rfl; have hc_b8_2 : w15.cell? ⟨g_b8, 2, none⟩ = some (.int .i64 r2) := (blk_cell BK_b8.out 2).trans rfl; have hc_b8_3 : w15.cell? ⟨g_b8, 3, none⟩ = some (.slice A_g0 xs.length c_g0) := (blk_cell BK_b8.out 3).trans rfl)
  | ((with_reducible refine gate_callee (f := 29) rfl ?_); refine goesL_ (some 49) rfl rfl Try.func29 (by kernel_rfl) rfl #[.agg #[.int .i64 r0, .string r1, .int .i64 r2, .slice A_g0 xs.length c_g0], .int .i64 1] rfl (by (try simp only [List.map_toArray, List.map_cons, List.map_nil]); first | done | rfl) ?_; refine (c29 _ w7.heap.size _ _ _ (by have := CH0.out; have := CH1.out; have := CH2.out; have := CH3.out; have := CH4.out; have := CH5.out; have := CH6.out; have := CH7.out; have := CH8.out; have := CH9.out; have := CH10.out; have := CH11.out; have := CH12.out; have := CH13.out; have := CH14.out; omega) RW_g0.out).mono ?_; rintro e w16 ⟨rfl, ho, hb, hk⟩; refine ⟨_, rfl, ?_⟩; have CH15 := Aside0.mk hk.1; have n0_ := Aside0.mk (below_weaken HB.out HW_g0.out hb); have n1_ := Aside0.mk (blk_kept BK_b2.out hk (by have := HG_b2.out; have := HL_b2.out; have := CH0.out; have := CH1.out; have := CH2.out; have := CH3.out; have := CH4.out; have := CH5.out; have := CH6.out; have := CH7.out; have := CH8.out; have := CH9.out; have := CH10.out; have := CH11.out; have := CH12.out; have := CH13.out; have := CH14.out; omega)); have n2_ := Aside0.mk (blk_kept BK_b6.out hk (by have := HG_b6.out; have := HL_b6.out; have := CH0.out; have := CH1.out; have := CH2.out; have := CH3.out; have := CH4.out; have := CH5.out; have := CH6.out; have := CH7.out; have := CH8.out; have := CH9.out; have := CH10.out; have := CH11.out; have := CH12.out; have := CH13.out; have := CH14.out; omega)); have n3_ := Aside0.mk (blk_kept BK_b7.out hk (by have := HG_b7.out; have := HL_b7.out; have := CH0.out; have := CH1.out; have := CH2.out; have := CH3.out; have := CH4.out; have := CH5.out; have := CH6.out; have := CH7.out; have := CH8.out; have := CH9.out; have := CH10.out; have := CH11.out; have := CH12.out; have := CH13.out; have := CH14.out; omega)); have n4_ := Aside0.mk (blk_kept BK_b8.out hk (by have := HG_b8.out; have := HL_b8.out; have := CH0.out; have := CH1.out; have := CH2.out; have := CH3.out; have := CH4.out; have := CH5.out; have := CH6.out; have := CH7.out; have := CH8.out; have := CH9.out; have := CH10.out; have := CH11.out; have := CH12.out; have := CH13.out; have := CH14.out; omega)); have n5_ := Aside0.mk (Kd.V_kept RW_w0.out hk (fun k_ hk1_ hk2_ => by have := CH0.out; have := CH1.out; have := CH2.out; have := CH3.out; have := CH4.out; have := CH5.out; have := CH6.out; have := CH7.out; have := CH8.out; have := CH9.out; have := CH10.out; have := CH11.out; have := CH12.out; have := CH13.out; have := CH14.out; omega)); have n6_ := Aside0.mk (Kd.S_kept RW_x0.out hk (fun k_ hk1_ hk2_ => by have := CH0.out; have := CH1.out; have := CH2.out; have := CH3.out; have := CH4.out; have := CH5.out; have := CH6.out; have := CH7.out; have := CH8.out; have := CH9.out; have := CH10.out; have := CH11.out; have := CH12.out; have := CH13.out; have := CH14.out; omega)); clear HB BK_b2 BK_b6 BK_b7 BK_b8 RW_w0 RW_x0; have HB := n0_; have BK_b2 := n1_; have BK_b6 := n2_; have BK_b7 := n3_; have BK_b8 := n4_; have RW_w0 := n5_; have RW_x0 := n6_; clear n0_ n1_ n2_ n3_ n4_ n5_ n6_; clear RW_g0; have RW_g0 := Aside0.mk ho; clear ho; clear hb hk; clear hc_b8_0 hc_b8_1 hc_b8_2 hc_b8_3; have hc_b8_0 : w16.cell? ⟨g_b8, 0, none⟩ = some (.int .i64 r0) := (blk_cell BK_b8.out 0).trans rfl; have hc_b8_1 : w16.cell? ⟨g_b8, 1, none⟩ = some (.string r1) := (blk_cell BK_b8.out 1).trans rfl; have hc_b8_2 : w16.cell? ⟨g_b8, 2, none⟩ = some (.int .i64 r2) := (blk_cell BK_b8.out 2).trans rfl; have hc_b8_3 : w16.cell? ⟨g_b8, 3, none⟩ = some (.slice A_g0 xs.length c_g0) := (blk_cell BK_b8.out 3).trans rfl)
  | ((with_reducible refine gate_callee (f := 30) rfl ?_); refine goesL_ (some 52) rfl rfl Try.func30 (by kernel_rfl) rfl #[.agg #[.int .i64 r0, .string r1, .int .i64 r2, .slice A_g0 xs.length c_g0], .int .i64 1] rfl (by (try simp only [List.map_toArray, List.map_cons, List.map_nil]); first | done | rfl) ?_; refine (c30 _ _ _ (readS RW_g0.out).1 (readS RW_g0.out).2).mono ?_; rintro e w17 ⟨rfl, hb⟩; refine ⟨_, rfl, ?_⟩; have CH16 := Aside0.mk hb.size; have n0_ := Aside0.mk (below_step HB.out hb); have n1_ := Aside0.mk (blk_below BK_b2.out hb); have n2_ := Aside0.mk (blk_below BK_b6.out hb); have n3_ := Aside0.mk (blk_below BK_b7.out hb); have n4_ := Aside0.mk (blk_below BK_b8.out hb); have n5_ := Aside0.mk (Kd.V_below RW_w0.out hb); have n6_ := Aside0.mk (Kd.S_below RW_x0.out hb); have n7_ := Aside0.mk (Kd.S_below RW_g0.out hb); clear HB BK_b2 BK_b6 BK_b7 BK_b8 RW_w0 RW_x0 RW_g0; have HB := n0_; have BK_b2 := n1_; have BK_b6 := n2_; have BK_b7 := n3_; have BK_b8 := n4_; have RW_w0 := n5_; have RW_x0 := n6_; have RW_g0 := n7_; clear n0_ n1_ n2_ n3_ n4_ n5_ n6_ n7_; clear hb; clear hc_b8_0 hc_b8_1 hc_b8_2 hc_b8_3; have hc_b2_0 : w17.cell? ⟨g_b2, 0, none⟩ = some (.int .i64 t.f0) := (blk_cell BK_b2.out 0).trans rfl; have hc_b2_1 : w17.cell? ⟨g_b2, 1, none⟩ = some (.string t.f1) := (blk_cell BK_b2.out 1).trans rfl; have hc_b2_2 : w17.cell? ⟨g_b2, 2, none⟩ = some (.int .i64 t.f2) := (blk_cell BK_b2.out 2).trans rfl; have hc_b2_3 : w17.cell? ⟨g_b2, 3, none⟩ = some (.slice A_T t.f3.length c_T) := (blk_cell BK_b2.out 3).trans rfl)
  | ((with_reducible refine gate_callee (f := 17) rfl ?_); refine goesL_ (some 59) rfl rfl Try.func17 (by kernel_rfl) rfl #[.agg #[.int .i64 t.f0, .string t.f1, .int .i64 t.f2, .slice A_T t.f3.length c_T]] rfl (by (try simp only [List.map_toArray, List.map_cons, List.map_nil]); first | done | rfl) ?_; refine (c17 _ _ _ HL_T.out (Kd.C_below HC_T.out HB.out)).mono ?_; rintro e w18 ⟨v_f2, rfl, ho_f2, hb⟩; refine ⟨_, rfl, ?_⟩; have CH17 := Aside0.mk hb.size; have HW_f2 := Aside0.mk HB.out.size; have n0_ := Aside0.mk (below_step HB.out hb); have n1_ := Aside0.mk (blk_below BK_b2.out hb); have n2_ := Aside0.mk (blk_below BK_b6.out hb); have n3_ := Aside0.mk (blk_below BK_b7.out hb); have n4_ := Aside0.mk (blk_below BK_b8.out hb); have n5_ := Aside0.mk (Kd.V_below RW_w0.out hb); have n6_ := Aside0.mk (Kd.S_below RW_x0.out hb); have n7_ := Aside0.mk (Kd.S_below RW_g0.out hb); clear HB BK_b2 BK_b6 BK_b7 BK_b8 RW_w0 RW_x0 RW_g0; have HB := n0_; have BK_b2 := n1_; have BK_b6 := n2_; have BK_b7 := n3_; have BK_b8 := n4_; have RW_w0 := n5_; have RW_x0 := n6_; have RW_g0 := n7_; clear n0_ n1_ n2_ n3_ n4_ n5_ n6_ n7_; obtain ⟨A_f2, c_f2, rfl⟩ := Kd.S_slice ho_f2; have RW_f2 := Aside0.mk (Kd.S_mono (ok' := fun k_ => w17.heap.size ≤ k_ ∧ k_ < w18.heap.size) (Kd.S_bound ho_f2) (fun k_ hk_ => ⟨hk_.2.1, hk_.2.2.1⟩)); clear hb ho_f2; clear hc_b2_0 hc_b2_1 hc_b2_2 hc_b2_3)
  | ((with_reducible refine gate_callee (f := 53) rfl ?_); refine goesL_ (some 61) rfl rfl Try.func53 (by kernel_rfl) rfl #[.agg #[.int .i64 t.f0, .string t.f1, .int .i64 t.f2, .slice A_f2 xt.length c_f2], .int .i64 by_] rfl (by (try simp only [List.map_toArray, List.map_cons, List.map_nil]); first | done | rfl) ?_; refine (c53 _ _ _ (readS RW_f2.out).1 (readS RW_f2.out).2).mono ?_; rintro e w19 ⟨v_k0, rfl, ho_k0, hb⟩; refine ⟨_, rfl, ?_⟩; have CH18 := Aside0.mk hb.size; have HW_k0 := Aside0.mk HB.out.size; have n0_ := Aside0.mk (below_step HB.out hb); have n1_ := Aside0.mk (blk_below BK_b2.out hb); have n2_ := Aside0.mk (blk_below BK_b6.out hb); have n3_ := Aside0.mk (blk_below BK_b7.out hb); have n4_ := Aside0.mk (blk_below BK_b8.out hb); have n5_ := Aside0.mk (Kd.V_below RW_w0.out hb); have n6_ := Aside0.mk (Kd.S_below RW_x0.out hb); have n7_ := Aside0.mk (Kd.S_below RW_g0.out hb); have n8_ := Aside0.mk (Kd.S_below RW_f2.out hb); clear HB BK_b2 BK_b6 BK_b7 BK_b8 RW_w0 RW_x0 RW_g0 RW_f2; have HB := n0_; have BK_b2 := n1_; have BK_b6 := n2_; have BK_b7 := n3_; have BK_b8 := n4_; have RW_w0 := n5_; have RW_x0 := n6_; have RW_g0 := n7_; have RW_f2 := n8_; clear n0_ n1_ n2_ n3_ n4_ n5_ n6_ n7_ n8_; obtain ⟨A_k0, c_k0, rfl⟩ := Kd.S_slice ho_k0; have RW_k0 := Aside0.mk (Kd.S_mono (ok' := fun k_ => w18.heap.size ≤ k_ ∧ k_ < w19.heap.size) (Kd.S_bound ho_k0) (fun k_ hk_ => ⟨hk_.2.1, hk_.2.2.1⟩)); clear hb ho_k0; clear RW_f2)
  | ((with_reducible refine gate_dst (N := 12) rfl ?_); refine box_event ?hg12 (N := 12) ?hd12 (cs := #[.int .i64 0, .string (⟨#[]⟩ : ByteArray), .int .i64 0, .slice none 0 0]) (t := 29) ?hr12 ?_; (case hd12 => rfl); (case hg12 => rfl); (case hr12 => first | (go_simp; done) | (go_simp; rfl)); intro g_b12 hg z_b12 hbox hb; have HG_b12 := Aside0.mk hg; have BB_b12 := Aside0.mk hbox; have HBB_b12 := Aside0.mk hb; have hz_b12_0 : z_b12.cell? ⟨g_b12, 0, none⟩ = some (.int .i64 0) := (blk_cell BB_b12.out 0).trans rfl; have hf_b12_0 := blk_frozen BB_b12.out 0; have hz_b12_1 : z_b12.cell? ⟨g_b12, 1, none⟩ = some (.string (⟨#[]⟩ : ByteArray)) := (blk_cell BB_b12.out 1).trans rfl; have hf_b12_1 := blk_frozen BB_b12.out 1; have hz_b12_2 : z_b12.cell? ⟨g_b12, 2, none⟩ = some (.int .i64 0) := (blk_cell BB_b12.out 2).trans rfl; have hf_b12_2 := blk_frozen BB_b12.out 2; have hz_b12_3 : z_b12.cell? ⟨g_b12, 3, none⟩ = some (.slice none 0 0) := (blk_cell BB_b12.out 3).trans rfl; have hf_b12_3 := blk_frozen BB_b12.out 3; clear hg hbox hb)
  | ((with_reducible refine gate_store (t := 29) (p := 12) rfl ?_); refine store_event (t := 29) (p := 12) (v := ?vo12) (w1 := ((((z_b12.setCell ⟨g_b12, 0, none⟩ (.int .i64 r0)).setCell ⟨g_b12, 1, none⟩ (.string r1)).setCell ⟨g_b12, 2, none⟩ (.int .i64 r2)).setCell ⟨g_b12, 3, none⟩ (.slice A_k0 xs.length c_k0))) ?hgs12 ?hos12 ?hns12 ?hrs12 ?_; (case hos12 => rfl); (case hgs12 => rfl); (case hns12 => rfl); (case hrs12 => first | (go_simp; done) | (go_simp; rfl)); intro w20 hw; have hb : Below w19.heap.size w19 w20 := (by rw [hw]; exact (below_set (below_set (below_set (below_set HBB_b12.out (by have := HG_b12.out; omega)) (by have := HG_b12.out; omega)) (by have := HG_b12.out; omega)) (by have := HG_b12.out; omega))); have CH19 := Aside0.mk hb.size; have n0_ := Aside0.mk (below_step HB.out hb); have n1_ := Aside0.mk (blk_below BK_b2.out hb); have n2_ := Aside0.mk (blk_below BK_b6.out hb); have n3_ := Aside0.mk (blk_below BK_b7.out hb); have n4_ := Aside0.mk (blk_below BK_b8.out hb); have n5_ := Aside0.mk (Kd.V_below RW_w0.out hb); have n6_ := Aside0.mk (Kd.S_below RW_x0.out hb); have n7_ := Aside0.mk (Kd.S_below RW_g0.out hb); have n8_ := Aside0.mk (Kd.S_below RW_k0.out hb); clear HB BK_b2 BK_b6 BK_b7 BK_b8 RW_w0 RW_x0 RW_g0 RW_k0; have HB := n0_; have BK_b2 := n1_; have BK_b6 := n2_; have BK_b7 := n3_; have BK_b8 := n4_; have RW_w0 := n5_; have RW_x0 := n6_; have RW_g0 := n7_; have RW_k0 := n8_; clear n0_ n1_ n2_ n3_ n4_ n5_ n6_ n7_ n8_; have BK_b12 : Aside0 (w20.heap[g_b12]? = some (.cells #[.int .i64 r0, .string r1, .int .i64 r2, .slice A_k0 xs.length c_k0] 29 (0, 0))) := ⟨by rw [hw]; refine blk_put (cs := #[.int .i64 r0, .string r1, .int .i64 r2, .slice none 0 0]) ?_ 3 _ rfl; refine blk_put (cs := #[.int .i64 r0, .string r1, .int .i64 0, .slice none 0 0]) ?_ 2 _ rfl; refine blk_put (cs := #[.int .i64 r0, .string (⟨#[]⟩ : ByteArray), .int .i64 0, .slice none 0 0]) ?_ 1 _ rfl; refine blk_put (cs := #[.int .i64 0, .string (⟨#[]⟩ : ByteArray), .int .i64 0, .slice none 0 0]) ?_ 0 _ rfl; exact BB_b12.out⟩; have HL_b12 := Aside0.mk (show g_b12 < w20.heap.size from blk_lt BK_b12.out); clear hb hw hz_b12_0 hf_b12_0 hz_b12_1 hf_b12_1 hz_b12_2 hf_b12_2 hz_b12_3 hf_b12_3; have hc_b6_0 : w20.cell? ⟨g_b6, 0, none⟩ = some (.int .i64 r0) := (blk_cell BK_b6.out 0).trans rfl; have hc_b6_1 : w20.cell? ⟨g_b6, 1, none⟩ = some (.string r1) := (blk_cell BK_b6.out 1).trans rfl; have hc_b6_2 : w20.cell? ⟨g_b6, 2, none⟩ = some (.int .i64 r2) := (blk_cell BK_b6.out 2).trans rfl; have hc_b6_3 : w20.cell? ⟨g_b6, 3, none⟩ = some (.slice A_w0 xs.length c_w0) := (blk_cell BK_b6.out 3).trans rfl; have hc_b12_0 : w20.cell? ⟨g_b12, 0, none⟩ = some (.int .i64 r0) := (blk_cell BK_b12.out 0).trans rfl; have hc_b12_1 : w20.cell? ⟨g_b12, 1, none⟩ = some (.string r1) := (blk_cell BK_b12.out 1).trans rfl; have hc_b12_2 : w20.cell? ⟨g_b12, 2, none⟩ = some (.int .i64 r2) := (blk_cell BK_b12.out 2).trans rfl; have hc_b12_3 : w20.cell? ⟨g_b12, 3, none⟩ = some (.slice A_k0 xs.length c_k0) := (blk_cell BK_b12.out 3).trans rfl)
  | ((with_reducible refine gate_callee (f := 19) rfl ?_); refine goesL_ (some 64) rfl rfl Try.func19 (by kernel_rfl) rfl #[.agg #[.int .i64 r0, .string r1, .int .i64 r2, .slice A_k0 xs.length c_k0], .agg #[.int .i64 r0, .string r1, .int .i64 r2, .slice A_w0 xs.length c_w0]] rfl (by (try simp only [List.map_toArray, List.map_cons, List.map_nil]); first | done | rfl) ?_; refine (c19 _ _ _ _ _ (readS RW_k0.out).1 (readS RW_k0.out).2 (readV RW_w0.out).1 (readV RW_w0.out).2).mono ?_; rintro e w21 ⟨rfl, hb⟩; refine ⟨_, rfl, ?_⟩; have CH20 := Aside0.mk hb.size; have n0_ := Aside0.mk (below_step HB.out hb); have n1_ := Aside0.mk (blk_below BK_b2.out hb); have n2_ := Aside0.mk (blk_below BK_b6.out hb); have n3_ := Aside0.mk (blk_below BK_b7.out hb); have n4_ := Aside0.mk (blk_below BK_b8.out hb); have n5_ := Aside0.mk (blk_below BK_b12.out hb); have n6_ := Aside0.mk (Kd.V_below RW_w0.out hb); have n7_ := Aside0.mk (Kd.S_below RW_x0.out hb); have n8_ := Aside0.mk (Kd.S_below RW_g0.out hb); have n9_ := Aside0.mk (Kd.S_below RW_k0.out hb); clear HB BK_b2 BK_b6 BK_b7 BK_b8 BK_b12 RW_w0 RW_x0 RW_g0 RW_k0; have HB := n0_; have BK_b2 := n1_; have BK_b6 := n2_; have BK_b7 := n3_; have BK_b8 := n4_; have BK_b12 := n5_; have RW_w0 := n6_; have RW_x0 := n7_; have RW_g0 := n8_; have RW_k0 := n9_; clear n0_ n1_ n2_ n3_ n4_ n5_ n6_ n7_ n8_ n9_; clear hb; clear hc_b6_0 hc_b6_1 hc_b6_2 hc_b6_3 hc_b12_0 hc_b12_1 hc_b12_2 hc_b12_3; have hc_b8_0 : w21.cell? ⟨g_b8, 0, none⟩ = some (.int .i64 r0) := (blk_cell BK_b8.out 0).trans rfl; have hc_b8_1 : w21.cell? ⟨g_b8, 1, none⟩ = some (.string r1) := (blk_cell BK_b8.out 1).trans rfl; have hc_b8_2 : w21.cell? ⟨g_b8, 2, none⟩ = some (.int .i64 r2) := (blk_cell BK_b8.out 2).trans rfl; have hc_b8_3 : w21.cell? ⟨g_b8, 3, none⟩ = some (.slice A_g0 xs.length c_g0) := (blk_cell BK_b8.out 3).trans rfl)
  | ((with_reducible refine gate_callee (f := 30) rfl ?_); refine goesL_ (some 68) rfl rfl Try.func30 (by kernel_rfl) rfl #[.agg #[.int .i64 r0, .string r1, .int .i64 r2, .slice A_g0 xs.length c_g0], .int .i64 1] rfl (by (try simp only [List.map_toArray, List.map_cons, List.map_nil]); first | done | rfl) ?_; refine (c30 _ _ _ (readS RW_g0.out).1 (readS RW_g0.out).2).mono ?_; rintro e w22 ⟨rfl, hb⟩; refine ⟨_, rfl, ?_⟩; have CH21 := Aside0.mk hb.size; have n0_ := Aside0.mk (below_step HB.out hb); have n1_ := Aside0.mk (blk_below BK_b2.out hb); have n2_ := Aside0.mk (blk_below BK_b6.out hb); have n3_ := Aside0.mk (blk_below BK_b7.out hb); have n4_ := Aside0.mk (blk_below BK_b8.out hb); have n5_ := Aside0.mk (blk_below BK_b12.out hb); have n6_ := Aside0.mk (Kd.V_below RW_w0.out hb); have n7_ := Aside0.mk (Kd.S_below RW_x0.out hb); have n8_ := Aside0.mk (Kd.S_below RW_g0.out hb); have n9_ := Aside0.mk (Kd.S_below RW_k0.out hb); clear HB BK_b2 BK_b6 BK_b7 BK_b8 BK_b12 RW_w0 RW_x0 RW_g0 RW_k0; have HB := n0_; have BK_b2 := n1_; have BK_b6 := n2_; have BK_b7 := n3_; have BK_b8 := n4_; have BK_b12 := n5_; have RW_w0 := n6_; have RW_x0 := n7_; have RW_g0 := n8_; have RW_k0 := n9_; clear n0_ n1_ n2_ n3_ n4_ n5_ n6_ n7_ n8_ n9_; clear hb; clear hc_b8_0 hc_b8_1 hc_b8_2 hc_b8_3))
 go_ret
 exact ⟨rfl,HB.out⟩
set_option maxHeartbeats 8000000 in
set_option maxRecDepth 100000 in
theorem sh_big1 (t : S24) (by_ : Int) (A_T : Option Addr) (c_T : Nat) (left1 : Int) (w : World)
  (hl1 : left1 < 0)
  (hlT : t.f3.length ≤ c_T)
  (hCT : Kd.C k24 w A_T t.f3.length t.f3)
  (c15 : ∀ W A c,t.f3.length ≤ c → Kd.C k24 W A t.f3.length t.f3 → Calls Try.prog 15 #[.agg #[.int .i64 t.f0,.string t.f1,.int .i64 t.f2,.slice A t.f3.length c],.int .i64 1048576] W fun e W' => e = .returned (.int .i64 left1) ∧ Below W.heap.size W W') :
  Calls Try.prog 13 #[.agg #[.int .i64 t.f0,.string t.f1,.int .i64 t.f2,.slice A_T t.f3.length c_T],.int .i64 by_] w fun e w' => e = .returned (.bool true) ∧ Below w.heap.size w w':=by
 have HL_T:=Aside0.mk hlT
 have HC_T:=Aside0.mk hCT
 clear hlT hCT
 have cl1 : decide (left1 < 0) = true:=decide_eq_true hl1
 clear hl1
 have HB:=Aside0.mk (Below.refl w.heap.size w)
 go_enter Try.func13,Try.ntmps13
 go_wp2_with (first
  | ((with_reducible refine gate_dst (N := 2) rfl ?_); refine box_event ?hg2 (N := 2) ?hd2 (cs := #[.int .i64 t.f0, .string t.f1, .int .i64 t.f2, .slice A_T t.f3.length c_T]) (t := 24) ?hr2 ?_; (case hd2 => rfl); (case hg2 => rfl); (case hr2 => first | (go_simp; done) | (go_simp; rfl)); intro g_b2 hg w1 hbox hb; have HG_b2 := Aside0.mk hg; have HL_b2 := Aside0.mk (blk_lt hbox); have CH0 := Aside0.mk hb.size; have n0_ := Aside0.mk (below_step HB.out hb); clear HB; have HB := n0_; clear n0_; have BK_b2 := Aside0.mk hbox; clear hg hbox hb; have hc_b2_0 : w1.cell? ⟨g_b2, 0, none⟩ = some (.int .i64 t.f0) := (blk_cell BK_b2.out 0).trans rfl; have hc_b2_1 : w1.cell? ⟨g_b2, 1, none⟩ = some (.string t.f1) := (blk_cell BK_b2.out 1).trans rfl; have hc_b2_2 : w1.cell? ⟨g_b2, 2, none⟩ = some (.int .i64 t.f2) := (blk_cell BK_b2.out 2).trans rfl; have hc_b2_3 : w1.cell? ⟨g_b2, 3, none⟩ = some (.slice A_T t.f3.length c_T) := (blk_cell BK_b2.out 3).trans rfl)
  | ((with_reducible refine gate_callee (f := 15) rfl ?_); refine goesL_ (some 15) rfl rfl Try.func15 (by kernel_rfl) rfl #[.agg #[.int .i64 t.f0, .string t.f1, .int .i64 t.f2, .slice A_T t.f3.length c_T], .int .i64 1048576] rfl (by (try simp only [List.map_toArray, List.map_cons, List.map_nil]); first | done | rfl) ?_; refine (c15 _ _ _ HL_T.out (Kd.C_below HC_T.out HB.out)).mono ?_; rintro e w2 ⟨rfl, hb⟩; refine ⟨_, rfl, ?_⟩; have CH1 := Aside0.mk hb.size; have n0_ := Aside0.mk (below_step HB.out hb); have n1_ := Aside0.mk (blk_below BK_b2.out hb); clear HB BK_b2; have HB := n0_; have BK_b2 := n1_; clear n0_ n1_; clear hb; clear hc_b2_0 hc_b2_1 hc_b2_2 hc_b2_3; have hc_b2_0 : w2.cell? ⟨g_b2, 0, none⟩ = some (.int .i64 t.f0) := (blk_cell BK_b2.out 0).trans rfl; have hc_b2_1 : w2.cell? ⟨g_b2, 1, none⟩ = some (.string t.f1) := (blk_cell BK_b2.out 1).trans rfl; have hc_b2_2 : w2.cell? ⟨g_b2, 2, none⟩ = some (.int .i64 t.f2) := (blk_cell BK_b2.out 2).trans rfl; have hc_b2_3 : w2.cell? ⟨g_b2, 3, none⟩ = some (.slice A_T t.f3.length c_T) := (blk_cell BK_b2.out 3).trans rfl)
  | ((with_reducible refine gate_dst (N := 6) rfl ?_); refine box_event ?hg6 (N := 6) ?hd6 (cs := #[.int .i64 0, .string (⟨#[]⟩ : ByteArray), .int .i64 0, .slice none 0 0]) (t := 29) ?hr6 ?_; (case hd6 => rfl); (case hg6 => rfl); (case hr6 => first | (go_simp; done) | (go_simp; rfl)); intro g_b6 hg z_b6 hbox hb; have HG_b6 := Aside0.mk hg; have BB_b6 := Aside0.mk hbox; have HBB_b6 := Aside0.mk hb; have hz_b6_0 : z_b6.cell? ⟨g_b6, 0, none⟩ = some (.int .i64 0) := (blk_cell BB_b6.out 0).trans rfl; have hf_b6_0 := blk_frozen BB_b6.out 0; have hz_b6_1 : z_b6.cell? ⟨g_b6, 1, none⟩ = some (.string (⟨#[]⟩ : ByteArray)) := (blk_cell BB_b6.out 1).trans rfl; have hf_b6_1 := blk_frozen BB_b6.out 1; have hz_b6_2 : z_b6.cell? ⟨g_b6, 2, none⟩ = some (.int .i64 0) := (blk_cell BB_b6.out 2).trans rfl; have hf_b6_2 := blk_frozen BB_b6.out 2; have hz_b6_3 : z_b6.cell? ⟨g_b6, 3, none⟩ = some (.slice none 0 0) := (blk_cell BB_b6.out 3).trans rfl; have hf_b6_3 := blk_frozen BB_b6.out 3; clear hg hbox hb)
  | ((with_reducible refine gate_store (t := 29) (p := 6) rfl ?_); refine store_event (t := 29) (p := 6) (v := ?vo6) (w1 := ((((z_b6.setCell ⟨g_b6, 0, none⟩ (.int .i64 r0)).setCell ⟨g_b6, 1, none⟩ (.string r1)).setCell ⟨g_b6, 2, none⟩ (.int .i64 r2)).setCell ⟨g_b6, 3, none⟩ (.slice A_w0 xs.length c_w0))) ?hgs6 ?hos6 ?hns6 ?hrs6 ?_; (case hos6 => rfl); (case hgs6 => rfl); (case hns6 => rfl); (case hrs6 => first | (go_simp; done) | (go_simp; rfl)); intro w5 hw; have hb : Below w4.heap.size w4 w5 := (by rw [hw]; exact (below_set (below_set (below_set (below_set HBB_b6.out (by have := HG_b6.out; omega)) (by have := HG_b6.out; omega)) (by have := HG_b6.out; omega)) (by have := HG_b6.out; omega))); have CH4 := Aside0.mk hb.size; have n0_ := Aside0.mk (below_step HB.out hb); have n1_ := Aside0.mk (blk_below BK_b2.out hb); have n2_ := Aside0.mk (Kd.V_below RW_w0.out hb); clear HB BK_b2 RW_w0; have HB := n0_; have BK_b2 := n1_; have RW_w0 := n2_; clear n0_ n1_ n2_; have BK_b6 : Aside0 (w5.heap[g_b6]? = some (.cells #[.int .i64 r0, .string r1, .int .i64 r2, .slice A_w0 xs.length c_w0] 29 (0, 0))) := ⟨by rw [hw]; refine blk_put (cs := #[.int .i64 r0, .string r1, .int .i64 r2, .slice none 0 0]) ?_ 3 _ rfl; refine blk_put (cs := #[.int .i64 r0, .string r1, .int .i64 0, .slice none 0 0]) ?_ 2 _ rfl; refine blk_put (cs := #[.int .i64 r0, .string (⟨#[]⟩ : ByteArray), .int .i64 0, .slice none 0 0]) ?_ 1 _ rfl; refine blk_put (cs := #[.int .i64 0, .string (⟨#[]⟩ : ByteArray), .int .i64 0, .slice none 0 0]) ?_ 0 _ rfl; exact BB_b6.out⟩; have HL_b6 := Aside0.mk (show g_b6 < w5.heap.size from blk_lt BK_b6.out); clear hb hw hz_b6_0 hf_b6_0 hz_b6_1 hf_b6_1 hz_b6_2 hf_b6_2 hz_b6_3 hf_b6_3; have hc_b2_0 : w5.cell? ⟨g_b2, 0, none⟩ = some (.int .i64 t.f0) := (blk_cell BK_b2.out 0).trans rfl; have hc_b2_1 : w5.cell? ⟨g_b2, 1, none⟩ = some (.string t.f1) := (blk_cell BK_b2.out 1).trans rfl; have hc_b2_2 : w5.cell? ⟨g_b2, 2, none⟩ = some (.int .i64 t.f2) := (blk_cell BK_b2.out 2).trans rfl; have hc_b2_3 : w5.cell? ⟨g_b2, 3, none⟩ = some (.slice A_T t.f3.length c_T) := (blk_cell BK_b2.out 3).trans rfl)
  | ((with_reducible refine gate_dst (N := 7) rfl ?_); refine box_event ?hg7 (N := 7) ?hd7 (cs := #[.int .i64 0, .string (⟨#[]⟩ : ByteArray), .int .i64 0, .slice none 0 0]) (t := 29) ?hr7 ?_; (case hd7 => rfl); (case hg7 => rfl); (case hr7 => first | (go_simp; done) | (go_simp; rfl)); intro g_b7 hg z_b7 hbox hb; have HG_b7 := Aside0.mk hg; have BB_b7 := Aside0.mk hbox; have HBB_b7 := Aside0.mk hb; have hz_b7_0 : z_b7.cell? ⟨g_b7, 0, none⟩ = some (.int .i64 0) := (blk_cell BB_b7.out 0).trans rfl; have hf_b7_0 := blk_frozen BB_b7.out 0; have hz_b7_1 : z_b7.cell? ⟨g_b7, 1, none⟩ = some (.string (⟨#[]⟩ : ByteArray)) := (blk_cell BB_b7.out 1).trans rfl; have hf_b7_1 := blk_frozen BB_b7.out 1; have hz_b7_2 : z_b7.cell? ⟨g_b7, 2, none⟩ = some (.int .i64 0) := (blk_cell BB_b7.out 2).trans rfl; have hf_b7_2 := blk_frozen BB_b7.out 2; have hz_b7_3 : z_b7.cell? ⟨g_b7, 3, none⟩ = some (.slice none 0 0) := (blk_cell BB_b7.out 3).trans rfl; have hf_b7_3 := blk_frozen BB_b7.out 3; clear hg hbox hb)
  | ((with_reducible refine gate_store (t := 29) (p := 7) rfl ?_); refine store_event (t := 29) (p := 7) (v := ?vo7) (w1 := ((((z_b7.setCell ⟨g_b7, 0, none⟩ (.int .i64 t.f0)).setCell ⟨g_b7, 1, none⟩ (.string t.f1)).setCell ⟨g_b7, 2, none⟩ (.int .i64 t.f2)).setCell ⟨g_b7, 3, none⟩ (.slice A_x0 xt.length c_x0))) ?hgs7 ?hos7 ?hns7 ?hrs7 ?_; (case hos7 => rfl); (case hgs7 => rfl); (case hns7 => rfl); (case hrs7 => first | (go_simp; done) | (go_simp; rfl)); intro w7 hw; have hb : Below w6.heap.size w6 w7 := (by rw [hw]; exact (below_set (below_set (below_set (below_set HBB_b7.out (by have := HG_b7.out; omega)) (by have := HG_b7.out; omega)) (by have := HG_b7.out; omega)) (by have := HG_b7.out; omega))); have CH6 := Aside0.mk hb.size; have n0_ := Aside0.mk (below_step HB.out hb); have n1_ := Aside0.mk (blk_below BK_b2.out hb); have n2_ := Aside0.mk (blk_below BK_b6.out hb); have n3_ := Aside0.mk (Kd.V_below RW_w0.out hb); have n4_ := Aside0.mk (Kd.S_below RW_x0.out hb); clear HB BK_b2 BK_b6 RW_w0 RW_x0; have HB := n0_; have BK_b2 := n1_; have BK_b6 := n2_; have RW_w0 := n3_; have RW_x0 := n4_; clear n0_ n1_ n2_ n3_ n4_; have BK_b7 : Aside0 (w7.heap[g_b7]? = some (.cells #[.int .i64 t.f0, .string t.f1, .int .i64 t.f2, .slice A_x0 xt.length c_x0] 29 (0, 0))) := ⟨by rw [hw]; refine blk_put (cs := #[.int .i64 t.f0, .string t.f1, .int .i64 t.f2, .slice none 0 0]) ?_ 3 _ rfl; refine blk_put (cs := #[.int .i64 t.f0, .string t.f1, .int .i64 0, .slice none 0 0]) ?_ 2 _ rfl; refine blk_put (cs := #[.int .i64 t.f0, .string (⟨#[]⟩ : ByteArray), .int .i64 0, .slice none 0 0]) ?_ 1 _ rfl; refine blk_put (cs := #[.int .i64 0, .string (⟨#[]⟩ : ByteArray), .int .i64 0, .slice none 0 0]) ?_ 0 _ rfl; exact BB_b7.out⟩; have HL_b7 := Aside0.mk (show g_b7 < w7.heap.size from blk_lt BK_b7.out); clear hb hw hz_b7_0 hf_b7_0 hz_b7_1 hf_b7_1 hz_b7_2 hf_b7_2 hz_b7_3 hf_b7_3; have hc_b7_0 : w7.cell? ⟨g_b7, 0, none⟩ = some (.int .i64 t.f0) := (blk_cell BK_b7.out 0).trans rfl; have hc_b7_1 : w7.cell? ⟨g_b7, 1, none⟩ = some (.string t.f1) := (blk_cell BK_b7.out 1).trans rfl; have hc_b7_2 : w7.cell? ⟨g_b7, 2, none⟩ = some (.int .i64 t.f2) := (blk_cell BK_b7.out 2).trans rfl; have hc_b7_3 : w7.cell? ⟨g_b7, 3, none⟩ = some (.slice A_x0 xt.length c_x0) := (blk_cell BK_b7.out 3).trans rfl)
  | ((with_reducible refine gate_dst (N := 8) rfl ?_); refine box_event ?hg8 (N := 8) ?hd8 (cs := #[.int .i64 0, .string (⟨#[]⟩ : ByteArray), .int .i64 0, .slice none 0 0]) (t := 29) ?hr8 ?_; (case hd8 => rfl); (case hg8 => rfl); (case hr8 => first | (go_simp; done) | (go_simp; rfl)); intro g_b8 hg z_b8 hbox hb; have HG_b8 := Aside0.mk hg; have BB_b8 := Aside0.mk hbox; have HBB_b8 := Aside0.mk hb; have hz_b8_0 : z_b8.cell? ⟨g_b8, 0, none⟩ = some (.int .i64 0) := (blk_cell BB_b8.out 0).trans rfl; have hf_b8_0 := blk_frozen BB_b8.out 0; have hz_b8_1 : z_b8.cell? ⟨g_b8, 1, none⟩ = some (.string (⟨#[]⟩ : ByteArray)) := (blk_cell BB_b8.out 1).trans rfl; have hf_b8_1 := blk_frozen BB_b8.out 1; have hz_b8_2 : z_b8.cell? ⟨g_b8, 2, none⟩ = some (.int .i64 0) := (blk_cell BB_b8.out 2).trans rfl; have hf_b8_2 := blk_frozen BB_b8.out 2; have hz_b8_3 : z_b8.cell? ⟨g_b8, 3, none⟩ = some (.slice none 0 0) := (blk_cell BB_b8.out 3).trans rfl; have hf_b8_3 := blk_frozen BB_b8.out 3; clear hg hbox hb)
  | ((with_reducible refine gate_store (t := 29) (p := 8) rfl ?_); refine store_event (t := 29) (p := 8) (v := ?vo8) (w1 := ((((z_b8.setCell ⟨g_b8, 0, none⟩ (.int .i64 r0)).setCell ⟨g_b8, 1, none⟩ (.string r1)).setCell ⟨g_b8, 2, none⟩ (.int .i64 r2)).setCell ⟨g_b8, 3, none⟩ (.slice A_g0 xs.length c_g0))) ?hgs8 ?hos8 ?hns8 ?hrs8 ?_; (case hos8 => rfl); (case hgs8 => rfl); (case hns8 => rfl); (case hrs8 => first | (go_simp; done) | (go_simp; rfl)); intro w9 hw; have hb : Below w8.heap.size w8 w9 := (by rw [hw]; exact (below_set (below_set (below_set (below_set HBB_b8.out (by have := HG_b8.out; omega)) (by have := HG_b8.out; omega)) (by have := HG_b8.out; omega)) (by have := HG_b8.out; omega))); have CH8 := Aside0.mk hb.size; have n0_ := Aside0.mk (below_step HB.out hb); have n1_ := Aside0.mk (blk_below BK_b2.out hb); have n2_ := Aside0.mk (blk_below BK_b6.out hb); have n3_ := Aside0.mk (blk_below BK_b7.out hb); have n4_ := Aside0.mk (Kd.V_below RW_w0.out hb); have n5_ := Aside0.mk (Kd.S_below RW_x0.out hb); have n6_ := Aside0.mk (Kd.S_below RW_g0.out hb); clear HB BK_b2 BK_b6 BK_b7 RW_w0 RW_x0 RW_g0; have HB := n0_; have BK_b2 := n1_; have BK_b6 := n2_; have BK_b7 := n3_; have RW_w0 := n4_; have RW_x0 := n5_; have RW_g0 := n6_; clear n0_ n1_ n2_ n3_ n4_ n5_ n6_; have BK_b8 : Aside0 (w9.heap[g_b8]? = some (.cells #[.int .i64 r0, .string r1, .int .i64 r2, .slice A_g0 xs.length c_g0] 29 (0, 0))) := ⟨by rw [hw]; refine blk_put (cs := #[.int .i64 r0, .string r1, .int .i64 r2, .slice none 0 0]) ?_ 3 _ rfl; refine blk_put (cs := #[.int .i64 r0, .string r1, .int .i64 0, .slice none 0 0]) ?_ 2 _ rfl; refine blk_put (cs := #[.int .i64 r0, .string (⟨#[]⟩ : ByteArray), .int .i64 0, .slice none 0 0]) ?_ 1 _ rfl; refine blk_put (cs := #[.int .i64 0, .string (⟨#[]⟩ : ByteArray), .int .i64 0, .slice none 0 0]) ?_ 0 _ rfl; exact BB_b8.out⟩; have HL_b8 := Aside0.mk (show g_b8 < w9.heap.size from blk_lt BK_b8.out); clear hb hw hz_b8_0 hf_b8_0 hz_b8_1 hf_b8_1 hz_b8_2 hf_b8_2 hz_b8_3 hf_b8_3; have hc_b6_0 : w9.cell? ⟨g_b6, 0, none⟩ = some (.int .i64 r0) := (blk_cell BK_b6.out 0).trans rfl; have hc_b6_1 : w9.cell? ⟨g_b6, 1, none⟩ = some (.string r1) := (blk_cell BK_b6.out 1).trans rfl; have hc_b6_2 : w9.cell? ⟨g_b6, 2, none⟩ = some (.int .i64 r2) := (blk_cell BK_b6.out 2).trans rfl; have hc_b6_3 : w9.cell? ⟨g_b6, 3, none⟩ = some (.slice A_w0 xs.length c_w0) := (blk_cell BK_b6.out 3).trans rfl; have hc_b8_0 : w9.cell? ⟨g_b8, 0, none⟩ = some (.int .i64 r0) := (blk_cell BK_b8.out 0).trans rfl; have hc_b8_1 : w9.cell? ⟨g_b8, 1, none⟩ = some (.string r1) := (blk_cell BK_b8.out 1).trans rfl; have hc_b8_2 : w9.cell? ⟨g_b8, 2, none⟩ = some (.int .i64 r2) := (blk_cell BK_b8.out 2).trans rfl; have hc_b8_3 : w9.cell? ⟨g_b8, 3, none⟩ = some (.slice A_g0 xs.length c_g0) := (blk_cell BK_b8.out 3).trans rfl))
 go_ret
 exact ⟨rfl,HB.out⟩
end
theorem impl_sh (t : S29) (by_ : Int) (hc : cn29 t ≤ 1048577) (hnm : nm29 t) (A : Option Addr) (c : Nat) (w : World) (hC : Kd.C k29 w A t.f3.length t.f3) (hcc : t.f3.length ≤ c) :
  Calls Try.prog 53 #[.agg #[.int .i64 t.f0,.string t.f1,.int .i64 t.f2,.slice A t.f3.length c],.int .i64 by_] w fun e w' => ∃ v,e = .returned (.agg #[.int .i64 (shR by_ t).f0,.string (shR by_ t).f1,.int .i64 (shR by_ t).f2,v]) ∧ Kd.S kD29 29 w' w.heap.size (fun _ => True) v (shR by_ t).f3 ∧ Below w.heap.size w w':=by
 letI:=i_sz 0
 letI:=i_to 0
 letI:=i_eq 0
 letI:=i_34 0
 letI:=i_cl
 obtain ⟨hk1,hk2,hk3⟩:=(sh_keeps by_ (ht29 t)).1 t (Nat.le_refl _)
 obtain ⟨kT,h1⟩:=Ev.rounds (show Ev (fun k => impl_TermOk.f k t.f0 t.f1 t.f2 t.f3) (okB t) from impl_ok_ev t hc hnm)
 obtain ⟨kT2,h2⟩:=Ev.rounds (show Ev (fun k => impl_TermOk.f k (shT by_ t).f0 (shT by_ t).f1 (shT by_ t).f2 (shT by_ t).f3) (okB (shT by_ t)) from impl_ok_ev (shT by_ t) (by omega) (hk3 hnm))
 obtain ⟨kC,hcp⟩:=Ev.rounds (ren_ev (ht29 t) t (Nat.le_refl _) hc)
 have hV:=fun W A c h1 h2 => varsof_calls t A c W (by omega) h1 h2
 obtain ⟨vs,hvs⟩ : ∃ vs,vs = vsT t []:=⟨_,rfl⟩
 rw [← hvs] at hV
 have hR : ∀ g : Nat,∃ K,@sh_renamed.f ⟨by_,g⟩ K t.f0 t.f1 t.f2 t.f3 0 = some ((shT by_ t).f0,(shT by_ t).f1,(shT by_ t).f2,(shT by_ t).f3):=fun g => by
  letI : ShBy:=⟨by_,g⟩
  obtain ⟨K,hK⟩:=shren_ev (ht29 t) t (Nat.le_refl _) hc
  exact ⟨K,hK K (Nat.le_refl _)⟩
 cases c1 : okB t with
 | false =>
  have e : shR by_ t = t:=by unfold shR;rw [if_neg (fun z => by rw [c1] at z;exact absurd z.1 (by decide))]
  rw [e]
  rw [c1] at h1
  exact shA1 t by_ A c vs kT kT2 kC w hC hcc h1 hcp
 | true =>
  rw [c1] at h1
  cases c0 : ((vs.length : Int) == 0) with
  | true =>
   have hn : vs = []:=List.eq_nil_of_length_eq_zero (by have:=beq_iff_eq.1 c0;omega)
   have hs : shT by_ t = t:=(sh_none by_ (ht29 t)).1 t (Nat.le_refl _) (by rw [← hvs,hn])
   have e : shR by_ t = t:=by unfold shR;split;exact hs;rfl
   rw [e]
   exact shA2 t by_ A c vs kT kT2 kC w hC hcc h1 hV c0 hcp
  | false =>
   cases c2 : inB by_ with
   | false =>
    have e : shR by_ t = t:=by unfold shR;rw [if_neg (fun z => by rw [c2] at z;exact absurd z.2.1 (by decide))]
    rw [e]
    exact shA3 t by_ A c vs kT kT2 kC w hC hcc h1 hV c0 (by rw [impl_in,c2]) hcp
   | true =>
    cases c3 : okB (shT by_ t) with
    | false =>
     have e : shR by_ t = t:=by unfold shR;rw [if_neg (fun z => by rw [c3] at z;exact absurd z.2.2 (by decide))]
     rw [e]
     rw [c3] at h2
     exact shB1 t (shT by_ t) by_ A c vs kT kT2 kC w hC hcc h1 hV c0 (by rw [impl_in,c2]) hR h2 hcp
    | true =>
     have e : shR by_ t = shT by_ t:=by unfold shR;rw [if_pos ⟨c1,c2,c3⟩]
     rw [e]
     rw [c3] at h2
     exact shB2 t (shT by_ t) by_ A c vs kT kT2 kC w hC hcc h1 hV c0 (by rw [impl_in,c2]) hR h2
theorem sh_all (t : S24) (A_T : Option Addr) (c_T : Nat) (by_ : Int) (w : World) (hCT : Kd.C k24 w A_T t.f3.length t.f3) (hlT : t.f3.length ≤ c_T) (hoT : ok24 t) (hby : (Lit.int .i64 by_).wf = true) :
  Calls Try.prog 13 #[.agg #[.int .i64 t.f0,.string t.f1,.int .i64 t.f2,.slice A_T t.f3.length c_T],.int .i64 by_] w fun e w' => e = .returned (.bool true) ∧ Below w.heap.size w w':=by
 obtain ⟨n,hn⟩ : ∃ n,n = ht24 t + 1:=⟨_,rfl⟩
 letI:=i_sz n
 letI:=i_to n
 letI:=i_eq n
 letI:=i_34 n
 letI:=i_cl
 obtain ⟨k1,hst⟩:=Ev.rounds (sz_ev (n + 1) t hoT (by omega) 1048576 (by omega) (by omega))
 by_cases hw2 : wt24 t ≤ 1048576
 ·have e2 : szr (wt24 t) 1048576 = 1048576 - wt24 t:=by unfold szr;rw [if_pos (by omega)]
  rw [e2] at hst
  have hcnt:=cn_wt t
  have htt:=ht_to t
  have hnm:=nm_to (ht24 t) t (Nat.le_refl _) hw2
  have hTT : ToT t:=(toT_all n).1 t (by omega) (by omega)
  have hwt:=wt24_eq t
  have hxt : hts29 (to29 t).f3 ≤ n ∧ cns29 (to29 t).f3 ≤ 1048576:=by
   have q1:=ht29_eq (to29 t)
   have q2:=cn29_eq (to29 t)
   omega
  obtain ⟨r,hr⟩ : ∃ r,r = shR by_ (to29 t):=⟨_,rfl⟩
  have hrb : ht29 r ≤ n ∧ cn29 r ≤ 1048577:=by
   obtain ⟨q1,q2⟩:=shR_ht by_ (to29 t)
   rw [hr]
   omega
  have hrx : hts29 r.f3 ≤ n ∧ cns29 r.f3 ≤ 1048576:=by
   have q1:=ht29_eq r
   have q2:=cn29_eq r
   omega
  have hmtx : ∀ q : Int,0 < q → q ≤ 1000000000 → laws_markText.f 11 q = some (mtx q):=fun q h0 h1 => mtx_ok q h0 h1
  have hmT : MarkOf mtx (to29 t).f3:=mark_calls mtx 11 hmtx n _ hxt.1
  have hmR : MarkOf mtx r.f3:=mark_calls mtx 11 hmtx n _ hrx.1
  obtain ⟨k2,hd⟩:=Ev.rounds (held_ev n r.f3 hrx.1 hrx.2 1 (by omega) (by omega))
  obtain ⟨k3,her⟩:=Ev.rounds (show Ev (fun k => @laws_eqTerm.f (i_eq n) k r.f0 r.f1 r.f2 r.f3 r.f0 r.f1 r.f2 r.f3) true from eq_ev (n + 1) r (by omega) (by omega))
  obtain ⟨k4,het⟩:=Ev.rounds (show Ev (fun k => @laws_eqTerm.f (i_eq n) k (to29 t).f0 (to29 t).f1 (to29 t).f2 (to29 t).f3 (to29 t).f0 (to29 t).f1 (to29 t).f2 (to29 t).f3) true from eq_ev (n + 1) (to29 t) (by omega) (by omega))
  obtain ⟨k6,hsp⟩:=Ev.rounds (spec_sh by_ (to29 t) n (by omega) (by omega) hnm)
  have him:=fun A c W h1 h2 => impl_sh (to29 t) by_ (by omega) hnm A c W h1 h2
  have hyl : (mks29 mtx r.f3 1).length = r.f3.length:=mks29_length _ _ _
  have ht3 : (to29 t).f3 = tos29 t.f3:=by rw [to29_eq]
  have ht0 : (to29 t).f0 = t.f0:=by rw [to29_eq]
  have ht1 : (to29 t).f1 = t.f1:=by rw [to29_eq]
  have ht2 : (to29 t).f2 = t.f2:=by rw [to29_eq]
  rw [← hr] at hsp him
  rw [ht0,ht1,ht2] at het hsp him
  rw [ht3] at het hmT hxt hsp him
  refine sh_walk t by_ A_T c_T (1048576 - wt24 t) (1 + 3 * (cns29 r.f3 : Int)) (1 + 3 * (cns29 (tos29 t.f3) : Int)) r.f0 r.f2 r.f1 r.f3 (mks29 mtx r.f3 1) (tos29 t.f3) (mks29 mtx (tos29 t.f3) 1) w (by omega) (by omega) (by omega) hlT hCT ?_ ?_ ?_ ?_ ?_ ?_ ?_ ?_ ?_
  ·intro W A c h1 h2
   exact laws_szTerm.calls k1 t.f0 t.f1 t.f2 A c t.f3 _ _ W h2 h1 hst
  ·intro W A c h1 h2
   exact hTT A c W h2 h1
  ·intro W A c h1 h2
   refine (spec_Shifted.calls k6 t.f0 t.f1 t.f2 A c (tos29 t.f3) by_ r.f0 r.f1 r.f2 r.f3 W h2 h1 hsp).mono fun e W' => ?_
   rintro ⟨v,rfl,ho,hb⟩
   exact ⟨v,rfl,Kd.V_mono (Kd.R_V (base':=0) (Kd.R_bound ho)) (fun k_ hk_ => hk_.2.1),hb⟩
  ·intro W A c h1 h2
   exact him A c W h2 h1
  ·intro W A c B d h1 h2 h3 h4
   exact laws_eqTerm.calls k3 r.f0 r.f1 r.f2 A c r.f3 r.f0 r.f1 r.f2 B d r.f3 true W h2 h1 h4 h3 her
  ·intro W A c B d h1 h2 h3 h4
   exact laws_eqTerm.calls k4 t.f0 t.f1 t.f2 A c (tos29 t.f3) t.f0 t.f1 t.f2 B d (tos29 t.f3) true W h2 h1 h4 h3 het
  ·intro W base ok A c h1 h2
   exact markTerm_calls mtx _ hmT t.f0 t.f1 t.f2 A c 1 W base ok (by omega) (by omega) h1 h2
  ·intro W base ok A c h1 h2
   exact markTerm_calls mtx _ hmR r.f0 r.f1 r.f2 A c 1 W base ok (by omega) (by omega) h1 h2
  ·intro W A c h1 h2
   have:=laws_heldTerm.calls k2 r.f0 r.f1 r.f2 A c (mks29 mtx r.f3 1) 1 (1 + 3 * (cns29 r.f3 : Int)) W (by rw [hyl];exact h2) (by omega) (by unfold laws_heldTerm.f;rw [hd];simp only [Option.bind_some];rw [if_neg (by omega)])
   rw [hyl] at this
   exact this
 ·have e2 : szr (wt24 t) 1048576 = -1:=by unfold szr;rw [if_neg (by omega)]
  rw [e2] at hst
  refine sh_big1 t by_ A_T c_T (-1) w (by omega) hlT hCT ?_
  intro W A c h1 h2
  exact laws_szTerm.calls k1 t.f0 t.f1 t.f2 A c t.f3 _ _ W h2 h1 hst
end Go.Proofs.Ytojedbogbodkiaa.KSh
