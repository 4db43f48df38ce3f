/- Of this claim's own making;what nothing names is struck (fewall.py). -/
import Derived.Test.YtojedbogbodkiaaDoorKAdx10
import Derived.Test.YtojedbogbodkiaaDoorAdA
import Derived.Test.YtojedbogbodkiaaDoorKS
set_option linter.unusedVariables false
set_option linter.unusedSimpArgs false
namespace Go.Proofs.YtojedbogbodkiaaDoor.KAd
open Go.RowKit Go.Proofs.YtojedbogbodkiaaDoorW.PrintWords Go.Proofs.YtojedbogbodkiaaDoorW.PrintLast Go.Proofs.YtojedbogbodkiaaDoorW.PrintMore
def Kd.pk {α : Type} (d : Kd α) (w0 : World) : Kd α where
 sz:=d.sz
 E:=[]
 K:=fun _ x c => d.K w0 x c
 M:=fun _ _ _ x c => d.K w0 x c
 K_len:=d.K_len
 K_one:=d.K_one
 K_below:=fun _ h => h
 K_of_M:=fun h => h
 M_mono:=fun _ h => h
 M_bound:=fun h => h
 M_move:=fun _ h => h
 M_lower:=fun _ h => h
theorem pk_C {α : Type} {d : Kd α} {w0 W : World} {A : Option Addr} {n : Nat} {xs : List α} (h : (Kd.pk d w0).C W A n xs) (hb : Below w0.heap.size w0 W) : d.C W A n xs :=
 ⟨h.1,h.2.1,fun hn => by
  obtain ⟨ad,e,hc⟩:=h.2.2 hn
  refine ⟨ad,e,fun j p hp => ?_⟩
  obtain ⟨c,h1,h2,h3⟩:=hc j p hp
  exact ⟨c,h1,d.K_below hb h2,h3⟩⟩
theorem C_pk {α : Type} {d : Kd α} {w0 W : World} {A : Option Addr} {n : Nat} {xs : List α} (h : d.C w0 A n xs) (hb : Below w0.heap.size w0 W) : (Kd.pk d w0).C W A n xs :=
 ReadsRow.imp_ (R:=d.K w0) (R':=d.K w0) h hb (fun _ _ hp => hp)
theorem rr_C {α : Type} {d : Kd α} {e b : Nat} {W : World} {ok : Nat → Prop} {A : Option Addr} {n c : Nat} {xs : List α} (h : (As.rrow d e (.slice A n c) xs).M b W ok) : n ≤ c ∧ d.C W A n xs:=by
 obtain ⟨h1,h2,h3⟩:=Kd.R_reads' h
 rw [h1]
 exact ⟨by omega,h3⟩
section
variable {w u W : World} {ok : Nat → Prop} {os : List As} {P : Program} {ops : Array Oper} {o : Oper} {a : Act} {Q : Exit → Act → World → Prop} {Kc : Act → World → Prop} {α : Type}
theorem Run.rowsStep (h : Run w u ok os W) (i : Nat) (d : Kd α) {Rr : α → List Value → Prop} {e : Nat} {v : Value} {xs ys : List α} {A : Option Addr} {m c : Nat} (hi : os[i]? = some (As.rrow d e v xs)) (hw : Region.wanted o (yielded ops a.tmps) = true) (s x : Operand) (t : TypeId) (z : Value) (bytes : Nat)
  (ho : o.op = .call { callee:=.builtin .append,args:=#[s,x],argTypes:=#[t,t] }) (ht : P.underlying t = some (.slice e)) (hinfo : (P.info? e).map (fun i => (i.zero,i.size,i.bytes)) = some (some z,d.sz,bytes)) (hz : z.cells.size = d.sz) (hs0 : 0 < d.sz) (hb0 : 0 < bytes)
  (hs : a.eval s = v) (hx : a.eval x = .slice A m c) (HR : ReadsRow Rr d.sz W A m ys) (hKM : ∀ x cs,Rr x cs → d.M W w.heap.size (fun _ => False) x cs) (hl : (xs.length + m) * bytes ≤ 140737488355328)
  (K : ∀ v1 w1,Run w u ok (os.set i (As.rrow d e v1 (xs ++ ys))) w1 → Kc (a.put o.dst v1) w1) : if Region.wanted o (yielded ops a.tmps) = true then Oper.wp P o a W Kc Q else Kc (a.put o.dst undef) W:=by
 obtain ⟨oki,g1,hlo,hput⟩:=h.all i hi
 have hv : ∀ k,v.ownBlock = some k → oki k:=fun k hk => g1.1 k hk
 refine Kd.R_append_rows_step d (w0:=W) w.heap.size hw s x t e z bytes ho ht hinfo hz hs0 hb0 v xs ys A m c (fun k => oki k ∨ W.heap.size ≤ k) (fun _ => False) hs hx (Kd.R_mono g1 (fun k hk => .inl hk)) HR hKM (fun _ h => h.elim) (fun k hk => .inr hk) (Below.refl _ _) h.ww hl ?_
 intro v1 w1 hS hB hg _
 exact K v1 w1 (hput w1 (As.rrow d e v1 (xs ++ ys)) hB ⟨hg.size,fun k hk hn => hg.block k hk (fun e_ => hn (hv k e_.symm))⟩ hS)
end
theorem below_setCells {b : Nat} {W W' : World} (h : Below b W W') {g : Nat} (hg : b ≤ g) (vs : List Value) : Below b W (W'.setCells g 0 vs):=by
 obtain ⟨e1,e2,e3,e4⟩:=setCells_same g vs 0 W'
 exact ⟨e1.trans h.os,e2.trans h.tape,e3.trans h.output,by rw [e4];exact h.size,fun k hk => (setCells_far vs 0 (w:=W') k (fun e => by omega)).trans (h.block k hk)⟩
section
set_option linter.unusedSectionVars false
variable [fk_laws_szTerm] [fk_laws_eqTerm] [fk_spec_l34Term] [fk_strconv_Itoa]
def cpy1_T : Bool × List (List Nat × List Nat):=(true,[([],[]),([],[]),([1],[1]),([0,2],[0,2]),([],[]),([],[]),([5],[5]),([4,6,3],[4,6]),([3,7],[3,7]),([8,7,0,1,2,3,4,5,6,7,8],[8])])
def cpy1_B : List Nat:=[0,0,2,7,0,0,32,127,255,511]
theorem cpy1_tab : rtab .any (opsOf Tryd.f91 1) = cpy1_T:=by kernel_rfl
theorem cpy1_bits : waitsOk cpy1_T.2 cpy1_B = true:=by kernel_rfl
set_option maxHeartbeats 16000000 in
set_option maxRecDepth 100000 in
theorem cpyRaw (w0 : World) (xs : List S48) (os : List ByteArray) (hlen : xs.length ≤ 1048576) (hlo : os.length ≤ 1048576) (A : Option Addr) (c : Nat) (B : Option Addr) (d : Nat) (w : World) (hB : Below w0.heap.size w0 w) (hC : Kd.C k48 w0 A xs.length xs) (hc : xs.length ≤ c) (hD : Kd.C Kd.string w0 B os.length os) (hd : os.length ≤ d) :
  Calls Tryd.prog 91 #[.agg #[.slice A xs.length c,.slice B os.length d]] w fun e w' => ∃ A c B d,e = .returned (.agg #[.slice A xs.length c,.slice B os.length d]) ∧ (As.star (As.rrow (Kd.pk k48 w0) 48 (.slice A xs.length c) xs) (As.rrow Kd.string 9 (.slice B os.length d) os)).M w.heap.size w' (fun k => w.heap.size ≤ k) ∧ Below w.heap.size w w':=by
 have HC:=asd hC
 have HCC:=asd hc
 have HD:=asd hD
 have HDD:=asd hd
 have HL:=asd hlen
 have HLO:=asd hlo
 have HB0:=asd hB
 have HR:=asd (run_law w)
 clear hC hc hD hd hlen hlo hB
 go_enter Tryd.func91,Tryd.ntmps91
 go_wp2_with (first
  | ((with_reducible refine gate_dst (N:=1) rfl ?_);refine box_event ?hg1 (N:=1) ?hd1 (cs:=#[.slice A xs.length c,.slice B os.length d]) (t:=41) ?hr1 ?_;(case hd1 => rfl);(case hg1 => rfl);(case hr1 => first | (go_simp;done) | (go_simp;rfl));intro ga hg w1 hbox hb;replace HR:=asd (HR.out.box hg hb hbox);clear hg hbox hb)
  | ((with_reducible refine gate_dst (N:=2) rfl ?_);refine box_event ?hg2 (N:=2) ?hd2 (cs:=#[.slice none 0 0,.slice none 0 0]) (t:=41) ?hr2 ?_;(case hd2 => rfl);(case hg2 => rfl);(case hr2 => first | (go_simp;done) | (go_simp;rfl));intro gr hg w2 hbox hb;replace HR:=asd (HR.out.box hg hb hbox);clear hg hbox hb;have hc2_ga_0 : w2.cell? ⟨ga,0,none⟩ = some (.slice A xs.length c):=HR.out.cell 1 rfl 0 rfl;have hc2_ga_1 : w2.cell? ⟨ga,1,none⟩ = some (.slice B os.length d):=HR.out.cell 1 rfl 1 rfl))
 replace HR:=asd (HR.out.drew)
 clear hc2_ga_0 hc2_ga_1
 refine start_ (n:=10) (S:=fun w' => w'.cell? ⟨ga,0,none⟩ = some (.slice A xs.length c) ∧ w'.cell? ⟨ga,1,none⟩ = some (.slice B os.length d)) (ds:=[9]) #[false,false,false,false,false,false,false,false,false,false] (by kernel_rfl) rfl rfl ⟨HR.out.cell 1 rfl 0 rfl,HR.out.cell 1 rfl 1 rfl⟩ (fun hHeld => ?_);refine with_tabW cpy1_tab cpy1_bits (fun HT_ HW_ => ?_)
 generalize w2.drew = w3 at HR hHeld ⊢
 refine pure_ (i:=1) (N:=some 4) (v:=?_) (a':=?_) #[false,true,false,false,false,false,false,false,false,false] rfl rfl (any_of HT_.out (by kernel_rfl)) (fun _ _ _ h => h) (Or.inl ⟨by rfl,?_⟩) ?_ ?_
 rotate_left
 ·intro w'
  go_simp
  with_reducible rfl
 rotate_left
 ·simp only [Act.put,List.setIfInBounds_toArray,List.set_cons_zero,List.set_cons_succ,i64_w,i32_w]
  rfl
 refine pure_ (i:=5) (N:=some 8) (v:=?_) (a':=?_) #[false,true,false,false,false,true,false,false,false,false] rfl rfl (any_of HT_.out (by kernel_rfl)) (fun _ _ _ h => h) (Or.inl ⟨by rfl,?_⟩) ?_ ?_
 rotate_left
 ·intro w'
  go_simp
  with_reducible rfl
 rotate_left
 ·simp only [Act.put,List.setIfInBounds_toArray,List.set_cons_zero,List.set_cons_succ,i64_w,i32_w]
  rfl
 refine take_ (i:=2) (N:=some 5) (v:=?_) (a':=?_) #[false,true,true,false,false,true,false,false,false,false] rfl rfl (take_ofW HT_.out HW_.out (by kernel_rfl)) (fun _ _ _ h => h) (Or.inl ⟨by rfl,?_⟩) hHeld ?_ ?_
 rotate_left
 ·rintro w' ⟨s0,s1⟩
  go_simp
  with_reducible rfl
 rotate_left
 ·simp only [Act.put,List.setIfInBounds_toArray,List.set_cons_zero,List.set_cons_succ,i64_w,i32_w]
  rfl
 refine take_ (i:=6) (N:=some 9) (v:=?_) (a':=?_) #[false,true,true,false,false,true,true,false,false,false] rfl rfl (take_ofW HT_.out HW_.out (by kernel_rfl)) (fun _ _ _ h => h) (Or.inl ⟨by rfl,?_⟩) hHeld ?_ ?_
 rotate_left
 ·rintro w' ⟨s0,s1⟩
  go_simp
  with_reducible rfl
 rotate_left
 ·simp only [Act.put,List.setIfInBounds_toArray,List.set_cons_zero,List.set_cons_succ,i64_w,i32_w]
  rfl
 refine join_ (σ:=Option Addr × Nat × Option Addr × Nat × Option Addr × Nat) 3 #[true,true,true,true,true,true,true,false,false,false] (fun s => let ⟨A3,c3,A6,c6,A7,c7⟩:=s;[(3,.slice A3 0 c3),(6,.slice A6 xs.length c6),(7,.slice A7 0 c7)]) (fun s w' => let ⟨A3,c3,A6,c6,A7,c7⟩:=s;Run w w (fun _ => False) [As.rrow Kd.string 9 (.slice A7 0 c7) [],As.rrow (Kd.pk k48 w0) 48 (.slice A6 xs.length c6) xs,As.box gr 41 #[.slice none 0 0,.slice none 0 0],As.box ga 41 #[.slice A xs.length c,.slice B os.length d]] w') ?_ ?_
 rotate_left
 ·intro hCont
  refine two_ (i:=0) (j:=4) (Ni:=some 3) (Nj:=some 7) #[true,true,true,false,false,true,true,false,false,false] #[false,true,true,false,true,true,true,false,false,false] rfl rfl rfl rfl (two_of HT_.out (by kernel_rfl)) (by decide) (by decide) (fun K hK => ?_) (fun K hK => ?_)
  ·skip
   refine Kd.R_lit_step (Kd.pk k48 w0) (w0:=w3) w3.heap.size 48 ?hg (N:=3) ?hd (xs:=[]) (inner:=[]) (ok:=fun k_ => w3.heap.size ≤ k_) (okp:=fun _ => False) ?hr ?hp (fun _ h => h.elim) (Nat.le_refl _) (Below.refl _ _) (Nat.le_refl _) (by simp) ?_
   (case hd => rfl)
   (case hg => rfl)
   (case hr => first|(go_simp;done)|(go_simp;rfl))
   (case hp => exact (Reps.none _ _))
   intro v_ w4 ho hb hg_ hn_
   obtain ⟨A3,c3,hv_⟩ : ∃ A_ c_,v_ = .slice A_ 0 c_:=Kd.R_slice ho
   subst hv_
   replace HR:=asd (HR.out.push (As.rrow (Kd.pk k48 w0) 48 (.slice A3 0 c3) []) hb ho)
   clear ho hb hg_ hn_
   refine hK.out _ _ ⟨HR.out.cell 2 rfl 0 rfl,HR.out.cell 2 rfl 1 rfl⟩ (fun hHeld => ?_)
   clear hK K
   refine norm_ (a':=?_) ?_ ?_
   rotate_left
   ·show Act.put _ (some 3) _ = _
    simp only [Act.put,List.setIfInBounds_toArray,List.set_cons_zero,List.set_cons_succ,i64_w,i32_w]
    rfl
   refine two_ (i:=3) (j:=4) (Ni:=some 6) (Nj:=some 7) #[true,true,true,true,false,true,true,false,false,false] #[true,true,true,false,true,true,true,false,false,false] rfl rfl rfl rfl (two_of HT_.out (by kernel_rfl)) (by decide) (by decide) (fun K hK => ?_) (fun K hK => ?_)
   ·skip
    refine HR.out.rowsStep 0 (Kd.pk k48 w0) rfl (by rfl) (.tmp 3) (.tmp 5) 39 (.agg #[(.int .i64 0),(.string ⟨#[]⟩),(.int .i64 0),(.slice none 0 0),(.int .i64 0),(.string ⟨#[]⟩),(.int .i64 0),(.slice none 0 0),(.string ⟨#[]⟩)]) 128 rfl Tryd.underlying39 info48 rfl (show 0 < 9 by decide) (by omega) rfl rfl (C_pk HC.out (below_then HB0.out HB0.out.size HR.out.bel)) (fun _ _ h => h) (by have h1_:=HL.out;simp only [List.length_nil];omega) ?_
    intro v_ w5 hq_
    rw [List.nil_append] at hq_
    obtain ⟨A6,c6,rfl⟩:=Kd.R_slice (hq_.has 0 rfl)
    clear HR
    have HR:=asd hq_
    clear hq_
    refine hK.out _ _ ⟨HR.out.cell 2 rfl 0 rfl,HR.out.cell 2 rfl 1 rfl⟩ (fun hHeld => ?_)
    clear hK K
    refine norm_ (a':=?_) ?_ ?_
    rotate_left
    ·show Act.put _ (some 6) _ = _
     simp only [Act.put,List.setIfInBounds_toArray,List.set_cons_zero,List.set_cons_succ,i64_w,i32_w]
     rfl
    refine one_ (i:=4) (N:=some 7) #[true,true,true,true,true,true,true,false,false,false] rfl rfl (one_of HT_.out (by kernel_rfl)) (by decide) (fun K hK => ?_)
    refine Kd.R_lit_step Kd.string (w0:=w5) w5.heap.size 9 ?hg (N:=7) ?hd (xs:=[]) (inner:=[]) (ok:=fun k_ => w5.heap.size ≤ k_) (okp:=fun _ => False) ?hr ?hp (fun _ h => h.elim) (Nat.le_refl _) (Below.refl _ _) (Nat.le_refl _) (by simp) ?_
    (case hd => rfl)
    (case hg => rfl)
    (case hr => first|(go_simp;done)|(go_simp;rfl))
    (case hp => exact (Reps.none _ _))
    intro v_ w6 ho hb hg_ hn_
    obtain ⟨A7,c7,hv_⟩ : ∃ A_ c_,v_ = .slice A_ 0 c_:=Kd.R_slice ho
    subst hv_
    replace HR:=asd (HR.out.push (As.rrow Kd.string 9 (.slice A7 0 c7) []) hb ho)
    clear ho hb hg_ hn_
    refine hK.out _ _ ⟨HR.out.cell 3 rfl 0 rfl,HR.out.cell 3 rfl 1 rfl⟩ (fun hHeld => ?_)
    clear hK K
    refine norm_ (a':=?_) ?_ ?_
    rotate_left
    ·show Act.put _ (some 7) _ = _
     simp only [Act.put,List.setIfInBounds_toArray,List.set_cons_zero,List.set_cons_succ,i64_w,i32_w]
     rfl
    exact norm_ (by simp only [putAll,Act.put,List.setIfInBounds_toArray,List.set_cons_zero,List.set_cons_succ]) (hCont (A3,c3,A6,c6,A7,c7) _ HR.out)
   ·skip
    refine Kd.R_lit_step Kd.string (w0:=w4) w4.heap.size 9 ?hg (N:=7) ?hd (xs:=[]) (inner:=[]) (ok:=fun k_ => w4.heap.size ≤ k_) (okp:=fun _ => False) ?hr ?hp (fun _ h => h.elim) (Nat.le_refl _) (Below.refl _ _) (Nat.le_refl _) (by simp) ?_
    (case hd => rfl)
    (case hg => rfl)
    (case hr => first|(go_simp;done)|(go_simp;rfl))
    (case hp => exact (Reps.none _ _))
    intro v_ w5 ho hb hg_ hn_
    obtain ⟨A7,c7,hv_⟩ : ∃ A_ c_,v_ = .slice A_ 0 c_:=Kd.R_slice ho
    subst hv_
    replace HR:=asd (HR.out.push (As.rrow Kd.string 9 (.slice A7 0 c7) []) hb ho)
    clear ho hb hg_ hn_
    refine hK.out _ _ ⟨HR.out.cell 3 rfl 0 rfl,HR.out.cell 3 rfl 1 rfl⟩ (fun hHeld => ?_)
    clear hK K
    refine norm_ (a':=?_) ?_ ?_
    rotate_left
    ·show Act.put _ (some 7) _ = _
     simp only [Act.put,List.setIfInBounds_toArray,List.set_cons_zero,List.set_cons_succ,i64_w,i32_w]
     rfl
    refine one_ (i:=3) (N:=some 6) #[true,true,true,true,true,true,true,false,false,false] rfl rfl (one_of HT_.out (by kernel_rfl)) (by decide) (fun K hK => ?_)
    refine HR.out.rowsStep 1 (Kd.pk k48 w0) rfl (by rfl) (.tmp 3) (.tmp 5) 39 (.agg #[(.int .i64 0),(.string ⟨#[]⟩),(.int .i64 0),(.slice none 0 0),(.int .i64 0),(.string ⟨#[]⟩),(.int .i64 0),(.slice none 0 0),(.string ⟨#[]⟩)]) 128 rfl Tryd.underlying39 info48 rfl (show 0 < 9 by decide) (by omega) rfl rfl (C_pk HC.out (below_then HB0.out HB0.out.size HR.out.bel)) (fun _ _ h => h) (by have h1_:=HL.out;simp only [List.length_nil];omega) ?_
    intro v_ w6 hq_
    rw [List.nil_append] at hq_
    obtain ⟨A6,c6,rfl⟩:=Kd.R_slice (hq_.has 1 rfl)
    clear HR
    have HR:=asd hq_
    clear hq_
    refine hK.out _ _ ⟨HR.out.cell 3 rfl 0 rfl,HR.out.cell 3 rfl 1 rfl⟩ (fun hHeld => ?_)
    clear hK K
    refine norm_ (a':=?_) ?_ ?_
    rotate_left
    ·show Act.put _ (some 6) _ = _
     simp only [Act.put,List.setIfInBounds_toArray,List.set_cons_zero,List.set_cons_succ,i64_w,i32_w]
     rfl
    exact norm_ (by simp only [putAll,Act.put,List.setIfInBounds_toArray,List.set_cons_zero,List.set_cons_succ]) (hCont (A3,c3,A6,c6,A7,c7) _ HR.out)
  ·skip
   refine Kd.R_lit_step Kd.string (w0:=w3) w3.heap.size 9 ?hg (N:=7) ?hd (xs:=[]) (inner:=[]) (ok:=fun k_ => w3.heap.size ≤ k_) (okp:=fun _ => False) ?hr ?hp (fun _ h => h.elim) (Nat.le_refl _) (Below.refl _ _) (Nat.le_refl _) (by simp) ?_
   (case hd => rfl)
   (case hg => rfl)
   (case hr => first|(go_simp;done)|(go_simp;rfl))
   (case hp => exact (Reps.none _ _))
   intro v_ w4 ho hb hg_ hn_
   obtain ⟨A7,c7,hv_⟩ : ∃ A_ c_,v_ = .slice A_ 0 c_:=Kd.R_slice ho
   subst hv_
   replace HR:=asd (HR.out.push (As.rrow Kd.string 9 (.slice A7 0 c7) []) hb ho)
   clear ho hb hg_ hn_
   refine hK.out _ _ ⟨HR.out.cell 2 rfl 0 rfl,HR.out.cell 2 rfl 1 rfl⟩ (fun hHeld => ?_)
   clear hK K
   refine norm_ (a':=?_) ?_ ?_
   rotate_left
   ·show Act.put _ (some 7) _ = _
    simp only [Act.put,List.setIfInBounds_toArray,List.set_cons_zero,List.set_cons_succ,i64_w,i32_w]
    rfl
   refine one_ (i:=0) (N:=some 3) #[true,true,true,false,true,true,true,false,false,false] rfl rfl (one_of HT_.out (by kernel_rfl)) (by decide) (fun K hK => ?_)
   refine Kd.R_lit_step (Kd.pk k48 w0) (w0:=w4) w4.heap.size 48 ?hg (N:=3) ?hd (xs:=[]) (inner:=[]) (ok:=fun k_ => w4.heap.size ≤ k_) (okp:=fun _ => False) ?hr ?hp (fun _ h => h.elim) (Nat.le_refl _) (Below.refl _ _) (Nat.le_refl _) (by simp) ?_
   (case hd => rfl)
   (case hg => rfl)
   (case hr => first|(go_simp;done)|(go_simp;rfl))
   (case hp => exact (Reps.none _ _))
   intro v_ w5 ho hb hg_ hn_
   obtain ⟨A3,c3,hv_⟩ : ∃ A_ c_,v_ = .slice A_ 0 c_:=Kd.R_slice ho
   subst hv_
   replace HR:=asd (HR.out.push (As.rrow (Kd.pk k48 w0) 48 (.slice A3 0 c3) []) hb ho)
   clear ho hb hg_ hn_
   refine hK.out _ _ ⟨HR.out.cell 3 rfl 0 rfl,HR.out.cell 3 rfl 1 rfl⟩ (fun hHeld => ?_)
   clear hK K
   refine norm_ (a':=?_) ?_ ?_
   rotate_left
   ·show Act.put _ (some 3) _ = _
    simp only [Act.put,List.setIfInBounds_toArray,List.set_cons_zero,List.set_cons_succ,i64_w,i32_w]
    rfl
   refine one_ (i:=3) (N:=some 6) #[true,true,true,true,true,true,true,false,false,false] rfl rfl (one_of HT_.out (by kernel_rfl)) (by decide) (fun K hK => ?_)
   refine HR.out.rowsStep 0 (Kd.pk k48 w0) rfl (by rfl) (.tmp 3) (.tmp 5) 39 (.agg #[(.int .i64 0),(.string ⟨#[]⟩),(.int .i64 0),(.slice none 0 0),(.int .i64 0),(.string ⟨#[]⟩),(.int .i64 0),(.slice none 0 0),(.string ⟨#[]⟩)]) 128 rfl Tryd.underlying39 info48 rfl (show 0 < 9 by decide) (by omega) rfl rfl (C_pk HC.out (below_then HB0.out HB0.out.size HR.out.bel)) (fun _ _ h => h) (by have h1_:=HL.out;simp only [List.length_nil];omega) ?_
   intro v_ w6 hq_
   rw [List.nil_append] at hq_
   obtain ⟨A6,c6,rfl⟩:=Kd.R_slice (hq_.has 0 rfl)
   clear HR
   have HR:=asd hq_
   clear hq_
   refine hK.out _ _ ⟨HR.out.cell 3 rfl 0 rfl,HR.out.cell 3 rfl 1 rfl⟩ (fun hHeld => ?_)
   clear hK K
   refine norm_ (a':=?_) ?_ ?_
   rotate_left
   ·show Act.put _ (some 6) _ = _
    simp only [Act.put,List.setIfInBounds_toArray,List.set_cons_zero,List.set_cons_succ,i64_w,i32_w]
    rfl
   exact norm_ (by simp only [putAll,Act.put,List.setIfInBounds_toArray,List.set_cons_zero,List.set_cons_succ]) (hCont (A3,c3,A6,c6,A7,c7) _ (HR.out.pick [1,0,2,3] (by decide)))
 rintro ⟨A3,c3,A6,c6,A7,c7⟩ w7 hR_
 clear HR
 have HR:=asd (show Run w w (fun _ => False) [As.rrow Kd.string 9 (.slice A7 0 c7) [],As.rrow (Kd.pk k48 w0) 48 (.slice A6 xs.length c6) xs,As.box gr 41 #[.slice none 0 0,.slice none 0 0],As.box ga 41 #[.slice A xs.length c,.slice B os.length d]] w7 from hR_)
 clear hR_
 refine norm_ (a':=?_) ?_ ?_
 rotate_left
 ·simp only [putAll,Act.put,List.setIfInBounds_toArray,List.set_cons_zero,List.set_cons_succ]
  rfl
 refine one_ (i:=7) (N:=some 10) #[true,true,true,true,true,true,true,true,false,false] rfl rfl (one_of HT_.out (by kernel_rfl)) (by decide) (fun K hK => ?_)
 refine HR.out.rowsStep 0 Kd.string rfl (by rfl) (.tmp 7) (.tmp 9) 34 (.string ⟨#[]⟩) 16 rfl Tryd.underlying34 info9 rfl (by decide) (by omega) rfl rfl (Kd.C_below HD.out (below_then HB0.out HB0.out.size HR.out.bel)) (fun _ _ h => h) (by have h1_:=HLO.out;simp only [List.length_nil];omega) ?_
 intro v_ w8 hq_
 rw [List.nil_append] at hq_
 obtain ⟨A10,c10,rfl⟩:=Kd.R_slice (hq_.has 0 rfl)
 clear HR
 have HR:=asd hq_
 clear hq_
 refine hK.out _ _ ⟨HR.out.cell 3 rfl 0 rfl,HR.out.cell 3 rfl 1 rfl⟩ (fun hHeld => ?_)
 clear hK K
 refine norm_ (a':=?_) ?_ ?_
 rotate_left
 ·show Act.put _ (some 10) _ = _
  simp only [Act.put,List.setIfInBounds_toArray,List.set_cons_zero,List.set_cons_succ,i64_w,i32_w]
  rfl
 refine pure_ (i:=8) (N:=some 11) (v:=?_) (a':=?_) #[true,true,true,true,true,true,true,true,true,false] rfl rfl (any_of HT_.out (by kernel_rfl)) (fun _ _ _ h => h) (Or.inl ⟨by rfl,?_⟩) ?_ ?_
 rotate_left
 ·intro w'
  go_simp
  with_reducible rfl
 rotate_left
 ·simp only [Act.put,List.setIfInBounds_toArray,List.set_cons_zero,List.set_cons_succ,i64_w,i32_w]
  rfl
 refine last_ (i:=9) (N:=none) #[true,true,true,true,true,true,true,true,true,true] rfl rfl (one_of HT_.out (by kernel_rfl)) (by decide) (fun K hK => ?_)
 have hz0_ : w8.cell? ⟨gr,0,none⟩ = some (.slice none 0 0):=HR.out.cell 2 rfl 0 rfl
 have fz0_:=HR.out.free 2 rfl 0
 have hz1_ : w8.cell? ⟨gr,1,none⟩ = some (.slice none 0 0):=HR.out.cell 2 rfl 1 rfl
 have fz1_:=HR.out.free 2 rfl 1
 refine skip_ (w1:=w8.setCells gr 0 [.slice A6 xs.length c6,.slice A10 os.length c10]) (by rfl) rfl ?_ ?_
 ·first|(go_simp;done)|(go_simp;rfl)
 refine hK.out _ _ ?_
 clear hK K hz0_ fz0_ hz1_ fz1_
 replace HR:=asd (HR.out.store 2 rfl [.slice A6 xs.length c6,.slice A10 os.length c10] rfl)
 generalize w8.setCells gr 0 [.slice A6 xs.length c6,.slice A10 os.length c10] = w9 at HR ⊢
 refine done_ (done_of HT_.out (by kernel_rfl)) ?_
 try go_wp2
 refine bodyPost_ret (results_cell_row rfl _ _ gr 41 #[.slice A6 xs.length c6,.slice A10 os.length c10] (0,0) _ rfl (HR.out.has 2 rfl).2 Tryd.underlying41 rfl (by kernel_rfl)) rfl ?_
 exact ⟨_,_,_,_,rfl,As.mono _ (fun k hk => hk.elim False.elim id) (HR.out.two 1 0 rfl rfl (by decide)),HR.out.bel⟩
def MadeDR (ys : List S48) (os : List ByteArray) (b : Bool) (W : World) (e : Ending) (W' : World) : Prop:=∃ A c B d,e = .returned (.tuple #[.agg #[.slice A ys.length c,.slice B os.length d],.bool b]) ∧ (ys.length ≤ c ∧ Kd.C k48 W' A ys.length ys ∧ os.length ≤ d ∧ Kd.C Kd.string W' B os.length os) ∧ Below W.heap.size W W'
set_option maxHeartbeats 16000000 in
set_option maxRecDepth 100000 in
theorem raw_ok (xs : List S48) (os : List ByteArray) (x : S48) (hlen : xs.length ≤ 1048576) (hlo : os.length ≤ 1048576) (A : Option Addr) (c : Nat) (B : Option Addr) (d : Nat) (A5 : Option Addr) (c5 : Nat) (A6 : Option Addr) (c6 : Nat) (w : World) (hC : Kd.C k48 w A xs.length xs) (hc : xs.length ≤ c) (hD : Kd.C Kd.string w B os.length os) (hd : os.length ≤ d) (h5 : Kd.C k29 w A5 x.f0.f3.length x.f0.f3) (l5 : x.f0.f3.length ≤ c5) (h6 : Kd.C k29 w A6 x.f1.f3.length x.f1.f3) (l6 : x.f1.f3.length ≤ c6)
  (hok : ∀ (l : List S48),l = xs ++ [x] → ∀ (W : World) (A : Option Addr) (c : Nat) (B : Option Addr) (d : Nat),Below w.heap.size w W → Kd.C k48 W A l.length l → l.length ≤ c → Kd.C Kd.string W B os.length os → os.length ≤ d → Calls Tryd.prog 20 #[.agg #[.slice A l.length c,.slice B os.length d]] W fun e W' => e = .returned (.bool true) ∧ Below W.heap.size W W') :
  Calls Tryd.prog 70 #[.agg #[.slice A xs.length c,.slice B os.length d],.agg #[.int .i64 x.f0.f0,.string x.f0.f1,.int .i64 x.f0.f2,.slice A5 x.f0.f3.length c5,.int .i64 x.f1.f0,.string x.f1.f1,.int .i64 x.f1.f2,.slice A6 x.f1.f3.length c6,.string x.f2]] w fun e w' => MadeDR (xs ++ [x]) os true w e w':=by
 have HC:=asd hC
 have HCC:=asd hc
 have HD:=asd hD
 have HDD:=asd hd
 have HL:=asd hlen
 have HLO:=asd hlo
 have HK:=asd (k48_mk w x l5 h5 l6 h6)
 have HOK:=asd hok
 have HR:=asd (run_law w)
 clear hC hc hD hd hlen hlo h5 l5 h6 l6 hok
 go_enter Tryd.func70,Tryd.ntmps70
 go_wp2_with (first
  | ((with_reducible refine gate_dst (N:=2) rfl ?_);refine box_event ?hg2 (N:=2) ?hd2 (cs:=#[.slice A xs.length c,.slice B os.length d]) (t:=41) ?hr2 ?_;(case hd2 => rfl);(case hg2 => rfl);(case hr2 => first | (go_simp;done) | (go_simp;rfl));intro gd hg w1 hbox hb;replace HR:=asd (HR.out.box hg hb hbox);clear hg hbox hb)
  | ((with_reducible refine gate_dst (N:=3) rfl ?_);refine box_event ?hg3 (N:=3) ?hd3 (cs:=#[.int .i64 x.f0.f0,.string x.f0.f1,.int .i64 x.f0.f2,.slice A5 x.f0.f3.length c5,.int .i64 x.f1.f0,.string x.f1.f1,.int .i64 x.f1.f2,.slice A6 x.f1.f3.length c6,.string x.f2]) (t:=48) ?hr3 ?_;(case hd3 => rfl);(case hg3 => rfl);(case hr3 => first | (go_simp;done) | (go_simp;rfl));intro gc hg w2 hbox hb;replace HR:=asd (HR.out.box hg hb hbox);clear hg hbox hb)
  | ((with_reducible refine gate_dst (N:=4) rfl ?_);refine box_event ?hg4 (N:=4) ?hd4 (cs:=#[.slice none 0 0,.slice none 0 0]) (t:=41) ?hr4 ?_;(case hd4 => rfl);(case hg4 => rfl);(case hr4 => first | (go_simp;done) | (go_simp;rfl));intro gr hg w3 hbox hb;replace HR:=asd (HR.out.box hg hb hbox);clear hg hbox hb;have hc3_gd_0 : w3.cell? ⟨gd,0,none⟩ = some (.slice A xs.length c):=HR.out.cell 2 rfl 0 rfl;have hc3_gd_1 : w3.cell? ⟨gd,1,none⟩ = some (.slice B os.length d):=HR.out.cell 2 rfl 1 rfl)
  | (go_at_call 91;with_reducible refine (cpyRaw w xs os HL.out HLO.out A c B d w3 HR.out.bel HC.out HCC.out HD.out HDD.out).mono ?_;rintro e w4 ⟨A1,c1,B1,d1,rfl,ho,hb⟩;replace HR:=asd (HR.out.push _ hb ho);clear hb ho;clear hc3_gd_0 hc3_gd_1)
  | ((with_reducible refine gate_dst (N:=6) rfl ?_);refine box_event ?hg6 (N:=6) ?hd6 (cs:=#[.slice none 0 0,.slice none 0 0]) (t:=41) ?hr6 ?_;(case hd6 => rfl);(case hg6 => rfl);(case hr6 => first | (go_simp;done) | (go_simp;rfl));intro go hg w5 hbox hb;replace HR:=asd (HR.out.box hg hb hbox);clear hg hbox hb;have hc5_go_0 : w5.cell? ⟨go,0,none⟩ = some (.slice none 0 0):=HR.out.cell 0 rfl 0 rfl;have hc5_go_1 : w5.cell? ⟨go,1,none⟩ = some (.slice none 0 0):=HR.out.cell 0 rfl 1 rfl;have fc5_go_0:=HR.out.free 0 rfl 0;have fc5_go_1:=HR.out.free 0 rfl 1)
  | ((with_reducible refine gate_store (t:=41) (p:=6) rfl ?_);refine store_event (t:=41) (p:=6) (v:=?vo_1) (w1:=w5.setCells go 0 [.slice A1 xs.length c1,.slice B1 os.length d1]) ?hgs_1 ?hos_1 ?hns_1 ?hrs_1 ?_;(case hos_1 => rfl);(case hgs_1 => rfl);(case hns_1 => rfl);(case hrs_1 => first | (go_simp;done) | (go_simp;rfl));intro w6 hw;replace HR:=asd (hw ▸ HR.out.store 0 rfl [.slice A1 xs.length c1,.slice B1 os.length d1] rfl);clear hw;clear hc5_go_0 hc5_go_1 fc5_go_0 fc5_go_1;replace HR:=asd (HR.out.part 1 rfl);have hc7_go_0 : w6.cell? ⟨go,0,none⟩ = some (.slice A1 xs.length c1):=HR.out.cell 1 rfl 0 rfl;have hc7_go_1 : w6.cell? ⟨go,1,none⟩ = some (.slice B1 os.length d1):=HR.out.cell 1 rfl 1 rfl;have hc7_gc_0 : w6.cell? ⟨gc,0,none⟩ = some (.int .i64 x.f0.f0):=HR.out.cell 4 rfl 0 rfl;have hc7_gc_1 : w6.cell? ⟨gc,1,none⟩ = some (.string x.f0.f1):=HR.out.cell 4 rfl 1 rfl;have hc7_gc_2 : w6.cell? ⟨gc,2,none⟩ = some (.int .i64 x.f0.f2):=HR.out.cell 4 rfl 2 rfl;have hc7_gc_3 : w6.cell? ⟨gc,3,none⟩ = some (.slice A5 x.f0.f3.length c5):=HR.out.cell 4 rfl 3 rfl;have hc7_gc_4 : w6.cell? ⟨gc,4,none⟩ = some (.int .i64 x.f1.f0):=HR.out.cell 4 rfl 4 rfl;have hc7_gc_5 : w6.cell? ⟨gc,5,none⟩ = some (.string x.f1.f1):=HR.out.cell 4 rfl 5 rfl;have hc7_gc_6 : w6.cell? ⟨gc,6,none⟩ = some (.int .i64 x.f1.f2):=HR.out.cell 4 rfl 6 rfl;have hc7_gc_7 : w6.cell? ⟨gc,7,none⟩ = some (.slice A6 x.f1.f3.length c6):=HR.out.cell 4 rfl 7 rfl;have hc7_gc_8 : w6.cell? ⟨gc,8,none⟩ = some (.string x.f2):=HR.out.cell 4 rfl 8 rfl)
  | ((with_reducible refine gate_builtin (b:=.append) (xs:=#[.tmp 10,.tmp 12]) rfl ?_);at_builtin;refine HR.out.appR 2 (Kd.pk k48 w) rfl x [.int .i64 x.f0.f0,.string x.f0.f1,.int .i64 x.f0.f2,.slice A5 x.f0.f3.length c5,.int .i64 x.f1.f0,.string x.f1.f1,.int .i64 x.f1.f2,.slice A6 x.f1.f3.length c6,.string x.f2] HK.out rfl (.tmp 10) (.tmp 12) 39 (.agg #[(.int .i64 0),(.string ⟨#[]⟩),(.int .i64 0),(.slice none 0 0),(.int .i64 0),(.string ⟨#[]⟩),(.int .i64 0),(.slice none 0 0),(.string ⟨#[]⟩)]) 128 rfl Tryd.underlying39 info48 rfl (show 0 < 9 by decide) (by omega) rfl rfl (by have h1_:=HL.out;omega) ?_;intro v_ w7 hq_;obtain ⟨l_n,hz_⟩ : ∃ z_,z_ = (xs ++ [x]):=⟨_,rfl⟩;rw [← hz_] at hq_;have HZ_n:=asd hz_;clear hz_;obtain ⟨A_n,c_n,rfl⟩:=Kd.R_slice (hq_.has 2 rfl);clear HR;have HR:=asd hq_;clear hq_;clear hc7_go_0 hc7_go_1 hc7_gc_0 hc7_gc_1 hc7_gc_2 hc7_gc_3 hc7_gc_4 hc7_gc_5 hc7_gc_6 hc7_gc_7 hc7_gc_8;have hc8_go_0 : w7.cell? ⟨go,0,none⟩ = some (.slice A1 xs.length c1):=HR.out.cell 1 rfl 0 rfl;have hc8_go_1 : w7.cell? ⟨go,1,none⟩ = some (.slice B1 os.length d1):=HR.out.cell 1 rfl 1 rfl;have fc8_go_0:=HR.out.free 1 rfl 0;have fc8_go_1:=HR.out.free 1 rfl 1)
  | ((with_reducible refine gate_store (t:=39) (p:=14) rfl ?_);refine store_event (t:=39) (p:=14) (v:=?vo_2) (w1:=w7.setCell ⟨go,0,none⟩ (.slice A_n l_n.length c_n)) ?hgs_2 ?hos_2 ?hns_2 ?hrs_2 ?_;(case hos_2 => rfl);(case hgs_2 => rfl);(case hns_2 => rfl);(case hrs_2 => first | (go_simp;done) | (go_simp;rfl));intro w8 hw;replace HR:=asd (hw ▸ HR.out.set 1 rfl 0 (.slice A_n l_n.length c_n));clear hw;clear hc8_go_0 hc8_go_1 fc8_go_0 fc8_go_1;have hc9_go_0 : w8.cell? ⟨go,0,none⟩ = some (.slice A_n l_n.length c_n):=HR.out.cell 1 rfl 0 rfl;have hc9_go_1 : w8.cell? ⟨go,1,none⟩ = some (.slice B1 os.length d1):=HR.out.cell 1 rfl 1 rfl)
  | (go_at_call 20;have hr1_:=rr_C (HR.out.has 2 rfl);have hr2_:=rr_C (HR.out.has 0 rfl);with_reducible refine (HOK.out l_n HZ_n.out w8 A_n c_n B1 d1 HR.out.bel (pk_C hr1_.2 HR.out.bel) hr1_.1 hr2_.2 hr2_.1).mono ?_;rintro e w9 ⟨rfl,hb⟩;clear hr1_ hr2_;replace HR:=asd (HR.out.step hb);clear hb;clear hc9_go_0 hc9_go_1;have hc10_go_0 : w9.cell? ⟨go,0,none⟩ = some (.slice A_n l_n.length c_n):=HR.out.cell 1 rfl 0 rfl;have hc10_go_1 : w9.cell? ⟨go,1,none⟩ = some (.slice B1 os.length d1):=HR.out.cell 1 rfl 1 rfl;have hc10_gr_0 : w9.cell? ⟨gr,0,none⟩ = some (.slice none 0 0):=HR.out.cell 3 rfl 0 rfl;have hc10_gr_1 : w9.cell? ⟨gr,1,none⟩ = some (.slice none 0 0):=HR.out.cell 3 rfl 1 rfl;have fc10_gr_0:=HR.out.free 3 rfl 0;have fc10_gr_1:=HR.out.free 3 rfl 1)
  | ((with_reducible refine gate_store (t:=41) (p:=4) rfl ?_);refine store_event (t:=41) (p:=4) (v:=?vo_3) (w1:=w9.setCells gr 0 [.slice A_n l_n.length c_n,.slice B1 os.length d1]) ?hgs_3 ?hos_3 ?hns_3 ?hrs_3 ?_;(case hos_3 => rfl);(case hgs_3 => rfl);(case hns_3 => rfl);(case hrs_3 => first | (go_simp;done) | (go_simp;rfl));intro w10 hw;replace HR:=asd (hw ▸ HR.out.store 3 rfl [.slice A_n l_n.length c_n,.slice B1 os.length d1] rfl);clear hw;clear hc10_go_0 hc10_go_1 hc10_gr_0 hc10_gr_1 fc10_gr_0 fc10_gr_1))
 refine bodyPost_ret (results_ct rfl _ _ gr 41 #[.slice A_n l_n.length c_n,.slice B1 os.length d1] (0,0) _ rfl (HR.out.has 3 rfl).2 Tryd.underlying41 rfl (by kernel_rfl)) rfl ?_
 rw [← HZ_n.out]
 have hr1_:=rr_C (HR.out.has 2 rfl)
 have hr2_:=rr_C (HR.out.has 0 rfl)
 exact ⟨A_n,c_n,B1,d1,rfl,⟨hr1_.1,pk_C hr1_.2 HR.out.bel,hr2_.1,hr2_.2⟩,HR.out.bel⟩
set_option maxHeartbeats 16000000 in
set_option maxRecDepth 100000 in
theorem raw_no (xs : List S48) (os : List ByteArray) (x : S48) (hlen : xs.length ≤ 1048576) (hlo : os.length ≤ 1048576) (A : Option Addr) (c : Nat) (B : Option Addr) (d : Nat) (A5 : Option Addr) (c5 : Nat) (A6 : Option Addr) (c6 : Nat) (w : World) (hC : Kd.C k48 w A xs.length xs) (hc : xs.length ≤ c) (hD : Kd.C Kd.string w B os.length os) (hd : os.length ≤ d) (h5 : Kd.C k29 w A5 x.f0.f3.length x.f0.f3) (l5 : x.f0.f3.length ≤ c5) (h6 : Kd.C k29 w A6 x.f1.f3.length x.f1.f3) (l6 : x.f1.f3.length ≤ c6)
  (hok : ∀ (l : List S48),l = xs ++ [x] → ∀ (W : World) (A : Option Addr) (c : Nat) (B : Option Addr) (d : Nat),Below w.heap.size w W → Kd.C k48 W A l.length l → l.length ≤ c → Kd.C Kd.string W B os.length os → os.length ≤ d → Calls Tryd.prog 20 #[.agg #[.slice A l.length c,.slice B os.length d]] W fun e W' => e = .returned (.bool false) ∧ Below W.heap.size W W') :
  Calls Tryd.prog 70 #[.agg #[.slice A xs.length c,.slice B os.length d],.agg #[.int .i64 x.f0.f0,.string x.f0.f1,.int .i64 x.f0.f2,.slice A5 x.f0.f3.length c5,.int .i64 x.f1.f0,.string x.f1.f1,.int .i64 x.f1.f2,.slice A6 x.f1.f3.length c6,.string x.f2]] w fun e w' => MadeDR xs os false w e w':=by
 have HC:=asd hC
 have HCC:=asd hc
 have HD:=asd hD
 have HDD:=asd hd
 have HL:=asd hlen
 have HLO:=asd hlo
 have HK:=asd (k48_mk w x l5 h5 l6 h6)
 have HOK:=asd hok
 have HR:=asd (run_law w)
 clear hC hc hD hd hlen hlo h5 l5 h6 l6 hok
 go_enter Tryd.func70,Tryd.ntmps70
 go_wp2_with (first
  | ((with_reducible refine gate_dst (N:=2) rfl ?_);refine box_event ?hg2 (N:=2) ?hd2 (cs:=#[.slice A xs.length c,.slice B os.length d]) (t:=41) ?hr2 ?_;(case hd2 => rfl);(case hg2 => rfl);(case hr2 => first | (go_simp;done) | (go_simp;rfl));intro gd hg w1 hbox hb;replace HR:=asd (HR.out.box hg hb hbox);clear hg hbox hb)
  | ((with_reducible refine gate_dst (N:=3) rfl ?_);refine box_event ?hg3 (N:=3) ?hd3 (cs:=#[.int .i64 x.f0.f0,.string x.f0.f1,.int .i64 x.f0.f2,.slice A5 x.f0.f3.length c5,.int .i64 x.f1.f0,.string x.f1.f1,.int .i64 x.f1.f2,.slice A6 x.f1.f3.length c6,.string x.f2]) (t:=48) ?hr3 ?_;(case hd3 => rfl);(case hg3 => rfl);(case hr3 => first | (go_simp;done) | (go_simp;rfl));intro gc hg w2 hbox hb;replace HR:=asd (HR.out.box hg hb hbox);clear hg hbox hb)
  | ((with_reducible refine gate_dst (N:=4) rfl ?_);refine box_event ?hg4 (N:=4) ?hd4 (cs:=#[.slice none 0 0,.slice none 0 0]) (t:=41) ?hr4 ?_;(case hd4 => rfl);(case hg4 => rfl);(case hr4 => first | (go_simp;done) | (go_simp;rfl));intro gr hg w3 hbox hb;replace HR:=asd (HR.out.box hg hb hbox);clear hg hbox hb;have hc3_gd_0 : w3.cell? ⟨gd,0,none⟩ = some (.slice A xs.length c):=HR.out.cell 2 rfl 0 rfl;have hc3_gd_1 : w3.cell? ⟨gd,1,none⟩ = some (.slice B os.length d):=HR.out.cell 2 rfl 1 rfl)
  | (go_at_call 91;with_reducible refine (cpyRaw w xs os HL.out HLO.out A c B d w3 HR.out.bel HC.out HCC.out HD.out HDD.out).mono ?_;rintro e w4 ⟨A1,c1,B1,d1,rfl,ho,hb⟩;replace HR:=asd (HR.out.push _ hb ho);clear hb ho;clear hc3_gd_0 hc3_gd_1)
  | ((with_reducible refine gate_dst (N:=6) rfl ?_);refine box_event ?hg6 (N:=6) ?hd6 (cs:=#[.slice none 0 0,.slice none 0 0]) (t:=41) ?hr6 ?_;(case hd6 => rfl);(case hg6 => rfl);(case hr6 => first | (go_simp;done) | (go_simp;rfl));intro go hg w5 hbox hb;replace HR:=asd (HR.out.box hg hb hbox);clear hg hbox hb;have hc5_go_0 : w5.cell? ⟨go,0,none⟩ = some (.slice none 0 0):=HR.out.cell 0 rfl 0 rfl;have hc5_go_1 : w5.cell? ⟨go,1,none⟩ = some (.slice none 0 0):=HR.out.cell 0 rfl 1 rfl;have fc5_go_0:=HR.out.free 0 rfl 0;have fc5_go_1:=HR.out.free 0 rfl 1)
  | ((with_reducible refine gate_store (t:=41) (p:=6) rfl ?_);refine store_event (t:=41) (p:=6) (v:=?vo_4) (w1:=w5.setCells go 0 [.slice A1 xs.length c1,.slice B1 os.length d1]) ?hgs_4 ?hos_4 ?hns_4 ?hrs_4 ?_;(case hos_4 => rfl);(case hgs_4 => rfl);(case hns_4 => rfl);(case hrs_4 => first | (go_simp;done) | (go_simp;rfl));intro w6 hw;replace HR:=asd (hw ▸ HR.out.store 0 rfl [.slice A1 xs.length c1,.slice B1 os.length d1] rfl);clear hw;clear hc5_go_0 hc5_go_1 fc5_go_0 fc5_go_1;replace HR:=asd (HR.out.part 1 rfl);have hc7_go_0 : w6.cell? ⟨go,0,none⟩ = some (.slice A1 xs.length c1):=HR.out.cell 1 rfl 0 rfl;have hc7_go_1 : w6.cell? ⟨go,1,none⟩ = some (.slice B1 os.length d1):=HR.out.cell 1 rfl 1 rfl;have hc7_gc_0 : w6.cell? ⟨gc,0,none⟩ = some (.int .i64 x.f0.f0):=HR.out.cell 4 rfl 0 rfl;have hc7_gc_1 : w6.cell? ⟨gc,1,none⟩ = some (.string x.f0.f1):=HR.out.cell 4 rfl 1 rfl;have hc7_gc_2 : w6.cell? ⟨gc,2,none⟩ = some (.int .i64 x.f0.f2):=HR.out.cell 4 rfl 2 rfl;have hc7_gc_3 : w6.cell? ⟨gc,3,none⟩ = some (.slice A5 x.f0.f3.length c5):=HR.out.cell 4 rfl 3 rfl;have hc7_gc_4 : w6.cell? ⟨gc,4,none⟩ = some (.int .i64 x.f1.f0):=HR.out.cell 4 rfl 4 rfl;have hc7_gc_5 : w6.cell? ⟨gc,5,none⟩ = some (.string x.f1.f1):=HR.out.cell 4 rfl 5 rfl;have hc7_gc_6 : w6.cell? ⟨gc,6,none⟩ = some (.int .i64 x.f1.f2):=HR.out.cell 4 rfl 6 rfl;have hc7_gc_7 : w6.cell? ⟨gc,7,none⟩ = some (.slice A6 x.f1.f3.length c6):=HR.out.cell 4 rfl 7 rfl;have hc7_gc_8 : w6.cell? ⟨gc,8,none⟩ = some (.string x.f2):=HR.out.cell 4 rfl 8 rfl)
  | ((with_reducible refine gate_builtin (b:=.append) (xs:=#[.tmp 10,.tmp 12]) rfl ?_);at_builtin;refine HR.out.appR 2 (Kd.pk k48 w) rfl x [.int .i64 x.f0.f0,.string x.f0.f1,.int .i64 x.f0.f2,.slice A5 x.f0.f3.length c5,.int .i64 x.f1.f0,.string x.f1.f1,.int .i64 x.f1.f2,.slice A6 x.f1.f3.length c6,.string x.f2] HK.out rfl (.tmp 10) (.tmp 12) 39 (.agg #[(.int .i64 0),(.string ⟨#[]⟩),(.int .i64 0),(.slice none 0 0),(.int .i64 0),(.string ⟨#[]⟩),(.int .i64 0),(.slice none 0 0),(.string ⟨#[]⟩)]) 128 rfl Tryd.underlying39 info48 rfl (show 0 < 9 by decide) (by omega) rfl rfl (by have h1_:=HL.out;omega) ?_;intro v_ w7 hq_;obtain ⟨l_n,hz_⟩ : ∃ z_,z_ = (xs ++ [x]):=⟨_,rfl⟩;rw [← hz_] at hq_;have HZ_n:=asd hz_;clear hz_;obtain ⟨A_n,c_n,rfl⟩:=Kd.R_slice (hq_.has 2 rfl);clear HR;have HR:=asd hq_;clear hq_;clear hc7_go_0 hc7_go_1 hc7_gc_0 hc7_gc_1 hc7_gc_2 hc7_gc_3 hc7_gc_4 hc7_gc_5 hc7_gc_6 hc7_gc_7 hc7_gc_8;have hc8_go_0 : w7.cell? ⟨go,0,none⟩ = some (.slice A1 xs.length c1):=HR.out.cell 1 rfl 0 rfl;have hc8_go_1 : w7.cell? ⟨go,1,none⟩ = some (.slice B1 os.length d1):=HR.out.cell 1 rfl 1 rfl;have fc8_go_0:=HR.out.free 1 rfl 0;have fc8_go_1:=HR.out.free 1 rfl 1)
  | ((with_reducible refine gate_store (t:=39) (p:=14) rfl ?_);refine store_event (t:=39) (p:=14) (v:=?vo_5) (w1:=w7.setCell ⟨go,0,none⟩ (.slice A_n l_n.length c_n)) ?hgs_5 ?hos_5 ?hns_5 ?hrs_5 ?_;(case hos_5 => rfl);(case hgs_5 => rfl);(case hns_5 => rfl);(case hrs_5 => first | (go_simp;done) | (go_simp;rfl));intro w8 hw;replace HR:=asd (hw ▸ HR.out.set 1 rfl 0 (.slice A_n l_n.length c_n));clear hw;clear hc8_go_0 hc8_go_1 fc8_go_0 fc8_go_1;have hc9_go_0 : w8.cell? ⟨go,0,none⟩ = some (.slice A_n l_n.length c_n):=HR.out.cell 1 rfl 0 rfl;have hc9_go_1 : w8.cell? ⟨go,1,none⟩ = some (.slice B1 os.length d1):=HR.out.cell 1 rfl 1 rfl)
  | (go_at_call 20;have hr1_:=rr_C (HR.out.has 2 rfl);have hr2_:=rr_C (HR.out.has 0 rfl);with_reducible refine (HOK.out l_n HZ_n.out w8 A_n c_n B1 d1 HR.out.bel (pk_C hr1_.2 HR.out.bel) hr1_.1 hr2_.2 hr2_.1).mono ?_;rintro e w9 ⟨rfl,hb⟩;clear hr1_ hr2_;replace HR:=asd (HR.out.step hb);clear hb;clear hc9_go_0 hc9_go_1;have hc10_gd_0 : w9.cell? ⟨gd,0,none⟩ = some (.slice A xs.length c):=HR.out.cell 5 rfl 0 rfl;have hc10_gd_1 : w9.cell? ⟨gd,1,none⟩ = some (.slice B os.length d):=HR.out.cell 5 rfl 1 rfl;have hc10_gr_0 : w9.cell? ⟨gr,0,none⟩ = some (.slice none 0 0):=HR.out.cell 3 rfl 0 rfl;have hc10_gr_1 : w9.cell? ⟨gr,1,none⟩ = some (.slice none 0 0):=HR.out.cell 3 rfl 1 rfl;have fc10_gr_0:=HR.out.free 3 rfl 0;have fc10_gr_1:=HR.out.free 3 rfl 1)
  | (go_at_call 91;with_reducible refine (cpyRaw w xs os HL.out HLO.out A c B d w9 HR.out.bel HC.out HCC.out HD.out HDD.out).mono ?_;rintro e w10 ⟨A8,c8,B8,d8,rfl,ho,hb⟩;replace HR:=asd (HR.out.push _ hb ho);clear hb ho;clear hc10_gd_0 hc10_gd_1 hc10_gr_0 hc10_gr_1 fc10_gr_0 fc10_gr_1;have hc11_gr_0 : w10.cell? ⟨gr,0,none⟩ = some (.slice none 0 0):=HR.out.cell 4 rfl 0 rfl;have hc11_gr_1 : w10.cell? ⟨gr,1,none⟩ = some (.slice none 0 0):=HR.out.cell 4 rfl 1 rfl;have fc11_gr_0:=HR.out.free 4 rfl 0;have fc11_gr_1:=HR.out.free 4 rfl 1)
  | ((with_reducible refine gate_store (t:=41) (p:=4) rfl ?_);refine store_event (t:=41) (p:=4) (v:=?vo_6) (w1:=w10.setCells gr 0 [.slice A8 xs.length c8,.slice B8 os.length d8]) ?hgs_6 ?hos_6 ?hns_6 ?hrs_6 ?_;(case hos_6 => rfl);(case hgs_6 => rfl);(case hns_6 => rfl);(case hrs_6 => first | (go_simp;done) | (go_simp;rfl));intro w11 hw;replace HR:=asd (hw ▸ HR.out.store 4 rfl [.slice A8 xs.length c8,.slice B8 os.length d8] rfl);clear hw;clear hc11_gr_0 hc11_gr_1 fc11_gr_0 fc11_gr_1))
 refine bodyPost_ret (results_ct rfl _ _ gr 41 #[.slice A8 xs.length c8,.slice B8 os.length d8] (0,0) _ rfl (HR.out.has 4 rfl).2 Tryd.underlying41 rfl (by kernel_rfl)) rfl ?_
 have hr1_:=rr_C (as_fst (HR.out.has 0 rfl))
 have hr2_:=rr_C (as_snd (HR.out.has 0 rfl))
 exact ⟨A8,c8,B8,d8,rfl,⟨hr1_.1,pk_C hr1_.2 HR.out.bel,hr2_.1,hr2_.2⟩,HR.out.bel⟩
def avd (v : Value) (xs : List S48) (v' : Value) (os : List ByteArray) : As:=As.also (As.vrow k48 59 v xs) (As.vrow Kd.string 9 v' os)
set_option maxHeartbeats 16000000 in
set_option maxRecDepth 100000 in
theorem spec_ad (xs ys : List S48) (os : List ByteArray) (x : S48) (A : Option Addr) (c : Nat) (B : Option Addr) (d : Nat) (A5 : Option Addr) (c5 : Nat) (A6 : Option Addr) (c6 : Nat) (b : Bool) (w : World)
  (h1 : ∀ W,Below w.heap.size w W → Calls Tryd.prog 70 #[.agg #[.slice A xs.length c,.slice B os.length d],.agg #[.int .i64 x.f0.f0,.string x.f0.f1,.int .i64 x.f0.f2,.slice A5 x.f0.f3.length c5,.int .i64 x.f1.f0,.string x.f1.f1,.int .i64 x.f1.f2,.slice A6 x.f1.f3.length c6,.string x.f2]] W fun e W' => MadeDR ys os b W e W')
  (h2 : ∀ (W : World) (A : Option Addr) (c : Nat) (B : Option Addr) (d : Nat),Kd.C k48 W A ys.length ys → ys.length ≤ c → Kd.C Kd.string W B os.length os → os.length ≤ d → Calls Tryd.prog 71 #[.agg #[.slice A ys.length c,.slice B os.length d]] W fun e W' => ∃ A c B d,e = .returned (.agg #[.slice A ys.length c,.slice B os.length d]) ∧ (avd (.slice A ys.length c) ys (.slice B os.length d) os).M W.heap.size W' (fun k => W.heap.size ≤ k) ∧ Below W.heap.size W W') :
  Calls Tryd.prog 35 #[.agg #[.slice A xs.length c,.slice B os.length d],.agg #[.int .i64 x.f0.f0,.string x.f0.f1,.int .i64 x.f0.f2,.slice A5 x.f0.f3.length c5,.int .i64 x.f1.f0,.string x.f1.f1,.int .i64 x.f1.f2,.slice A6 x.f1.f3.length c6,.string x.f2]] w fun e w' => ∃ A c B d,e = .returned (.tuple #[.agg #[.slice A ys.length c,.slice B os.length d],.bool b]) ∧ (avd (.slice A ys.length c) ys (.slice B os.length d) os).M w.heap.size w' (fun k => w.heap.size ≤ k) ∧ Below w.heap.size w w':=by
 have H1:=asd h1
 have H2:=asd h2
 have HR:=asd (run_law w)
 clear h1 h2
 go_enter Tryd.func35,Tryd.ntmps35
 go_wp2_with (first
  | ((with_reducible refine gate_dst (N:=2) rfl ?_);refine box_event ?hg2 (N:=2) ?hd2 (cs:=#[.slice A xs.length c,.slice B os.length d]) (t:=41) ?hr2 ?_;(case hd2 => rfl);(case hg2 => rfl);(case hr2 => first | (go_simp;done) | (go_simp;rfl));intro ga hg w1 hbox hb;replace HR:=asd (HR.out.box hg hb hbox);clear hg hbox hb)
  | ((with_reducible refine gate_dst (N:=3) rfl ?_);refine box_event ?hg3 (N:=3) ?hd3 (cs:=#[.int .i64 x.f0.f0,.string x.f0.f1,.int .i64 x.f0.f2,.slice A5 x.f0.f3.length c5,.int .i64 x.f1.f0,.string x.f1.f1,.int .i64 x.f1.f2,.slice A6 x.f1.f3.length c6,.string x.f2]) (t:=48) ?hr3 ?_;(case hd3 => rfl);(case hg3 => rfl);(case hr3 => first | (go_simp;done) | (go_simp;rfl));intro gc hg w2 hbox hb;replace HR:=asd (HR.out.box hg hb hbox);clear hg hbox hb)
  | ((with_reducible refine gate_dst (N:=4) rfl ?_);refine box_event ?hg4 (N:=4) ?hd4 (cs:=#[.slice none 0 0,.slice none 0 0]) (t:=41) ?hr4 ?_;(case hd4 => rfl);(case hg4 => rfl);(case hr4 => first | (go_simp;done) | (go_simp;rfl));intro gr hg w3 hbox hb;replace HR:=asd (HR.out.box hg hb hbox);clear hg hbox hb;have hc3_ga_0 : w3.cell? ⟨ga,0,none⟩ = some (.slice A xs.length c):=HR.out.cell 2 rfl 0 rfl;have hc3_ga_1 : w3.cell? ⟨ga,1,none⟩ = some (.slice B os.length d):=HR.out.cell 2 rfl 1 rfl;have hc3_gc_0 : w3.cell? ⟨gc,0,none⟩ = some (.int .i64 x.f0.f0):=HR.out.cell 1 rfl 0 rfl;have hc3_gc_1 : w3.cell? ⟨gc,1,none⟩ = some (.string x.f0.f1):=HR.out.cell 1 rfl 1 rfl;have hc3_gc_2 : w3.cell? ⟨gc,2,none⟩ = some (.int .i64 x.f0.f2):=HR.out.cell 1 rfl 2 rfl;have hc3_gc_3 : w3.cell? ⟨gc,3,none⟩ = some (.slice A5 x.f0.f3.length c5):=HR.out.cell 1 rfl 3 rfl;have hc3_gc_4 : w3.cell? ⟨gc,4,none⟩ = some (.int .i64 x.f1.f0):=HR.out.cell 1 rfl 4 rfl;have hc3_gc_5 : w3.cell? ⟨gc,5,none⟩ = some (.string x.f1.f1):=HR.out.cell 1 rfl 5 rfl;have hc3_gc_6 : w3.cell? ⟨gc,6,none⟩ = some (.int .i64 x.f1.f2):=HR.out.cell 1 rfl 6 rfl;have hc3_gc_7 : w3.cell? ⟨gc,7,none⟩ = some (.slice A6 x.f1.f3.length c6):=HR.out.cell 1 rfl 7 rfl;have hc3_gc_8 : w3.cell? ⟨gc,8,none⟩ = some (.string x.f2):=HR.out.cell 1 rfl 8 rfl)
  | (go_at_call 70;with_reducible refine (H1.out w3 HR.out.bel).mono ?_;rintro e w4 hq_;unfold MadeDR at hq_;obtain ⟨A1,c1,B1,d1,rfl,⟨l1,q1,l2,q2⟩,hb⟩:=hq_;have L1:=asd l1;have Q1:=asd q1;have L2:=asd l2;have Q2:=asd q2;clear l1 q1 l2 q2;replace HR:=asd (HR.out.step hb);clear hb;clear hc3_ga_0 hc3_ga_1 hc3_gc_0 hc3_gc_1 hc3_gc_2 hc3_gc_3 hc3_gc_4 hc3_gc_5 hc3_gc_6 hc3_gc_7 hc3_gc_8)
  | ((with_reducible refine gate_dst (N:=6) rfl ?_);refine box_event ?hg6 (N:=6) ?hd6 (cs:=#[.slice none 0 0,.slice none 0 0]) (t:=41) ?hr6 ?_;(case hd6 => rfl);(case hg6 => rfl);(case hr6 => first | (go_simp;done) | (go_simp;rfl));intro gx hg w5 hbox hb;replace HR:=asd (HR.out.box hg hb hbox);have HX3:=asd (show w4.heap.size ≤ gx from Nat.le_of_eq hg.symm);have HB3:=asd hb;clear hg hbox hb;have hc5_gx_0 : w5.cell? ⟨gx,0,none⟩ = some (.slice none 0 0):=HR.out.cell 0 rfl 0 rfl;have hc5_gx_1 : w5.cell? ⟨gx,1,none⟩ = some (.slice none 0 0):=HR.out.cell 0 rfl 1 rfl;have fc5_gx_0:=HR.out.free 0 rfl 0;have fc5_gx_1:=HR.out.free 0 rfl 1)
  | ((with_reducible refine gate_store (t:=41) (p:=6) rfl ?_);refine store_event (t:=41) (p:=6) (v:=?vo_7) (w1:=w5.setCells gx 0 [.slice A1 ys.length c1,.slice B1 os.length d1]) ?hgs_7 ?hos_7 ?hns_7 ?hrs_7 ?_;(case hos_7 => rfl);(case hgs_7 => rfl);(case hns_7 => rfl);(case hrs_7 => first | (go_simp;done) | (go_simp;rfl));intro w6 hw;have qb_:=asd (below_setCells HB3.out HX3.out [.slice A1 ys.length c1,.slice B1 os.length d1]);rw [← hw] at qb_;clear HB3;have HB3:=qb_;clear qb_;replace HR:=asd (hw ▸ HR.out.store 0 rfl [.slice A1 ys.length c1,.slice B1 os.length d1] rfl);clear hw;clear hc5_gx_0 hc5_gx_1 fc5_gx_0 fc5_gx_1;have hc6_gx_0 : w6.cell? ⟨gx,0,none⟩ = some (.slice A1 ys.length c1):=HR.out.cell 0 rfl 0 rfl;have hc6_gx_1 : w6.cell? ⟨gx,1,none⟩ = some (.slice B1 os.length d1):=HR.out.cell 0 rfl 1 rfl)
  | (go_at_call 71;with_reducible refine (H2.out w6 A1 c1 B1 d1 (Kd.C_below Q1.out HB3.out) L1.out (Kd.C_below Q2.out HB3.out) L2.out).mono ?_;rintro e w7 ⟨A2,c2,B2,d2,rfl,ho,hb⟩;replace HR:=asd (HR.out.push _ hb ho);clear hb ho;clear hc6_gx_0 hc6_gx_1;have hc7_gr_0 : w7.cell? ⟨gr,0,none⟩ = some (.slice none 0 0):=HR.out.cell 2 rfl 0 rfl;have hc7_gr_1 : w7.cell? ⟨gr,1,none⟩ = some (.slice none 0 0):=HR.out.cell 2 rfl 1 rfl;have fc7_gr_0:=HR.out.free 2 rfl 0;have fc7_gr_1:=HR.out.free 2 rfl 1)
  | ((with_reducible refine gate_store (t:=41) (p:=4) rfl ?_);refine store_event (t:=41) (p:=4) (v:=?vo_8) (w1:=w7.setCells gr 0 [.slice A2 ys.length c2,.slice B2 os.length d2]) ?hgs_8 ?hos_8 ?hns_8 ?hrs_8 ?_;(case hos_8 => rfl);(case hgs_8 => rfl);(case hns_8 => rfl);(case hrs_8 => first | (go_simp;done) | (go_simp;rfl));intro w8 hw;replace HR:=asd (hw ▸ HR.out.store 2 rfl [.slice A2 ys.length c2,.slice B2 os.length d2] rfl);clear hw;clear hc7_gr_0 hc7_gr_1 fc7_gr_0 fc7_gr_1))
 refine bodyPost_ret (results_ct rfl _ _ gr 41 #[.slice A2 ys.length c2,.slice B2 os.length d2] (0,0) _ rfl (HR.out.has 2 rfl).2 Tryd.underlying41 rfl (by kernel_rfl)) rfl ?_
 exact ⟨A2,c2,B2,d2,rfl,As.mono _ (fun k hk => hk.elim False.elim id) (HR.out.one 0 rfl),HR.out.bel⟩
end
theorem next_j (i n : Nat) (h : i < n) (hn : n ≤ 1048577) : wrap64 ((i : Int) + 1) = ((i + 1 : Nat) : Int):=by
 rw [t_wrap (by omega) (by omega)]
 omega
def clB (c : S48) : Bool:=okB c.f0 && (okB c.f1 && hdB c.f0)
def dbB (ys : List S48) (o : List ByteArray) : Bool:=ys.all clB && (decide (ys.length ≤ 120) && decide (o.length ≤ 40))
theorem dbB_no (xs : List S48) (os : List ByteArray) (x : S48) (hx : x ∈ xs) (h : clB x = false) : dbB xs os = false:=by
 have : xs.all clB = false:=by
  rw [← Bool.not_eq_true,List.all_eq_true]
  intro h2
  rw [h2 x hx] at h
  cases h
 unfold dbB
 rw [this,Bool.false_and]
section
set_option linter.unusedSectionVars false
variable [fk_laws_szTerm] [fk_laws_eqTerm] [fk_spec_l34Term] [fk_strconv_Itoa]
set_option maxHeartbeats 16000000 in
set_option maxRecDepth 100000 in
theorem dbOk (xs : List S48) (os : List ByteArray) (hlen : xs.length ≤ 1048577) (hlo : os.length ≤ 1048576) (ih : ∀ x ∈ xs, (∃ k, impl_TermOk.f k x.f0.f0 x.f0.f1 x.f0.f2 x.f0.f3 = some (okB x.f0)) ∧ (∃ k, impl_TermOk.f k x.f1.f0 x.f1.f1 x.f1.f2 x.f1.f3 = some (okB x.f1)) ∧ ∃ k, impl_headOk.f k x.f0.f0 x.f0.f1 x.f0.f2 x.f0.f3 = some (hdB x.f0)) (A : Option Addr) (c : Nat) (B : Option Addr) (d : Nat) (w : World) (hT : Lib.TabBelow Tryd.prog w.heap.size w "internal/strconv.uint64pow10" .u64 Lib.pow10Tab) (hC : Kd.C k48 w A xs.length xs) (hc : xs.length ≤ c) :
  Calls Tryd.prog 21 #[.agg #[.slice A xs.length c,.slice B os.length d]] w fun e w' => e = .returned (.bool (dbB xs os)) ∧ Below w.heap.size w w':=by
 have HC:=asd hC
 have HCC:=asd hc
 have HL:=asd hlen
 have HLO:=asd hlo
 have IH:=asd ih
 have HTAB:=asd hT
 have HR:=asd (run_law w)
 clear hC hc hlen hlo ih hT
 go_enter Tryd.func21,Tryd.ntmps21
 go_wp2_with (first
  | ((with_reducible refine gate_dst (N:=1) rfl ?_);refine box_event ?hg1 (N:=1) ?hd1 (cs:=#[.slice A xs.length c,.slice B os.length d]) (t:=41) ?hr1 ?_;(case hd1 => rfl);(case hg1 => rfl);(case hr1 => first | (go_simp;done) | (go_simp;rfl));intro ga hg w1 hbox hb;replace HR:=asd (HR.out.box hg hb hbox);clear hg hbox hb;have hc1_ga_0 : w1.cell? ⟨ga,0,none⟩ = some (.slice A xs.length c):=HR.out.cell 0 rfl 0 rfl;have hc1_ga_1 : w1.cell? ⟨ga,1,none⟩ = some (.slice B os.length d):=HR.out.cell 0 rfl 1 rfl))
 go_loopg [8] xs.length (fun m v8 w' => ∃ (i : Nat),v8 = .int .i64 i ∧ Aside0 (m + i = xs.length) ∧ Aside0 ((xs.take i).all clB = true) ∧ Aside0 (Run w w (fun _ => False) [As.box ga 41 #[.slice A xs.length c,.slice B os.length d]] w'))
 case atStart => exact ⟨0,rfl,⟨by omega⟩,⟨by simp⟩,⟨HR.out⟩⟩
 case round =>
  clear HR hc1_ga_0 hc1_ga_1
  obtain ⟨i,rfl,hi,HAL,HR⟩:=hrel
  by_cases hlt : (i : Int) < (xs.length : Int)
  ·have c9b0 : decide ((i : Int) < (xs.length : Int)) = true:=decide_eq_true hlt
   have hlt' : i < xs.length:=by omega
   have c9b1 : decide (i < xs.length) = true:=decide_eq_true hlt'
   obtain ⟨ad,A3,c3,A7,c7,e1,hx0,hx1,hx2,hx3,hx4,hx5,hx6,hx7,hx8,hl3,hi3,hl7,hi7⟩:=at_T48 HC.out (i : Int) (by omega) hlt
   cases e1
   obtain ⟨x,hx⟩ : ∃ x,x = xs[i]:=⟨_,rfl⟩
   rw [show rd_T48 xs (i : Int) = x by rw [hx];unfold rd_T48;simp [List.getD,hlt']] at hx0 hx1 hx2 hx3 hx4 hx5 hx6 hx7 hx8 hl3 hi3 hl7 hi7
   simp only [Int.toNat_natCast] at hx0 hx1 hx2 hx3 hx4 hx5 hx6 hx7 hx8
   have hmem : x ∈ xs:=by rw [hx];exact List.getElem_mem hlt'
   obtain ⟨⟨k1,h1⟩,⟨k2,h2⟩,k3,h3⟩:=IH.out x hmem
   have HT:=asd (show xs.take (i + 1) = xs.take i ++ [x] by rw [hx];exact List.take_succ_eq_append_getElem hlt')
   have HM:=asd hmem
   have HI3:=asd hi3
   have HL3:=asd hl3
   have HI7:=asd hi7
   have HL7:=asd hl7
   have H1:=asd h1
   have H2:=asd h2
   have H3:=asd h3
   clear hi3 hl3 hi7 hl7 hx hmem h1 h2 h3
   replace hx0:=(HR.out.bel.cell (World.block_lt_of_cell? w _ hx0)).trans hx0
   replace hx1:=(HR.out.bel.cell (World.block_lt_of_cell? w _ hx1)).trans hx1
   replace hx2:=(HR.out.bel.cell (World.block_lt_of_cell? w _ hx2)).trans hx2
   replace hx3:=(HR.out.bel.cell (World.block_lt_of_cell? w _ hx3)).trans hx3
   replace hx4:=(HR.out.bel.cell (World.block_lt_of_cell? w _ hx4)).trans hx4
   replace hx5:=(HR.out.bel.cell (World.block_lt_of_cell? w _ hx5)).trans hx5
   replace hx6:=(HR.out.bel.cell (World.block_lt_of_cell? w _ hx6)).trans hx6
   replace hx7:=(HR.out.bel.cell (World.block_lt_of_cell? w _ hx7)).trans hx7
   replace hx8:=(HR.out.bel.cell (World.block_lt_of_cell? w _ hx8)).trans hx8
   obtain ⟨b1,e1⟩ : ∃ b,b = okB x.f0:=⟨_,rfl⟩
   obtain ⟨b2,e2⟩ : ∃ b,b = okB x.f1:=⟨_,rfl⟩
   obtain ⟨b3,e3⟩ : ∃ b,b = hdB x.f0:=⟨_,rfl⟩
   rw [← e1] at H1
   rw [← e2] at H2
   rw [← e3] at H3
   have HCL:=asd (show clB x = (b1 && (b2 && b3)) by unfold clB;rw [e1,e2,e3])
   clear e1 e2 e3
   rcases Bool.eq_false_or_eq_true b1 with rfl|rfl
   ·rcases Bool.eq_false_or_eq_true b2 with rfl|rfl
    ·rcases Bool.eq_false_or_eq_true b3 with rfl|rfl
     ·skip
      go_wp2_with (first
       | ((with_reducible refine gate_dst (N:=4) rfl ?_);refine box_event ?hg4 (N:=4) ?hd4 (cs:=#[.int .i64 0,.string (⟨#[]⟩ : ByteArray),.int .i64 0,.slice none 0 0,.int .i64 0,.string (⟨#[]⟩ : ByteArray),.int .i64 0,.slice none 0 0,.string (⟨#[]⟩ : ByteArray)]) (t:=48) ?hr4 ?_;(case hd4 => rfl);(case hg4 => rfl);(case hr4 => first | (go_simp;done) | (go_simp;rfl));intro gk hg w11 hbox hb;replace HR:=asd (HR.out.box hg hb hbox);clear hg hbox hb;have hc1_gk_0 : w11.cell? ⟨gk,0,none⟩ = some (.int .i64 0):=HR.out.cell 0 rfl 0 rfl;have hc1_gk_1 : w11.cell? ⟨gk,1,none⟩ = some (.string (⟨#[]⟩ : ByteArray)):=HR.out.cell 0 rfl 1 rfl;have hc1_gk_2 : w11.cell? ⟨gk,2,none⟩ = some (.int .i64 0):=HR.out.cell 0 rfl 2 rfl;have hc1_gk_3 : w11.cell? ⟨gk,3,none⟩ = some (.slice none 0 0):=HR.out.cell 0 rfl 3 rfl;have hc1_gk_4 : w11.cell? ⟨gk,4,none⟩ = some (.int .i64 0):=HR.out.cell 0 rfl 4 rfl;have hc1_gk_5 : w11.cell? ⟨gk,5,none⟩ = some (.string (⟨#[]⟩ : ByteArray)):=HR.out.cell 0 rfl 5 rfl;have hc1_gk_6 : w11.cell? ⟨gk,6,none⟩ = some (.int .i64 0):=HR.out.cell 0 rfl 6 rfl;have hc1_gk_7 : w11.cell? ⟨gk,7,none⟩ = some (.slice none 0 0):=HR.out.cell 0 rfl 7 rfl;have hc1_gk_8 : w11.cell? ⟨gk,8,none⟩ = some (.string (⟨#[]⟩ : ByteArray)):=HR.out.cell 0 rfl 8 rfl;have fc1_gk_0:=HR.out.free 0 rfl 0;have fc1_gk_1:=HR.out.free 0 rfl 1;have fc1_gk_2:=HR.out.free 0 rfl 2;have fc1_gk_3:=HR.out.free 0 rfl 3;have fc1_gk_4:=HR.out.free 0 rfl 4;have fc1_gk_5:=HR.out.free 0 rfl 5;have fc1_gk_6:=HR.out.free 0 rfl 6;have fc1_gk_7:=HR.out.free 0 rfl 7;have fc1_gk_8:=HR.out.free 0 rfl 8)
       | ((with_reducible refine gate_store (t:=48) (p:=4) rfl ?_);refine store_event (t:=48) (p:=4) (v:=?vo_1) (w1:=w11.setCells gk 0 [.int .i64 x.f0.f0,.string x.f0.f1,.int .i64 x.f0.f2,.slice A3 x.f0.f3.length c3,.int .i64 x.f1.f0,.string x.f1.f1,.int .i64 x.f1.f2,.slice A7 x.f1.f3.length c7,.string x.f2]) ?hgs_1 ?hos_1 ?hns_1 ?hrs_1 ?_;(case hos_1 => rfl);(case hgs_1 => rfl);(case hns_1 => rfl);(case hrs_1 => first | (go_simp;done) | (go_simp;rfl));intro w12 hw;replace HR:=asd (hw ▸ HR.out.store 0 rfl [.int .i64 x.f0.f0,.string x.f0.f1,.int .i64 x.f0.f2,.slice A3 x.f0.f3.length c3,.int .i64 x.f1.f0,.string x.f1.f1,.int .i64 x.f1.f2,.slice A7 x.f1.f3.length c7,.string x.f2] rfl);clear hw;clear hc1_gk_0 hc1_gk_1 hc1_gk_2 hc1_gk_3 hc1_gk_4 hc1_gk_5 hc1_gk_6 hc1_gk_7 hc1_gk_8 fc1_gk_0 fc1_gk_1 fc1_gk_2 fc1_gk_3 fc1_gk_4 fc1_gk_5 fc1_gk_6 fc1_gk_7 fc1_gk_8;have hc2_gk_0 : w12.cell? ⟨gk,0,none⟩ = some (.int .i64 x.f0.f0):=HR.out.cell 0 rfl 0 rfl;have hc2_gk_1 : w12.cell? ⟨gk,1,none⟩ = some (.string x.f0.f1):=HR.out.cell 0 rfl 1 rfl;have hc2_gk_2 : w12.cell? ⟨gk,2,none⟩ = some (.int .i64 x.f0.f2):=HR.out.cell 0 rfl 2 rfl;have hc2_gk_3 : w12.cell? ⟨gk,3,none⟩ = some (.slice A3 x.f0.f3.length c3):=HR.out.cell 0 rfl 3 rfl;have hc2_gk_4 : w12.cell? ⟨gk,4,none⟩ = some (.int .i64 x.f1.f0):=HR.out.cell 0 rfl 4 rfl;have hc2_gk_5 : w12.cell? ⟨gk,5,none⟩ = some (.string x.f1.f1):=HR.out.cell 0 rfl 5 rfl;have hc2_gk_6 : w12.cell? ⟨gk,6,none⟩ = some (.int .i64 x.f1.f2):=HR.out.cell 0 rfl 6 rfl;have hc2_gk_7 : w12.cell? ⟨gk,7,none⟩ = some (.slice A7 x.f1.f3.length c7):=HR.out.cell 0 rfl 7 rfl;have hc2_gk_8 : w12.cell? ⟨gk,8,none⟩ = some (.string x.f2):=HR.out.cell 0 rfl 8 rfl)
       | (go_at_call 56;with_reducible refine (impl_TermOk.calls k1 x.f0.f0 x.f0.f1 x.f0.f2 A3 c3 x.f0.f3 true w12 (Kd.C_below HI3.out HR.out.bel) HL3.out H1.out).mono ?_;rintro e w13 ⟨rfl,hb⟩;replace HR:=asd (HR.out.step hb);clear hb;clear hc2_gk_0 hc2_gk_1 hc2_gk_2 hc2_gk_3 hc2_gk_4 hc2_gk_5 hc2_gk_6 hc2_gk_7 hc2_gk_8;have hc3_gk_0 : w13.cell? ⟨gk,0,none⟩ = some (.int .i64 x.f0.f0):=HR.out.cell 0 rfl 0 rfl;have hc3_gk_1 : w13.cell? ⟨gk,1,none⟩ = some (.string x.f0.f1):=HR.out.cell 0 rfl 1 rfl;have hc3_gk_2 : w13.cell? ⟨gk,2,none⟩ = some (.int .i64 x.f0.f2):=HR.out.cell 0 rfl 2 rfl;have hc3_gk_3 : w13.cell? ⟨gk,3,none⟩ = some (.slice A3 x.f0.f3.length c3):=HR.out.cell 0 rfl 3 rfl;have hc3_gk_4 : w13.cell? ⟨gk,4,none⟩ = some (.int .i64 x.f1.f0):=HR.out.cell 0 rfl 4 rfl;have hc3_gk_5 : w13.cell? ⟨gk,5,none⟩ = some (.string x.f1.f1):=HR.out.cell 0 rfl 5 rfl;have hc3_gk_6 : w13.cell? ⟨gk,6,none⟩ = some (.int .i64 x.f1.f2):=HR.out.cell 0 rfl 6 rfl;have hc3_gk_7 : w13.cell? ⟨gk,7,none⟩ = some (.slice A7 x.f1.f3.length c7):=HR.out.cell 0 rfl 7 rfl;have hc3_gk_8 : w13.cell? ⟨gk,8,none⟩ = some (.string x.f2):=HR.out.cell 0 rfl 8 rfl)
       | (go_at_call 56;with_reducible refine (impl_TermOk.calls k2 x.f1.f0 x.f1.f1 x.f1.f2 A7 c7 x.f1.f3 true w13 (Kd.C_below HI7.out HR.out.bel) HL7.out H2.out).mono ?_;rintro e w14 ⟨rfl,hb⟩;replace HR:=asd (HR.out.step hb);clear hb;clear hc3_gk_0 hc3_gk_1 hc3_gk_2 hc3_gk_3 hc3_gk_4 hc3_gk_5 hc3_gk_6 hc3_gk_7 hc3_gk_8;have hc4_gk_0 : w14.cell? ⟨gk,0,none⟩ = some (.int .i64 x.f0.f0):=HR.out.cell 0 rfl 0 rfl;have hc4_gk_1 : w14.cell? ⟨gk,1,none⟩ = some (.string x.f0.f1):=HR.out.cell 0 rfl 1 rfl;have hc4_gk_2 : w14.cell? ⟨gk,2,none⟩ = some (.int .i64 x.f0.f2):=HR.out.cell 0 rfl 2 rfl;have hc4_gk_3 : w14.cell? ⟨gk,3,none⟩ = some (.slice A3 x.f0.f3.length c3):=HR.out.cell 0 rfl 3 rfl;have hc4_gk_4 : w14.cell? ⟨gk,4,none⟩ = some (.int .i64 x.f1.f0):=HR.out.cell 0 rfl 4 rfl;have hc4_gk_5 : w14.cell? ⟨gk,5,none⟩ = some (.string x.f1.f1):=HR.out.cell 0 rfl 5 rfl;have hc4_gk_6 : w14.cell? ⟨gk,6,none⟩ = some (.int .i64 x.f1.f2):=HR.out.cell 0 rfl 6 rfl;have hc4_gk_7 : w14.cell? ⟨gk,7,none⟩ = some (.slice A7 x.f1.f3.length c7):=HR.out.cell 0 rfl 7 rfl;have hc4_gk_8 : w14.cell? ⟨gk,8,none⟩ = some (.string x.f2):=HR.out.cell 0 rfl 8 rfl)
       | (go_at_call 57;with_reducible refine (impl_headOk.calls k3 x.f0.f0 x.f0.f1 x.f0.f2 A3 c3 x.f0.f3 true w14 (tab_at HTAB.out HR.out.bel) (Kd.C_below HI3.out HR.out.bel) HL3.out H3.out).mono ?_;rintro e w15 ⟨rfl,hb⟩;replace HR:=asd (HR.out.step hb);clear hb;clear hc4_gk_0 hc4_gk_1 hc4_gk_2 hc4_gk_3 hc4_gk_4 hc4_gk_5 hc4_gk_6 hc4_gk_7 hc4_gk_8))
      go_roundg (xs.length - (i + 1))
      case measure => have:=hi.out;omega
      case rel => exact ⟨i + 1,by rw [next_j i _ hlt' HL.out],⟨by have:=hi.out;omega⟩,⟨by rw [HT.out,List.all_append,HAL.out,List.all_cons,List.all_nil,HCL.out];rfl⟩,⟨HR.out.pick [1] (by decide)⟩⟩
     ·skip
      go_wp2_with (first
       | ((with_reducible refine gate_dst (N:=4) rfl ?_);refine box_event ?hg4 (N:=4) ?hd4 (cs:=#[.int .i64 0,.string (⟨#[]⟩ : ByteArray),.int .i64 0,.slice none 0 0,.int .i64 0,.string (⟨#[]⟩ : ByteArray),.int .i64 0,.slice none 0 0,.string (⟨#[]⟩ : ByteArray)]) (t:=48) ?hr4 ?_;(case hd4 => rfl);(case hg4 => rfl);(case hr4 => first | (go_simp;done) | (go_simp;rfl));intro gk hg w11 hbox hb;replace HR:=asd (HR.out.box hg hb hbox);clear hg hbox hb;have hc1_gk_0 : w11.cell? ⟨gk,0,none⟩ = some (.int .i64 0):=HR.out.cell 0 rfl 0 rfl;have hc1_gk_1 : w11.cell? ⟨gk,1,none⟩ = some (.string (⟨#[]⟩ : ByteArray)):=HR.out.cell 0 rfl 1 rfl;have hc1_gk_2 : w11.cell? ⟨gk,2,none⟩ = some (.int .i64 0):=HR.out.cell 0 rfl 2 rfl;have hc1_gk_3 : w11.cell? ⟨gk,3,none⟩ = some (.slice none 0 0):=HR.out.cell 0 rfl 3 rfl;have hc1_gk_4 : w11.cell? ⟨gk,4,none⟩ = some (.int .i64 0):=HR.out.cell 0 rfl 4 rfl;have hc1_gk_5 : w11.cell? ⟨gk,5,none⟩ = some (.string (⟨#[]⟩ : ByteArray)):=HR.out.cell 0 rfl 5 rfl;have hc1_gk_6 : w11.cell? ⟨gk,6,none⟩ = some (.int .i64 0):=HR.out.cell 0 rfl 6 rfl;have hc1_gk_7 : w11.cell? ⟨gk,7,none⟩ = some (.slice none 0 0):=HR.out.cell 0 rfl 7 rfl;have hc1_gk_8 : w11.cell? ⟨gk,8,none⟩ = some (.string (⟨#[]⟩ : ByteArray)):=HR.out.cell 0 rfl 8 rfl;have fc1_gk_0:=HR.out.free 0 rfl 0;have fc1_gk_1:=HR.out.free 0 rfl 1;have fc1_gk_2:=HR.out.free 0 rfl 2;have fc1_gk_3:=HR.out.free 0 rfl 3;have fc1_gk_4:=HR.out.free 0 rfl 4;have fc1_gk_5:=HR.out.free 0 rfl 5;have fc1_gk_6:=HR.out.free 0 rfl 6;have fc1_gk_7:=HR.out.free 0 rfl 7;have fc1_gk_8:=HR.out.free 0 rfl 8)
       | ((with_reducible refine gate_store (t:=48) (p:=4) rfl ?_);refine store_event (t:=48) (p:=4) (v:=?vo_2) (w1:=w11.setCells gk 0 [.int .i64 x.f0.f0,.string x.f0.f1,.int .i64 x.f0.f2,.slice A3 x.f0.f3.length c3,.int .i64 x.f1.f0,.string x.f1.f1,.int .i64 x.f1.f2,.slice A7 x.f1.f3.length c7,.string x.f2]) ?hgs_2 ?hos_2 ?hns_2 ?hrs_2 ?_;(case hos_2 => rfl);(case hgs_2 => rfl);(case hns_2 => rfl);(case hrs_2 => first | (go_simp;done) | (go_simp;rfl));intro w12 hw;replace HR:=asd (hw ▸ HR.out.store 0 rfl [.int .i64 x.f0.f0,.string x.f0.f1,.int .i64 x.f0.f2,.slice A3 x.f0.f3.length c3,.int .i64 x.f1.f0,.string x.f1.f1,.int .i64 x.f1.f2,.slice A7 x.f1.f3.length c7,.string x.f2] rfl);clear hw;clear hc1_gk_0 hc1_gk_1 hc1_gk_2 hc1_gk_3 hc1_gk_4 hc1_gk_5 hc1_gk_6 hc1_gk_7 hc1_gk_8 fc1_gk_0 fc1_gk_1 fc1_gk_2 fc1_gk_3 fc1_gk_4 fc1_gk_5 fc1_gk_6 fc1_gk_7 fc1_gk_8;have hc2_gk_0 : w12.cell? ⟨gk,0,none⟩ = some (.int .i64 x.f0.f0):=HR.out.cell 0 rfl 0 rfl;have hc2_gk_1 : w12.cell? ⟨gk,1,none⟩ = some (.string x.f0.f1):=HR.out.cell 0 rfl 1 rfl;have hc2_gk_2 : w12.cell? ⟨gk,2,none⟩ = some (.int .i64 x.f0.f2):=HR.out.cell 0 rfl 2 rfl;have hc2_gk_3 : w12.cell? ⟨gk,3,none⟩ = some (.slice A3 x.f0.f3.length c3):=HR.out.cell 0 rfl 3 rfl;have hc2_gk_4 : w12.cell? ⟨gk,4,none⟩ = some (.int .i64 x.f1.f0):=HR.out.cell 0 rfl 4 rfl;have hc2_gk_5 : w12.cell? ⟨gk,5,none⟩ = some (.string x.f1.f1):=HR.out.cell 0 rfl 5 rfl;have hc2_gk_6 : w12.cell? ⟨gk,6,none⟩ = some (.int .i64 x.f1.f2):=HR.out.cell 0 rfl 6 rfl;have hc2_gk_7 : w12.cell? ⟨gk,7,none⟩ = some (.slice A7 x.f1.f3.length c7):=HR.out.cell 0 rfl 7 rfl;have hc2_gk_8 : w12.cell? ⟨gk,8,none⟩ = some (.string x.f2):=HR.out.cell 0 rfl 8 rfl)
       | (go_at_call 56;with_reducible refine (impl_TermOk.calls k1 x.f0.f0 x.f0.f1 x.f0.f2 A3 c3 x.f0.f3 true w12 (Kd.C_below HI3.out HR.out.bel) HL3.out H1.out).mono ?_;rintro e w13 ⟨rfl,hb⟩;replace HR:=asd (HR.out.step hb);clear hb;clear hc2_gk_0 hc2_gk_1 hc2_gk_2 hc2_gk_3 hc2_gk_4 hc2_gk_5 hc2_gk_6 hc2_gk_7 hc2_gk_8;have hc3_gk_0 : w13.cell? ⟨gk,0,none⟩ = some (.int .i64 x.f0.f0):=HR.out.cell 0 rfl 0 rfl;have hc3_gk_1 : w13.cell? ⟨gk,1,none⟩ = some (.string x.f0.f1):=HR.out.cell 0 rfl 1 rfl;have hc3_gk_2 : w13.cell? ⟨gk,2,none⟩ = some (.int .i64 x.f0.f2):=HR.out.cell 0 rfl 2 rfl;have hc3_gk_3 : w13.cell? ⟨gk,3,none⟩ = some (.slice A3 x.f0.f3.length c3):=HR.out.cell 0 rfl 3 rfl;have hc3_gk_4 : w13.cell? ⟨gk,4,none⟩ = some (.int .i64 x.f1.f0):=HR.out.cell 0 rfl 4 rfl;have hc3_gk_5 : w13.cell? ⟨gk,5,none⟩ = some (.string x.f1.f1):=HR.out.cell 0 rfl 5 rfl;have hc3_gk_6 : w13.cell? ⟨gk,6,none⟩ = some (.int .i64 x.f1.f2):=HR.out.cell 0 rfl 6 rfl;have hc3_gk_7 : w13.cell? ⟨gk,7,none⟩ = some (.slice A7 x.f1.f3.length c7):=HR.out.cell 0 rfl 7 rfl;have hc3_gk_8 : w13.cell? ⟨gk,8,none⟩ = some (.string x.f2):=HR.out.cell 0 rfl 8 rfl)
       | (go_at_call 56;with_reducible refine (impl_TermOk.calls k2 x.f1.f0 x.f1.f1 x.f1.f2 A7 c7 x.f1.f3 true w13 (Kd.C_below HI7.out HR.out.bel) HL7.out H2.out).mono ?_;rintro e w14 ⟨rfl,hb⟩;replace HR:=asd (HR.out.step hb);clear hb;clear hc3_gk_0 hc3_gk_1 hc3_gk_2 hc3_gk_3 hc3_gk_4 hc3_gk_5 hc3_gk_6 hc3_gk_7 hc3_gk_8;have hc4_gk_0 : w14.cell? ⟨gk,0,none⟩ = some (.int .i64 x.f0.f0):=HR.out.cell 0 rfl 0 rfl;have hc4_gk_1 : w14.cell? ⟨gk,1,none⟩ = some (.string x.f0.f1):=HR.out.cell 0 rfl 1 rfl;have hc4_gk_2 : w14.cell? ⟨gk,2,none⟩ = some (.int .i64 x.f0.f2):=HR.out.cell 0 rfl 2 rfl;have hc4_gk_3 : w14.cell? ⟨gk,3,none⟩ = some (.slice A3 x.f0.f3.length c3):=HR.out.cell 0 rfl 3 rfl;have hc4_gk_4 : w14.cell? ⟨gk,4,none⟩ = some (.int .i64 x.f1.f0):=HR.out.cell 0 rfl 4 rfl;have hc4_gk_5 : w14.cell? ⟨gk,5,none⟩ = some (.string x.f1.f1):=HR.out.cell 0 rfl 5 rfl;have hc4_gk_6 : w14.cell? ⟨gk,6,none⟩ = some (.int .i64 x.f1.f2):=HR.out.cell 0 rfl 6 rfl;have hc4_gk_7 : w14.cell? ⟨gk,7,none⟩ = some (.slice A7 x.f1.f3.length c7):=HR.out.cell 0 rfl 7 rfl;have hc4_gk_8 : w14.cell? ⟨gk,8,none⟩ = some (.string x.f2):=HR.out.cell 0 rfl 8 rfl)
       | (go_at_call 57;with_reducible refine (impl_headOk.calls k3 x.f0.f0 x.f0.f1 x.f0.f2 A3 c3 x.f0.f3 false w14 (tab_at HTAB.out HR.out.bel) (Kd.C_below HI3.out HR.out.bel) HL3.out H3.out).mono ?_;rintro e w15 ⟨rfl,hb⟩;replace HR:=asd (HR.out.step hb);clear hb;clear hc4_gk_0 hc4_gk_1 hc4_gk_2 hc4_gk_3 hc4_gk_4 hc4_gk_5 hc4_gk_6 hc4_gk_7 hc4_gk_8))
      go_ret
      exact ⟨by rw [dbB_no xs os x HM.out (by rw [HCL.out];rfl)];rfl,HR.out.bel⟩
    ·skip
     go_wp2_with (first
      | ((with_reducible refine gate_dst (N:=4) rfl ?_);refine box_event ?hg4 (N:=4) ?hd4 (cs:=#[.int .i64 0,.string (⟨#[]⟩ : ByteArray),.int .i64 0,.slice none 0 0,.int .i64 0,.string (⟨#[]⟩ : ByteArray),.int .i64 0,.slice none 0 0,.string (⟨#[]⟩ : ByteArray)]) (t:=48) ?hr4 ?_;(case hd4 => rfl);(case hg4 => rfl);(case hr4 => first | (go_simp;done) | (go_simp;rfl));intro gk hg w11 hbox hb;replace HR:=asd (HR.out.box hg hb hbox);clear hg hbox hb;have hc1_gk_0 : w11.cell? ⟨gk,0,none⟩ = some (.int .i64 0):=HR.out.cell 0 rfl 0 rfl;have hc1_gk_1 : w11.cell? ⟨gk,1,none⟩ = some (.string (⟨#[]⟩ : ByteArray)):=HR.out.cell 0 rfl 1 rfl;have hc1_gk_2 : w11.cell? ⟨gk,2,none⟩ = some (.int .i64 0):=HR.out.cell 0 rfl 2 rfl;have hc1_gk_3 : w11.cell? ⟨gk,3,none⟩ = some (.slice none 0 0):=HR.out.cell 0 rfl 3 rfl;have hc1_gk_4 : w11.cell? ⟨gk,4,none⟩ = some (.int .i64 0):=HR.out.cell 0 rfl 4 rfl;have hc1_gk_5 : w11.cell? ⟨gk,5,none⟩ = some (.string (⟨#[]⟩ : ByteArray)):=HR.out.cell 0 rfl 5 rfl;have hc1_gk_6 : w11.cell? ⟨gk,6,none⟩ = some (.int .i64 0):=HR.out.cell 0 rfl 6 rfl;have hc1_gk_7 : w11.cell? ⟨gk,7,none⟩ = some (.slice none 0 0):=HR.out.cell 0 rfl 7 rfl;have hc1_gk_8 : w11.cell? ⟨gk,8,none⟩ = some (.string (⟨#[]⟩ : ByteArray)):=HR.out.cell 0 rfl 8 rfl;have fc1_gk_0:=HR.out.free 0 rfl 0;have fc1_gk_1:=HR.out.free 0 rfl 1;have fc1_gk_2:=HR.out.free 0 rfl 2;have fc1_gk_3:=HR.out.free 0 rfl 3;have fc1_gk_4:=HR.out.free 0 rfl 4;have fc1_gk_5:=HR.out.free 0 rfl 5;have fc1_gk_6:=HR.out.free 0 rfl 6;have fc1_gk_7:=HR.out.free 0 rfl 7;have fc1_gk_8:=HR.out.free 0 rfl 8)
      | ((with_reducible refine gate_store (t:=48) (p:=4) rfl ?_);refine store_event (t:=48) (p:=4) (v:=?vo_3) (w1:=w11.setCells gk 0 [.int .i64 x.f0.f0,.string x.f0.f1,.int .i64 x.f0.f2,.slice A3 x.f0.f3.length c3,.int .i64 x.f1.f0,.string x.f1.f1,.int .i64 x.f1.f2,.slice A7 x.f1.f3.length c7,.string x.f2]) ?hgs_3 ?hos_3 ?hns_3 ?hrs_3 ?_;(case hos_3 => rfl);(case hgs_3 => rfl);(case hns_3 => rfl);(case hrs_3 => first | (go_simp;done) | (go_simp;rfl));intro w12 hw;replace HR:=asd (hw ▸ HR.out.store 0 rfl [.int .i64 x.f0.f0,.string x.f0.f1,.int .i64 x.f0.f2,.slice A3 x.f0.f3.length c3,.int .i64 x.f1.f0,.string x.f1.f1,.int .i64 x.f1.f2,.slice A7 x.f1.f3.length c7,.string x.f2] rfl);clear hw;clear hc1_gk_0 hc1_gk_1 hc1_gk_2 hc1_gk_3 hc1_gk_4 hc1_gk_5 hc1_gk_6 hc1_gk_7 hc1_gk_8 fc1_gk_0 fc1_gk_1 fc1_gk_2 fc1_gk_3 fc1_gk_4 fc1_gk_5 fc1_gk_6 fc1_gk_7 fc1_gk_8;have hc2_gk_0 : w12.cell? ⟨gk,0,none⟩ = some (.int .i64 x.f0.f0):=HR.out.cell 0 rfl 0 rfl;have hc2_gk_1 : w12.cell? ⟨gk,1,none⟩ = some (.string x.f0.f1):=HR.out.cell 0 rfl 1 rfl;have hc2_gk_2 : w12.cell? ⟨gk,2,none⟩ = some (.int .i64 x.f0.f2):=HR.out.cell 0 rfl 2 rfl;have hc2_gk_3 : w12.cell? ⟨gk,3,none⟩ = some (.slice A3 x.f0.f3.length c3):=HR.out.cell 0 rfl 3 rfl;have hc2_gk_4 : w12.cell? ⟨gk,4,none⟩ = some (.int .i64 x.f1.f0):=HR.out.cell 0 rfl 4 rfl;have hc2_gk_5 : w12.cell? ⟨gk,5,none⟩ = some (.string x.f1.f1):=HR.out.cell 0 rfl 5 rfl;have hc2_gk_6 : w12.cell? ⟨gk,6,none⟩ = some (.int .i64 x.f1.f2):=HR.out.cell 0 rfl 6 rfl;have hc2_gk_7 : w12.cell? ⟨gk,7,none⟩ = some (.slice A7 x.f1.f3.length c7):=HR.out.cell 0 rfl 7 rfl;have hc2_gk_8 : w12.cell? ⟨gk,8,none⟩ = some (.string x.f2):=HR.out.cell 0 rfl 8 rfl)
      | (go_at_call 56;with_reducible refine (impl_TermOk.calls k1 x.f0.f0 x.f0.f1 x.f0.f2 A3 c3 x.f0.f3 true w12 (Kd.C_below HI3.out HR.out.bel) HL3.out H1.out).mono ?_;rintro e w13 ⟨rfl,hb⟩;replace HR:=asd (HR.out.step hb);clear hb;clear hc2_gk_0 hc2_gk_1 hc2_gk_2 hc2_gk_3 hc2_gk_4 hc2_gk_5 hc2_gk_6 hc2_gk_7 hc2_gk_8;have hc3_gk_0 : w13.cell? ⟨gk,0,none⟩ = some (.int .i64 x.f0.f0):=HR.out.cell 0 rfl 0 rfl;have hc3_gk_1 : w13.cell? ⟨gk,1,none⟩ = some (.string x.f0.f1):=HR.out.cell 0 rfl 1 rfl;have hc3_gk_2 : w13.cell? ⟨gk,2,none⟩ = some (.int .i64 x.f0.f2):=HR.out.cell 0 rfl 2 rfl;have hc3_gk_3 : w13.cell? ⟨gk,3,none⟩ = some (.slice A3 x.f0.f3.length c3):=HR.out.cell 0 rfl 3 rfl;have hc3_gk_4 : w13.cell? ⟨gk,4,none⟩ = some (.int .i64 x.f1.f0):=HR.out.cell 0 rfl 4 rfl;have hc3_gk_5 : w13.cell? ⟨gk,5,none⟩ = some (.string x.f1.f1):=HR.out.cell 0 rfl 5 rfl;have hc3_gk_6 : w13.cell? ⟨gk,6,none⟩ = some (.int .i64 x.f1.f2):=HR.out.cell 0 rfl 6 rfl;have hc3_gk_7 : w13.cell? ⟨gk,7,none⟩ = some (.slice A7 x.f1.f3.length c7):=HR.out.cell 0 rfl 7 rfl;have hc3_gk_8 : w13.cell? ⟨gk,8,none⟩ = some (.string x.f2):=HR.out.cell 0 rfl 8 rfl)
      | (go_at_call 56;with_reducible refine (impl_TermOk.calls k2 x.f1.f0 x.f1.f1 x.f1.f2 A7 c7 x.f1.f3 false w13 (Kd.C_below HI7.out HR.out.bel) HL7.out H2.out).mono ?_;rintro e w14 ⟨rfl,hb⟩;replace HR:=asd (HR.out.step hb);clear hb;clear hc3_gk_0 hc3_gk_1 hc3_gk_2 hc3_gk_3 hc3_gk_4 hc3_gk_5 hc3_gk_6 hc3_gk_7 hc3_gk_8))
     go_ret
     exact ⟨by rw [dbB_no xs os x HM.out (by rw [HCL.out];rfl)];rfl,HR.out.bel⟩
   ·skip
    go_wp2_with (first
     | ((with_reducible refine gate_dst (N:=4) rfl ?_);refine box_event ?hg4 (N:=4) ?hd4 (cs:=#[.int .i64 0,.string (⟨#[]⟩ : ByteArray),.int .i64 0,.slice none 0 0,.int .i64 0,.string (⟨#[]⟩ : ByteArray),.int .i64 0,.slice none 0 0,.string (⟨#[]⟩ : ByteArray)]) (t:=48) ?hr4 ?_;(case hd4 => rfl);(case hg4 => rfl);(case hr4 => first | (go_simp;done) | (go_simp;rfl));intro gk hg w11 hbox hb;replace HR:=asd (HR.out.box hg hb hbox);clear hg hbox hb;have hc1_gk_0 : w11.cell? ⟨gk,0,none⟩ = some (.int .i64 0):=HR.out.cell 0 rfl 0 rfl;have hc1_gk_1 : w11.cell? ⟨gk,1,none⟩ = some (.string (⟨#[]⟩ : ByteArray)):=HR.out.cell 0 rfl 1 rfl;have hc1_gk_2 : w11.cell? ⟨gk,2,none⟩ = some (.int .i64 0):=HR.out.cell 0 rfl 2 rfl;have hc1_gk_3 : w11.cell? ⟨gk,3,none⟩ = some (.slice none 0 0):=HR.out.cell 0 rfl 3 rfl;have hc1_gk_4 : w11.cell? ⟨gk,4,none⟩ = some (.int .i64 0):=HR.out.cell 0 rfl 4 rfl;have hc1_gk_5 : w11.cell? ⟨gk,5,none⟩ = some (.string (⟨#[]⟩ : ByteArray)):=HR.out.cell 0 rfl 5 rfl;have hc1_gk_6 : w11.cell? ⟨gk,6,none⟩ = some (.int .i64 0):=HR.out.cell 0 rfl 6 rfl;have hc1_gk_7 : w11.cell? ⟨gk,7,none⟩ = some (.slice none 0 0):=HR.out.cell 0 rfl 7 rfl;have hc1_gk_8 : w11.cell? ⟨gk,8,none⟩ = some (.string (⟨#[]⟩ : ByteArray)):=HR.out.cell 0 rfl 8 rfl;have fc1_gk_0:=HR.out.free 0 rfl 0;have fc1_gk_1:=HR.out.free 0 rfl 1;have fc1_gk_2:=HR.out.free 0 rfl 2;have fc1_gk_3:=HR.out.free 0 rfl 3;have fc1_gk_4:=HR.out.free 0 rfl 4;have fc1_gk_5:=HR.out.free 0 rfl 5;have fc1_gk_6:=HR.out.free 0 rfl 6;have fc1_gk_7:=HR.out.free 0 rfl 7;have fc1_gk_8:=HR.out.free 0 rfl 8)
     | ((with_reducible refine gate_store (t:=48) (p:=4) rfl ?_);refine store_event (t:=48) (p:=4) (v:=?vo_4) (w1:=w11.setCells gk 0 [.int .i64 x.f0.f0,.string x.f0.f1,.int .i64 x.f0.f2,.slice A3 x.f0.f3.length c3,.int .i64 x.f1.f0,.string x.f1.f1,.int .i64 x.f1.f2,.slice A7 x.f1.f3.length c7,.string x.f2]) ?hgs_4 ?hos_4 ?hns_4 ?hrs_4 ?_;(case hos_4 => rfl);(case hgs_4 => rfl);(case hns_4 => rfl);(case hrs_4 => first | (go_simp;done) | (go_simp;rfl));intro w12 hw;replace HR:=asd (hw ▸ HR.out.store 0 rfl [.int .i64 x.f0.f0,.string x.f0.f1,.int .i64 x.f0.f2,.slice A3 x.f0.f3.length c3,.int .i64 x.f1.f0,.string x.f1.f1,.int .i64 x.f1.f2,.slice A7 x.f1.f3.length c7,.string x.f2] rfl);clear hw;clear hc1_gk_0 hc1_gk_1 hc1_gk_2 hc1_gk_3 hc1_gk_4 hc1_gk_5 hc1_gk_6 hc1_gk_7 hc1_gk_8 fc1_gk_0 fc1_gk_1 fc1_gk_2 fc1_gk_3 fc1_gk_4 fc1_gk_5 fc1_gk_6 fc1_gk_7 fc1_gk_8;have hc2_gk_0 : w12.cell? ⟨gk,0,none⟩ = some (.int .i64 x.f0.f0):=HR.out.cell 0 rfl 0 rfl;have hc2_gk_1 : w12.cell? ⟨gk,1,none⟩ = some (.string x.f0.f1):=HR.out.cell 0 rfl 1 rfl;have hc2_gk_2 : w12.cell? ⟨gk,2,none⟩ = some (.int .i64 x.f0.f2):=HR.out.cell 0 rfl 2 rfl;have hc2_gk_3 : w12.cell? ⟨gk,3,none⟩ = some (.slice A3 x.f0.f3.length c3):=HR.out.cell 0 rfl 3 rfl;have hc2_gk_4 : w12.cell? ⟨gk,4,none⟩ = some (.int .i64 x.f1.f0):=HR.out.cell 0 rfl 4 rfl;have hc2_gk_5 : w12.cell? ⟨gk,5,none⟩ = some (.string x.f1.f1):=HR.out.cell 0 rfl 5 rfl;have hc2_gk_6 : w12.cell? ⟨gk,6,none⟩ = some (.int .i64 x.f1.f2):=HR.out.cell 0 rfl 6 rfl;have hc2_gk_7 : w12.cell? ⟨gk,7,none⟩ = some (.slice A7 x.f1.f3.length c7):=HR.out.cell 0 rfl 7 rfl;have hc2_gk_8 : w12.cell? ⟨gk,8,none⟩ = some (.string x.f2):=HR.out.cell 0 rfl 8 rfl)
     | (go_at_call 56;with_reducible refine (impl_TermOk.calls k1 x.f0.f0 x.f0.f1 x.f0.f2 A3 c3 x.f0.f3 false w12 (Kd.C_below HI3.out HR.out.bel) HL3.out H1.out).mono ?_;rintro e w13 ⟨rfl,hb⟩;replace HR:=asd (HR.out.step hb);clear hb;clear hc2_gk_0 hc2_gk_1 hc2_gk_2 hc2_gk_3 hc2_gk_4 hc2_gk_5 hc2_gk_6 hc2_gk_7 hc2_gk_8))
    go_ret
    exact ⟨by rw [dbB_no xs os x HM.out (by rw [HCL.out];rfl)];rfl,HR.out.bel⟩
  ·have c9b0 : decide ((i : Int) < (xs.length : Int)) = false:=decide_eq_false hlt
   have c9b1 : decide (i < xs.length) = false:=decide_eq_false (by omega)
   have hal : xs.all clB = true:=by have:=HAL.out;rwa [List.take_of_length_le (by omega)] at this
   have HAL2:=asd hal
   clear hal
   have hcA:=HR.out.cell 0 rfl 0 rfl
   have hcB:=HR.out.cell 0 rfl 1 rfl
   by_cases h1 : xs.length ≤ 120
   ·have cx0 : decide ((xs.length : Int) ≤ 120) = true:=decide_eq_true (by omega)
    have cx1 : decide (xs.length ≤ 120) = true:=decide_eq_true h1
    have HX:=asd cx1
    by_cases h2 : os.length ≤ 40
    ·have cy0 : decide ((os.length : Int) ≤ 40) = true:=decide_eq_true (by omega)
     have cy1 : decide (os.length ≤ 40) = true:=decide_eq_true h2
     have HY:=asd cy1
     go_wp2
     go_ret
     exact ⟨by unfold dbB;rw [HAL2.out,HX.out,HY.out];rfl,HR.out.bel⟩
    ·have cy0 : decide ((os.length : Int) ≤ 40) = false:=decide_eq_false (by omega)
     have cy1 : decide (os.length ≤ 40) = false:=decide_eq_false h2
     have HY:=asd cy1
     go_wp2
     go_ret
     exact ⟨by unfold dbB;rw [HAL2.out,HX.out,HY.out];rfl,HR.out.bel⟩
   ·have cx0 : decide ((xs.length : Int) ≤ 120) = false:=decide_eq_false (by omega)
    have cx1 : decide (xs.length ≤ 120) = false:=decide_eq_false h1
    have HX:=asd cx1
    go_wp2
    go_ret
    exact ⟨by unfold dbB;rw [HAL2.out,HX.out];rfl,HR.out.bel⟩
end
def fine48 (c : S48) : Prop:=cn29 c.f0 ≤ 1048577 ∧ nm29 c.f0 ∧ cn29 c.f1 ≤ 1048577 ∧ nm29 c.f1 ∧ c.f0.f1.size ≤ 1048576 ∧ c.f0.f3.length ≤ 1048576
theorem Ev.tt {α : Type} {g f : Nat → Option α} {r : α} (k : Ev g r) : Ev (fun n => if true = true then g n else f n) r:=Ev.pos rfl k
theorem Ev.ff {α : Type} {g f : Nat → Option α} {r : α} (k : Ev f r) : Ev (fun n => if false = true then g n else f n) r:=Ev.neg (by decide) k
theorem spec_clause (c : S48) (h : fine48 c) : Ev (fun k => spec_l08Clause.f k c.f0.f0 c.f0.f1 c.f0.f2 c.f0.f3 c.f1.f0 c.f1.f1 c.f1.f2 c.f1.f3 c.f2) (clB c):=by
 obtain ⟨a1,a2,a3,a4,a5,a6⟩:=h
 unfold spec_l08Clause.f clB okB
 refine Ev.bind (spec_ok_ev c.f0 a1 a2) ?_
 cases (decide (cn29 c.f0 ≤ 400) && rt29 c.f0 1) with
 | false => exact Ev.ff (Ev.now _)
 | true =>
  refine Ev.tt (Ev.bind (spec_ok_ev c.f1 a3 a4) ?_)
  cases (decide (cn29 c.f1 ≤ 400) && rt29 c.f1 1) with
  | false => exact Ev.ff (Ev.now _)
  | true => exact Ev.tt (Ev.bind (spec_head c.f0 a5 a6) (Ev.now _))
theorem dec_nat (a b : Nat) : decide ((a : Int) ≤ (b : Int)) = decide (a ≤ b):=by
 by_cases h : a ≤ b
 ·rw [decide_eq_true h,decide_eq_true (by omega)]
 ·rw [decide_eq_false h,decide_eq_false (by omega)]
theorem spec_db_l (ys : List S48) (o : List ByteArray) (hx : ys.length ≤ 1048577) (hf : ∀ c ∈ ys,fine48 c) (d : Nat) : ∀ i : Nat,i ≤ ys.length → ys.length - i = d → Ev (fun k => spec_DbOk.l0 k i ys o) ((ys.drop i).all clB && (decide (ys.length ≤ 120) && decide (o.length ≤ 40))):=by
 induction d with
 | zero =>
  intro i hi hd
  refine Ev.step (f:=fun _ => some (decide (ys.length ≤ 120) && decide (o.length ≤ 40))) (fun k => ?_) ?_
  ·simp only [spec_DbOk.l0]
   rw [if_neg (by omega),show ((40 : Int)) = ((40 : Nat) : Int) from rfl,dec_nat]
   by_cases c : ys.length ≤ 120
   ·rw [if_pos (by omega),decide_eq_true c,Bool.true_and]
   ·rw [if_neg (by omega),decide_eq_false c,Bool.false_and]
  ·rw [List.drop_eq_nil_of_le (by omega),List.all_nil,Bool.true_and]
   exact Ev.now _
 | succ d ih =>
  intro i hi hd
  have hlt : i < ys.length:=by omega
  have hn:=ih (i + 1) (by omega) (by omega)
  refine Ev.step (f:=fun k => (spec_l08Clause.f k ys[i].f0.f0 ys[i].f0.f1 ys[i].f0.f2 ys[i].f0.f3 ys[i].f1.f0 ys[i].f1.f1 ys[i].f1.f2 ys[i].f1.f3 ys[i].f2).bind fun t => if t = true then spec_DbOk.l0 k ((i + 1 : Nat) : Int) ys o else some false) (fun k => ?_) ?_
  ·simp only [spec_DbOk.l0]
   rw [if_pos (by omega),if_pos (by omega),rd48_at ys i hlt,next_j i _ hlt hx]
  ·refine Ev.bind (f:=fun k t => if t = true then spec_DbOk.l0 k ((i + 1 : Nat) : Int) ys o else some false) (spec_clause ys[i] (hf _ (List.getElem_mem hlt))) ?_
   rw [List.drop_eq_getElem_cons hlt,List.all_cons]
   cases clB ys[i] with
   | false => exact Ev.ff (Ev.now _)
   | true => rw [Bool.true_and];exact Ev.tt hn
section
set_option linter.unusedSectionVars false
variable [fk_laws_szTerm] [fk_laws_eqTerm] [fk_spec_l34Term] [fk_strconv_Itoa]
def EqOk (x : S48) : Prop:=(∃ k,laws_eqTerm.f k x.f0.f0 x.f0.f1 x.f0.f2 x.f0.f3 x.f0.f0 x.f0.f1 x.f0.f2 x.f0.f3 = some true) ∧ ∃ k,laws_eqTerm.f k x.f1.f0 x.f1.f1 x.f1.f2 x.f1.f3 x.f1.f0 x.f1.f1 x.f1.f2 x.f1.f3 = some true
set_option maxHeartbeats 16000000 in
set_option maxRecDepth 100000 in
theorem eqC (x : S48) (hq : EqOk x) (A : Option Addr) (c : Nat) (B : Option Addr) (d : Nat) (A2 : Option Addr) (c2 : Nat) (B2 : Option Addr) (d2 : Nat) (w : World) (hA : Kd.C k29 w A x.f0.f3.length x.f0.f3) (lA : x.f0.f3.length ≤ c) (hB : Kd.C k29 w B x.f1.f3.length x.f1.f3) (lB : x.f1.f3.length ≤ d) (hA2 : Kd.C k29 w A2 x.f0.f3.length x.f0.f3) (lA2 : x.f0.f3.length ≤ c2) (hB2 : Kd.C k29 w B2 x.f1.f3.length x.f1.f3) (lB2 : x.f1.f3.length ≤ d2) :
  Calls Tryd.prog 24 #[.agg #[.int .i64 x.f0.f0,.string x.f0.f1,.int .i64 x.f0.f2,.slice A x.f0.f3.length c,.int .i64 x.f1.f0,.string x.f1.f1,.int .i64 x.f1.f2,.slice B x.f1.f3.length d,.string x.f2],.agg #[.int .i64 x.f0.f0,.string x.f0.f1,.int .i64 x.f0.f2,.slice A2 x.f0.f3.length c2,.int .i64 x.f1.f0,.string x.f1.f1,.int .i64 x.f1.f2,.slice B2 x.f1.f3.length d2,.string x.f2]] w fun e w' => e = .returned (.bool true) ∧ Below w.heap.size w w':=by
 obtain ⟨⟨k1,h1⟩,k2,h2⟩:=hq
 have HA:=asd hA
 have LA:=asd lA
 have HB:=asd hB
 have LB:=asd lB
 have HA2:=asd hA2
 have LA2:=asd lA2
 have HB2:=asd hB2
 have LB2:=asd lB2
 have H1:=asd h1
 have H2:=asd h2
 have HR:=asd (run_law w)
 have cs0 : (x.f2.toList != x.f2.toList) = false:=by simp
 have cs1 : (x.f2.toList == x.f2.toList) = true:=by simp
 clear hA lA hB lB hA2 lA2 hB2 lB2 h1 h2
 go_enter Tryd.func24,Tryd.ntmps24
 go_wp2_with (first
  | ((with_reducible refine gate_dst (N:=2) rfl ?_);refine box_event ?hg2 (N:=2) ?hd2 (cs:=#[.int .i64 x.f0.f0,.string x.f0.f1,.int .i64 x.f0.f2,.slice A x.f0.f3.length c,.int .i64 x.f1.f0,.string x.f1.f1,.int .i64 x.f1.f2,.slice B x.f1.f3.length d,.string x.f2]) (t:=48) ?hr2 ?_;(case hd2 => rfl);(case hg2 => rfl);(case hr2 => first | (go_simp;done) | (go_simp;rfl));intro ga hg w1 hbox hb;replace HR:=asd (HR.out.box hg hb hbox);clear hg hbox hb)
  | ((with_reducible refine gate_dst (N:=3) rfl ?_);refine box_event ?hg3 (N:=3) ?hd3 (cs:=#[.int .i64 x.f0.f0,.string x.f0.f1,.int .i64 x.f0.f2,.slice A2 x.f0.f3.length c2,.int .i64 x.f1.f0,.string x.f1.f1,.int .i64 x.f1.f2,.slice B2 x.f1.f3.length d2,.string x.f2]) (t:=48) ?hr3 ?_;(case hd3 => rfl);(case hg3 => rfl);(case hr3 => first | (go_simp;done) | (go_simp;rfl));intro gb hg w2 hbox hb;replace HR:=asd (HR.out.box hg hb hbox);clear hg hbox hb;have hc2_ga_0 : w2.cell? ⟨ga,0,none⟩ = some (.int .i64 x.f0.f0):=HR.out.cell 1 rfl 0 rfl;have hc2_ga_1 : w2.cell? ⟨ga,1,none⟩ = some (.string x.f0.f1):=HR.out.cell 1 rfl 1 rfl;have hc2_ga_2 : w2.cell? ⟨ga,2,none⟩ = some (.int .i64 x.f0.f2):=HR.out.cell 1 rfl 2 rfl;have hc2_ga_3 : w2.cell? ⟨ga,3,none⟩ = some (.slice A x.f0.f3.length c):=HR.out.cell 1 rfl 3 rfl;have hc2_ga_4 : w2.cell? ⟨ga,4,none⟩ = some (.int .i64 x.f1.f0):=HR.out.cell 1 rfl 4 rfl;have hc2_ga_5 : w2.cell? ⟨ga,5,none⟩ = some (.string x.f1.f1):=HR.out.cell 1 rfl 5 rfl;have hc2_ga_6 : w2.cell? ⟨ga,6,none⟩ = some (.int .i64 x.f1.f2):=HR.out.cell 1 rfl 6 rfl;have hc2_ga_7 : w2.cell? ⟨ga,7,none⟩ = some (.slice B x.f1.f3.length d):=HR.out.cell 1 rfl 7 rfl;have hc2_ga_8 : w2.cell? ⟨ga,8,none⟩ = some (.string x.f2):=HR.out.cell 1 rfl 8 rfl;have hc2_gb_0 : w2.cell? ⟨gb,0,none⟩ = some (.int .i64 x.f0.f0):=HR.out.cell 0 rfl 0 rfl;have hc2_gb_1 : w2.cell? ⟨gb,1,none⟩ = some (.string x.f0.f1):=HR.out.cell 0 rfl 1 rfl;have hc2_gb_2 : w2.cell? ⟨gb,2,none⟩ = some (.int .i64 x.f0.f2):=HR.out.cell 0 rfl 2 rfl;have hc2_gb_3 : w2.cell? ⟨gb,3,none⟩ = some (.slice A2 x.f0.f3.length c2):=HR.out.cell 0 rfl 3 rfl;have hc2_gb_4 : w2.cell? ⟨gb,4,none⟩ = some (.int .i64 x.f1.f0):=HR.out.cell 0 rfl 4 rfl;have hc2_gb_5 : w2.cell? ⟨gb,5,none⟩ = some (.string x.f1.f1):=HR.out.cell 0 rfl 5 rfl;have hc2_gb_6 : w2.cell? ⟨gb,6,none⟩ = some (.int .i64 x.f1.f2):=HR.out.cell 0 rfl 6 rfl;have hc2_gb_7 : w2.cell? ⟨gb,7,none⟩ = some (.slice B2 x.f1.f3.length d2):=HR.out.cell 0 rfl 7 rfl;have hc2_gb_8 : w2.cell? ⟨gb,8,none⟩ = some (.string x.f2):=HR.out.cell 0 rfl 8 rfl)
  | (go_at_call 14;with_reducible refine (laws_eqTerm.calls k1 x.f0.f0 x.f0.f1 x.f0.f2 A c x.f0.f3 x.f0.f0 x.f0.f1 x.f0.f2 A2 c2 x.f0.f3 true w2 (Kd.C_below HA.out HR.out.bel) LA.out (Kd.C_below HA2.out HR.out.bel) LA2.out H1.out).mono ?_;rintro e w3 ⟨rfl,hb⟩;replace HR:=asd (HR.out.step hb);clear hb;clear hc2_ga_0 hc2_ga_1 hc2_ga_2 hc2_ga_3 hc2_ga_4 hc2_ga_5 hc2_ga_6 hc2_ga_7 hc2_ga_8 hc2_gb_0 hc2_gb_1 hc2_gb_2 hc2_gb_3 hc2_gb_4 hc2_gb_5 hc2_gb_6 hc2_gb_7 hc2_gb_8;have hc3_ga_0 : w3.cell? ⟨ga,0,none⟩ = some (.int .i64 x.f0.f0):=HR.out.cell 1 rfl 0 rfl;have hc3_ga_1 : w3.cell? ⟨ga,1,none⟩ = some (.string x.f0.f1):=HR.out.cell 1 rfl 1 rfl;have hc3_ga_2 : w3.cell? ⟨ga,2,none⟩ = some (.int .i64 x.f0.f2):=HR.out.cell 1 rfl 2 rfl;have hc3_ga_3 : w3.cell? ⟨ga,3,none⟩ = some (.slice A x.f0.f3.length c):=HR.out.cell 1 rfl 3 rfl;have hc3_ga_4 : w3.cell? ⟨ga,4,none⟩ = some (.int .i64 x.f1.f0):=HR.out.cell 1 rfl 4 rfl;have hc3_ga_5 : w3.cell? ⟨ga,5,none⟩ = some (.string x.f1.f1):=HR.out.cell 1 rfl 5 rfl;have hc3_ga_6 : w3.cell? ⟨ga,6,none⟩ = some (.int .i64 x.f1.f2):=HR.out.cell 1 rfl 6 rfl;have hc3_ga_7 : w3.cell? ⟨ga,7,none⟩ = some (.slice B x.f1.f3.length d):=HR.out.cell 1 rfl 7 rfl;have hc3_ga_8 : w3.cell? ⟨ga,8,none⟩ = some (.string x.f2):=HR.out.cell 1 rfl 8 rfl;have hc3_gb_0 : w3.cell? ⟨gb,0,none⟩ = some (.int .i64 x.f0.f0):=HR.out.cell 0 rfl 0 rfl;have hc3_gb_1 : w3.cell? ⟨gb,1,none⟩ = some (.string x.f0.f1):=HR.out.cell 0 rfl 1 rfl;have hc3_gb_2 : w3.cell? ⟨gb,2,none⟩ = some (.int .i64 x.f0.f2):=HR.out.cell 0 rfl 2 rfl;have hc3_gb_3 : w3.cell? ⟨gb,3,none⟩ = some (.slice A2 x.f0.f3.length c2):=HR.out.cell 0 rfl 3 rfl;have hc3_gb_4 : w3.cell? ⟨gb,4,none⟩ = some (.int .i64 x.f1.f0):=HR.out.cell 0 rfl 4 rfl;have hc3_gb_5 : w3.cell? ⟨gb,5,none⟩ = some (.string x.f1.f1):=HR.out.cell 0 rfl 5 rfl;have hc3_gb_6 : w3.cell? ⟨gb,6,none⟩ = some (.int .i64 x.f1.f2):=HR.out.cell 0 rfl 6 rfl;have hc3_gb_7 : w3.cell? ⟨gb,7,none⟩ = some (.slice B2 x.f1.f3.length d2):=HR.out.cell 0 rfl 7 rfl;have hc3_gb_8 : w3.cell? ⟨gb,8,none⟩ = some (.string x.f2):=HR.out.cell 0 rfl 8 rfl)
  | (go_at_call 14;with_reducible refine (laws_eqTerm.calls k2 x.f1.f0 x.f1.f1 x.f1.f2 B d x.f1.f3 x.f1.f0 x.f1.f1 x.f1.f2 B2 d2 x.f1.f3 true w3 (Kd.C_below HB.out HR.out.bel) LB.out (Kd.C_below HB2.out HR.out.bel) LB2.out H2.out).mono ?_;rintro e w4 ⟨rfl,hb⟩;replace HR:=asd (HR.out.step hb);clear hb;clear hc3_ga_0 hc3_ga_1 hc3_ga_2 hc3_ga_3 hc3_ga_4 hc3_ga_5 hc3_ga_6 hc3_ga_7 hc3_ga_8 hc3_gb_0 hc3_gb_1 hc3_gb_2 hc3_gb_3 hc3_gb_4 hc3_gb_5 hc3_gb_6 hc3_gb_7 hc3_gb_8;have hc4_ga_0 : w4.cell? ⟨ga,0,none⟩ = some (.int .i64 x.f0.f0):=HR.out.cell 1 rfl 0 rfl;have hc4_ga_1 : w4.cell? ⟨ga,1,none⟩ = some (.string x.f0.f1):=HR.out.cell 1 rfl 1 rfl;have hc4_ga_2 : w4.cell? ⟨ga,2,none⟩ = some (.int .i64 x.f0.f2):=HR.out.cell 1 rfl 2 rfl;have hc4_ga_3 : w4.cell? ⟨ga,3,none⟩ = some (.slice A x.f0.f3.length c):=HR.out.cell 1 rfl 3 rfl;have hc4_ga_4 : w4.cell? ⟨ga,4,none⟩ = some (.int .i64 x.f1.f0):=HR.out.cell 1 rfl 4 rfl;have hc4_ga_5 : w4.cell? ⟨ga,5,none⟩ = some (.string x.f1.f1):=HR.out.cell 1 rfl 5 rfl;have hc4_ga_6 : w4.cell? ⟨ga,6,none⟩ = some (.int .i64 x.f1.f2):=HR.out.cell 1 rfl 6 rfl;have hc4_ga_7 : w4.cell? ⟨ga,7,none⟩ = some (.slice B x.f1.f3.length d):=HR.out.cell 1 rfl 7 rfl;have hc4_ga_8 : w4.cell? ⟨ga,8,none⟩ = some (.string x.f2):=HR.out.cell 1 rfl 8 rfl;have hc4_gb_0 : w4.cell? ⟨gb,0,none⟩ = some (.int .i64 x.f0.f0):=HR.out.cell 0 rfl 0 rfl;have hc4_gb_1 : w4.cell? ⟨gb,1,none⟩ = some (.string x.f0.f1):=HR.out.cell 0 rfl 1 rfl;have hc4_gb_2 : w4.cell? ⟨gb,2,none⟩ = some (.int .i64 x.f0.f2):=HR.out.cell 0 rfl 2 rfl;have hc4_gb_3 : w4.cell? ⟨gb,3,none⟩ = some (.slice A2 x.f0.f3.length c2):=HR.out.cell 0 rfl 3 rfl;have hc4_gb_4 : w4.cell? ⟨gb,4,none⟩ = some (.int .i64 x.f1.f0):=HR.out.cell 0 rfl 4 rfl;have hc4_gb_5 : w4.cell? ⟨gb,5,none⟩ = some (.string x.f1.f1):=HR.out.cell 0 rfl 5 rfl;have hc4_gb_6 : w4.cell? ⟨gb,6,none⟩ = some (.int .i64 x.f1.f2):=HR.out.cell 0 rfl 6 rfl;have hc4_gb_7 : w4.cell? ⟨gb,7,none⟩ = some (.slice B2 x.f1.f3.length d2):=HR.out.cell 0 rfl 7 rfl;have hc4_gb_8 : w4.cell? ⟨gb,8,none⟩ = some (.string x.f2):=HR.out.cell 0 rfl 8 rfl))
 go_ret
 exact ⟨rfl,HR.out.bel⟩
def eqcs6_T : Bool × List (List Nat × List Nat):=(true,[([],[]),([],[]),([0,1],[0,1]),([2],[2]),([],[]),([],[]),([4,5],[4,5]),([6],[6]),([3,7],[3,7]),([8],[8])])
def eqcs6_B : List Nat:=[0,0,3,7,0,0,48,112,255,511]
theorem eqcs6_tab : rtab .any (opsOf Tryd.f30 6) = eqcs6_T:=by kernel_rfl
theorem eqcs6_bits : waitsOk eqcs6_T.2 eqcs6_B = true:=by kernel_rfl
set_option maxHeartbeats 16000000 in
set_option maxRecDepth 100000 in
theorem eqCs (xs : List S48) (hlen : xs.length ≤ 1048576) (ih : ∀ x ∈ xs,EqOk x) (A : Option Addr) (c : Nat) (B : Option Addr) (d : Nat) (w : World) (hC : Kd.C k48 w A xs.length xs) (hc : xs.length ≤ c) (hD : Kd.C k48 w B xs.length xs) (hd : xs.length ≤ d) :
  Calls Tryd.prog 30 #[.slice A xs.length c,.slice B xs.length d] w fun e w' => e = .returned (.bool true) ∧ Below w.heap.size w w':=by
 have HC:=asd hC
 have HCC:=asd hc
 have HD:=asd hD
 have HDD:=asd hd
 have HL:=asd hlen
 have IH:=asd ih
 have HR:=asd (run_law w)
 have cn0 : ((xs.length : Int) != (xs.length : Int)) = false:=by simp
 clear hC hc hD hd hlen ih
 go_enter Tryd.func30,Tryd.ntmps30
 go_wp2
 go_loopg [5] xs.length (fun m v5 w' => ∃ (i : Nat),v5 = .int .i64 i ∧ Aside0 (m + i = xs.length) ∧ Aside0 (Run w w (fun _ => False) [] w'))
 case atStart => exact ⟨0,rfl,⟨by omega⟩,⟨HR.out⟩⟩
 case round =>
  clear HR
  obtain ⟨i,rfl,hi,HR⟩:=hrel
  by_cases hlt : (i : Int) < (xs.length : Int)
  ·have c9b0 : decide ((i : Int) < (xs.length : Int)) = true:=decide_eq_true hlt
   have hlt' : i < xs.length:=by omega
   have c9b1 : decide (i < xs.length) = true:=decide_eq_true hlt'
   obtain ⟨ad,A3,c3,A7,c7,e1,hx0,hx1,hx2,hx3,hx4,hx5,hx6,hx7,hx8,hl3,hi3,hl7,hi7⟩:=at_T48 HC.out (i : Int) (by omega) hlt
   obtain ⟨ae,A4,c4,A8,c8,e2,hy0,hy1,hy2,hy3,hy4,hy5,hy6,hy7,hy8,hl4,hi4,hl8,hi8⟩:=at_T48 HD.out (i : Int) (by omega) hlt
   cases e1
   cases e2
   obtain ⟨x,hx⟩ : ∃ x,x = xs[i]:=⟨_,rfl⟩
   have hr : rd_T48 xs (i : Int) = x:=by rw [hx];unfold rd_T48;simp [List.getD,hlt']
   rw [hr] at hx0 hy0 hx1 hy1 hx2 hy2 hx3 hy3 hx4 hy4 hx5 hy5 hx6 hy6 hx7 hy7 hx8 hy8 hl3 hi3 hl7 hi7 hl4 hi4 hl8 hi8
   simp only [Int.toNat_natCast] at hx0 hy0 hx1 hy1 hx2 hy2 hx3 hy3 hx4 hy4 hx5 hy5 hx6 hy6 hx7 hy7 hx8 hy8
   have HIH:=asd (IH.out x (by rw [hx];exact List.getElem_mem hlt'))
   have HX0:=asd hx0
   have HX1:=asd hx1
   have HX2:=asd hx2
   have HX3:=asd hx3
   have HX4:=asd hx4
   have HX5:=asd hx5
   have HX6:=asd hx6
   have HX7:=asd hx7
   have HX8:=asd hx8
   have HY0:=asd hy0
   have HY1:=asd hy1
   have HY2:=asd hy2
   have HY3:=asd hy3
   have HY4:=asd hy4
   have HY5:=asd hy5
   have HY6:=asd hy6
   have HY7:=asd hy7
   have HY8:=asd hy8
   have HI3:=asd hi3
   have HL3:=asd hl3
   have HI7:=asd hi7
   have HL7:=asd hl7
   have HI4:=asd hi4
   have HL4:=asd hl4
   have HI8:=asd hi8
   have HL8:=asd hl8
   clear hr hx hi3 hl3 hi7 hl7 hi4 hl4 hi8 hl8 hx0 hy0 hx1 hy1 hx2 hy2 hx3 hy3 hx4 hy4 hx5 hy5 hx6 hy6 hx7 hy7 hx8 hy8
   go_wp2_with fail
   replace HR:=asd (HR.out.drew)
   refine start_ (n:=10) (S:=fun z' => z'.cell? (ad.add (i * 9)) = some (.int .i64 x.f0.f0) ∧ z'.cell? ⟨(ad.add (i * 9)).block,(ad.add (i * 9)).off + 1,none⟩ = some (.string x.f0.f1) ∧ z'.cell? ⟨(ad.add (i * 9)).block,(ad.add (i * 9)).off + 2,none⟩ = some (.int .i64 x.f0.f2) ∧ z'.cell? ⟨(ad.add (i * 9)).block,(ad.add (i * 9)).off + 3,none⟩ = some (.slice A3 x.f0.f3.length c3) ∧ z'.cell? ⟨(ad.add (i * 9)).block,(ad.add (i * 9)).off + 4,none⟩ = some (.int .i64 x.f1.f0) ∧ z'.cell? ⟨(ad.add (i * 9)).block,(ad.add (i * 9)).off + 5,none⟩ = some (.string x.f1.f1) ∧ z'.cell? ⟨(ad.add (i * 9)).block,(ad.add (i * 9)).off + 6,none⟩ = some (.int .i64 x.f1.f2) ∧ z'.cell? ⟨(ad.add (i * 9)).block,(ad.add (i * 9)).off + 7,none⟩ = some (.slice A7 x.f1.f3.length c7) ∧ z'.cell? ⟨(ad.add (i * 9)).block,(ad.add (i * 9)).off + 8,none⟩ = some (.string x.f2) ∧ z'.cell? (ae.add (i * 9)) = some (.int .i64 x.f0.f0) ∧ z'.cell? ⟨(ae.add (i * 9)).block,(ae.add (i * 9)).off + 1,none⟩ = some (.string x.f0.f1) ∧ z'.cell? ⟨(ae.add (i * 9)).block,(ae.add (i * 9)).off + 2,none⟩ = some (.int .i64 x.f0.f2) ∧ z'.cell? ⟨(ae.add (i * 9)).block,(ae.add (i * 9)).off + 3,none⟩ = some (.slice A4 x.f0.f3.length c4) ∧ z'.cell? ⟨(ae.add (i * 9)).block,(ae.add (i * 9)).off + 4,none⟩ = some (.int .i64 x.f1.f0) ∧ z'.cell? ⟨(ae.add (i * 9)).block,(ae.add (i * 9)).off + 5,none⟩ = some (.string x.f1.f1) ∧ z'.cell? ⟨(ae.add (i * 9)).block,(ae.add (i * 9)).off + 6,none⟩ = some (.int .i64 x.f1.f2) ∧ z'.cell? ⟨(ae.add (i * 9)).block,(ae.add (i * 9)).off + 7,none⟩ = some (.slice A8 x.f1.f3.length c8) ∧ z'.cell? ⟨(ae.add (i * 9)).block,(ae.add (i * 9)).off + 8,none⟩ = some (.string x.f2)) (ds:=[]) #[false,false,false,false,false,false,false,false,false,false] (by kernel_rfl) rfl rfl ⟨(HR.out.bel.cell (World.block_lt_of_cell? w _ HX0.out)).trans HX0.out,(HR.out.bel.cell (World.block_lt_of_cell? w _ HX1.out)).trans HX1.out,(HR.out.bel.cell (World.block_lt_of_cell? w _ HX2.out)).trans HX2.out,(HR.out.bel.cell (World.block_lt_of_cell? w _ HX3.out)).trans HX3.out,(HR.out.bel.cell (World.block_lt_of_cell? w _ HX4.out)).trans HX4.out,(HR.out.bel.cell (World.block_lt_of_cell? w _ HX5.out)).trans HX5.out,(HR.out.bel.cell (World.block_lt_of_cell? w _ HX6.out)).trans HX6.out,(HR.out.bel.cell (World.block_lt_of_cell? w _ HX7.out)).trans HX7.out,(HR.out.bel.cell (World.block_lt_of_cell? w _ HX8.out)).trans HX8.out,(HR.out.bel.cell (World.block_lt_of_cell? w _ HY0.out)).trans HY0.out,(HR.out.bel.cell (World.block_lt_of_cell? w _ HY1.out)).trans HY1.out,(HR.out.bel.cell (World.block_lt_of_cell? w _ HY2.out)).trans HY2.out,(HR.out.bel.cell (World.block_lt_of_cell? w _ HY3.out)).trans HY3.out,(HR.out.bel.cell (World.block_lt_of_cell? w _ HY4.out)).trans HY4.out,(HR.out.bel.cell (World.block_lt_of_cell? w _ HY5.out)).trans HY5.out,(HR.out.bel.cell (World.block_lt_of_cell? w _ HY6.out)).trans HY6.out,(HR.out.bel.cell (World.block_lt_of_cell? w _ HY7.out)).trans HY7.out,(HR.out.bel.cell (World.block_lt_of_cell? w _ HY8.out)).trans HY8.out⟩ (fun hHeld => ?_);refine with_tabW eqcs6_tab eqcs6_bits (fun HT_ HW_ => ?_)
   generalize wr.drew = w1 at HR hHeld ⊢
   refine pure_ (i:=0) (N:=some 17) (v:=?_) (a':=?_) #[true,false,false,false,false,false,false,false,false,false] rfl rfl (any_of HT_.out (by kernel_rfl)) (fun _ _ _ h => h) (Or.inl ⟨by rfl,?_⟩) ?_ ?_
   rotate_left
   ·intro w'
    go_simp
    with_reducible rfl
   rotate_left
   ·simp only [Act.put,List.setIfInBounds_toArray,List.set_cons_zero,List.set_cons_succ,i64_w,i32_w]
    rfl
   refine pure_ (i:=1) (N:=some 18) (v:=?_) (a':=?_) #[true,true,false,false,false,false,false,false,false,false] rfl rfl (any_of HT_.out (by kernel_rfl)) (fun _ _ _ h => h) (Or.inl ⟨by rfl,?_⟩) ?_ ?_
   rotate_left
   ·intro w'
    go_simp
    with_reducible rfl
   rotate_left
   ·simp only [Act.put,List.setIfInBounds_toArray,List.set_cons_zero,List.set_cons_succ,i64_w,i32_w]
    rfl
   refine pure_ (i:=2) (N:=some 19) (v:=?_) (a':=?_) #[true,true,true,false,false,false,false,false,false,false] rfl rfl (any_of HT_.out (by kernel_rfl)) (fun _ _ _ h => h) (Or.inl ⟨by rfl,?_⟩) ?_ ?_
   rotate_left
   ·intro w'
    go_simp
    with_reducible rfl
   rotate_left
   ·simp only [Act.put,List.setIfInBounds_toArray,List.set_cons_zero,List.set_cons_succ,i64_w,i32_w]
    rfl
   refine take_ (i:=3) (N:=some 20) (v:=?_) (a':=?_) #[true,true,true,true,false,false,false,false,false,false] rfl rfl (take_ofW HT_.out HW_.out (by kernel_rfl)) (fun _ _ _ h => h) (Or.inl ⟨by rfl,?_⟩) hHeld ?_ ?_
   rotate_left
   ·rintro w' ⟨s0,s1,s2,s3,s4,s5,s6,s7,s8,s9,s10,s11,s12,s13,s14,s15,s16,s17⟩
    go_simp
    with_reducible rfl
   rotate_left
   ·simp only [Act.put,List.setIfInBounds_toArray,List.set_cons_zero,List.set_cons_succ,i64_w,i32_w]
    rfl
   refine pure_ (i:=4) (N:=some 21) (v:=?_) (a':=?_) #[true,true,true,true,true,false,false,false,false,false] rfl rfl (any_of HT_.out (by kernel_rfl)) (fun _ _ _ h => h) (Or.inl ⟨by rfl,?_⟩) ?_ ?_
   rotate_left
   ·intro w'
    go_simp
    with_reducible rfl
   rotate_left
   ·simp only [Act.put,List.setIfInBounds_toArray,List.set_cons_zero,List.set_cons_succ,i64_w,i32_w]
    rfl
   refine pure_ (i:=5) (N:=some 22) (v:=?_) (a':=?_) #[true,true,true,true,true,true,false,false,false,false] rfl rfl (any_of HT_.out (by kernel_rfl)) (fun _ _ _ h => h) (Or.inl ⟨by rfl,?_⟩) ?_ ?_
   rotate_left
   ·intro w'
    go_simp
    with_reducible rfl
   rotate_left
   ·simp only [Act.put,List.setIfInBounds_toArray,List.set_cons_zero,List.set_cons_succ,i64_w,i32_w]
    rfl
   refine pure_ (i:=6) (N:=some 23) (v:=?_) (a':=?_) #[true,true,true,true,true,true,true,false,false,false] rfl rfl (any_of HT_.out (by kernel_rfl)) (fun _ _ _ h => h) (Or.inl ⟨by rfl,?_⟩) ?_ ?_
   rotate_left
   ·intro w'
    go_simp
    with_reducible rfl
   rotate_left
   ·simp only [Act.put,List.setIfInBounds_toArray,List.set_cons_zero,List.set_cons_succ,i64_w,i32_w]
    rfl
   refine take_ (i:=7) (N:=some 24) (v:=?_) (a':=?_) #[true,true,true,true,true,true,true,true,false,false] rfl rfl (take_ofW HT_.out HW_.out (by kernel_rfl)) (fun _ _ _ h => h) (Or.inl ⟨by rfl,?_⟩) hHeld ?_ ?_
   rotate_left
   ·rintro w' ⟨s0,s1,s2,s3,s4,s5,s6,s7,s8,s9,s10,s11,s12,s13,s14,s15,s16,s17⟩
    go_simp
    with_reducible rfl
   rotate_left
   ·simp only [Act.put,List.setIfInBounds_toArray,List.set_cons_zero,List.set_cons_succ,i64_w,i32_w]
    rfl
   refine one_ (i:=8) (N:=some 25) #[true,true,true,true,true,true,true,true,true,false] rfl rfl (one_of HT_.out (by kernel_rfl)) (by decide) (fun K hK => ?_)
   refine goes_ Tryd.func24 (by kernel_rfl) rfl #[.agg #[.int .i64 x.f0.f0,.string x.f0.f1,.int .i64 x.f0.f2,.slice A3 x.f0.f3.length c3,.int .i64 x.f1.f0,.string x.f1.f1,.int .i64 x.f1.f2,.slice A7 x.f1.f3.length c7,.string x.f2],.agg #[.int .i64 x.f0.f0,.string x.f0.f1,.int .i64 x.f0.f2,.slice A4 x.f0.f3.length c4,.int .i64 x.f1.f0,.string x.f1.f1,.int .i64 x.f1.f2,.slice A8 x.f1.f3.length c8,.string x.f2]] (by rfl) rfl rfl (by (try simp only [List.map_toArray,List.map_cons,List.map_nil]);first|done|rfl) ?_
   refine (eqC x HIH.out A3 c3 A7 c7 A4 c4 A8 c8 w1 (Kd.C_below HI3.out HR.out.bel) HL3.out (Kd.C_below HI7.out HR.out.bel) HL7.out (Kd.C_below HI4.out HR.out.bel) HL4.out (Kd.C_below HI8.out HR.out.bel) HL8.out).mono ?_
   rintro e w2 ⟨rfl,hb⟩
   refine ⟨_,rfl,?_⟩
   replace HR:=asd (HR.out.step hb)
   clear hb
   refine hK.out _ _ ⟨(HR.out.bel.cell (World.block_lt_of_cell? w _ HX0.out)).trans HX0.out,(HR.out.bel.cell (World.block_lt_of_cell? w _ HX1.out)).trans HX1.out,(HR.out.bel.cell (World.block_lt_of_cell? w _ HX2.out)).trans HX2.out,(HR.out.bel.cell (World.block_lt_of_cell? w _ HX3.out)).trans HX3.out,(HR.out.bel.cell (World.block_lt_of_cell? w _ HX4.out)).trans HX4.out,(HR.out.bel.cell (World.block_lt_of_cell? w _ HX5.out)).trans HX5.out,(HR.out.bel.cell (World.block_lt_of_cell? w _ HX6.out)).trans HX6.out,(HR.out.bel.cell (World.block_lt_of_cell? w _ HX7.out)).trans HX7.out,(HR.out.bel.cell (World.block_lt_of_cell? w _ HX8.out)).trans HX8.out,(HR.out.bel.cell (World.block_lt_of_cell? w _ HY0.out)).trans HY0.out,(HR.out.bel.cell (World.block_lt_of_cell? w _ HY1.out)).trans HY1.out,(HR.out.bel.cell (World.block_lt_of_cell? w _ HY2.out)).trans HY2.out,(HR.out.bel.cell (World.block_lt_of_cell? w _ HY3.out)).trans HY3.out,(HR.out.bel.cell (World.block_lt_of_cell? w _ HY4.out)).trans HY4.out,(HR.out.bel.cell (World.block_lt_of_cell? w _ HY5.out)).trans HY5.out,(HR.out.bel.cell (World.block_lt_of_cell? w _ HY6.out)).trans HY6.out,(HR.out.bel.cell (World.block_lt_of_cell? w _ HY7.out)).trans HY7.out,(HR.out.bel.cell (World.block_lt_of_cell? w _ HY8.out)).trans HY8.out⟩ (fun hHeld => ?_)
   clear hK K
   refine norm_ (a':=?_) ?_ ?_
   rotate_left
   ·show Act.put _ (some 25) _ = _
    simp only [Act.put,List.setIfInBounds_toArray,List.set_cons_zero,List.set_cons_succ,i64_w,i32_w]
    rfl
   refine pure_ (i:=9) (N:=some 26) (v:=?_) (a':=?_) #[true,true,true,true,true,true,true,true,true,true] rfl rfl (any_of HT_.out (by kernel_rfl)) (fun _ _ _ h => h) (Or.inl ⟨by rfl,?_⟩) ?_ ?_
   rotate_left
   ·intro w'
    go_simp
    with_reducible rfl
   rotate_left
   ·simp only [Act.put,List.setIfInBounds_toArray,List.set_cons_zero,List.set_cons_succ,i64_w,i32_w]
    rfl
   refine done_ (done_of HT_.out (by kernel_rfl)) ?_
   try go_wp2
   go_roundg (xs.length - (i + 1))
   case measure => have:=hi.out;omega
   case rel => exact ⟨i + 1,by rw [next_i i _ hlt' HL.out],⟨by have:=hi.out;omega⟩,⟨HR.out⟩⟩
  ·have c9b0 : decide ((i : Int) < (xs.length : Int)) = false:=decide_eq_false hlt
   have c9b1 : decide (i < xs.length) = false:=decide_eq_false (by omega)
   go_wp2
   go_ret
   exact ⟨rfl,HR.out.bel⟩
set_option maxHeartbeats 16000000 in
set_option maxRecDepth 100000 in
theorem eqDb (xs : List S48) (os : List ByteArray) (hlen : xs.length ≤ 1048576) (ih : ∀ x ∈ xs,EqOk x) (k : Nat) (hk : laws_eqStringS.f k os os = some true) (A : Option Addr) (c : Nat) (B : Option Addr) (d : Nat) (A2 : Option Addr) (c2 : Nat) (B2 : Option Addr) (d2 : Nat) (w : World) (hA : Kd.C k48 w A xs.length xs) (lA : xs.length ≤ c) (hB : Kd.C Kd.string w B os.length os) (lB : os.length ≤ d) (hA2 : Kd.C k48 w A2 xs.length xs) (lA2 : xs.length ≤ c2) (hB2 : Kd.C Kd.string w B2 os.length os) (lB2 : os.length ≤ d2) :
  Calls Tryd.prog 19 #[.agg #[.slice A xs.length c,.slice B os.length d],.agg #[.slice A2 xs.length c2,.slice B2 os.length d2]] w fun e w' => e = .returned (.bool true) ∧ Below w.heap.size w w':=by
 have HA:=asd hA
 have LA:=asd lA
 have HB:=asd hB
 have LB:=asd lB
 have HA2:=asd hA2
 have LA2:=asd lA2
 have HB2:=asd hB2
 have LB2:=asd lB2
 have HLEN:=asd hlen
 have IH:=asd ih
 have HK:=asd hk
 have HR:=asd (run_law w)
 clear hA lA hB lB hA2 lA2 hB2 lB2 hlen ih hk
 go_enter Tryd.func19,Tryd.ntmps19
 go_wp2_with (first
  | ((with_reducible refine gate_dst (N:=2) rfl ?_);refine box_event ?hg2 (N:=2) ?hd2 (cs:=#[.slice A xs.length c,.slice B os.length d]) (t:=41) ?hr2 ?_;(case hd2 => rfl);(case hg2 => rfl);(case hr2 => first | (go_simp;done) | (go_simp;rfl));intro ga hg w1 hbox hb;replace HR:=asd (HR.out.box hg hb hbox);clear hg hbox hb)
  | ((with_reducible refine gate_dst (N:=3) rfl ?_);refine box_event ?hg3 (N:=3) ?hd3 (cs:=#[.slice A2 xs.length c2,.slice B2 os.length d2]) (t:=41) ?hr3 ?_;(case hd3 => rfl);(case hg3 => rfl);(case hr3 => first | (go_simp;done) | (go_simp;rfl));intro gb hg w2 hbox hb;replace HR:=asd (HR.out.box hg hb hbox);clear hg hbox hb;have hc2_ga_0 : w2.cell? ⟨ga,0,none⟩ = some (.slice A xs.length c):=HR.out.cell 1 rfl 0 rfl;have hc2_ga_1 : w2.cell? ⟨ga,1,none⟩ = some (.slice B os.length d):=HR.out.cell 1 rfl 1 rfl;have hc2_gb_0 : w2.cell? ⟨gb,0,none⟩ = some (.slice A2 xs.length c2):=HR.out.cell 0 rfl 0 rfl;have hc2_gb_1 : w2.cell? ⟨gb,1,none⟩ = some (.slice B2 os.length d2):=HR.out.cell 0 rfl 1 rfl)
  | (go_at_call 30;with_reducible refine (eqCs xs HLEN.out IH.out A c A2 c2 w2 (Kd.C_below HA.out HR.out.bel) LA.out (Kd.C_below HA2.out HR.out.bel) LA2.out).mono ?_;rintro e w3 ⟨rfl,hb⟩;replace HR:=asd (HR.out.step hb);clear hb;clear hc2_ga_0 hc2_ga_1 hc2_gb_0 hc2_gb_1;have hc3_ga_0 : w3.cell? ⟨ga,0,none⟩ = some (.slice A xs.length c):=HR.out.cell 1 rfl 0 rfl;have hc3_ga_1 : w3.cell? ⟨ga,1,none⟩ = some (.slice B os.length d):=HR.out.cell 1 rfl 1 rfl;have hc3_gb_0 : w3.cell? ⟨gb,0,none⟩ = some (.slice A2 xs.length c2):=HR.out.cell 0 rfl 0 rfl;have hc3_gb_1 : w3.cell? ⟨gb,1,none⟩ = some (.slice B2 os.length d2):=HR.out.cell 0 rfl 1 rfl)
  | (go_at_call 54;with_reducible refine (laws_eqStringS.calls k B d os B2 d2 os true w3 (Kd.C_below HB.out HR.out.bel) LB.out (Kd.C_below HB2.out HR.out.bel) LB2.out HK.out).mono ?_;rintro e w4 ⟨rfl,hb⟩;replace HR:=asd (HR.out.step hb.below);clear hb;clear hc3_ga_0 hc3_ga_1 hc3_gb_0 hc3_gb_1))
 go_ret
 exact ⟨rfl,HR.out.bel⟩
end
end Go.Proofs.YtojedbogbodkiaaDoor.KAd
