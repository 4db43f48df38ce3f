/- Of this claim's own making;what nothing names is struck (fewall.py). -/
import Derived.Test.YtojedbogbodkiaaDoorKGrx8
import Derived.Test.YtojedbogbodkiaaDoorGrC
import Derived.Test.YtojedbogbodkiaaDoorKS
set_option linter.unusedVariables false
set_option linter.unusedSimpArgs false
namespace Go.Proofs.YtojedbogbodkiaaDoor.KGr
open Go.RowKit Go.Proofs.YtojedbogbodkiaaDoorW.PrintWords Go.Proofs.YtojedbogbodkiaaDoorW.PrintLast Go.Proofs.YtojedbogbodkiaaDoorW.PrintMore
section
set_option linter.unusedSectionVars false
variable [fk_laws_szTerm] [fk_laws_eqTerm] [fk_spec_l34Term] [fk_strconv_Itoa]
def MadeT (x : S29) (W : World) (e : Ending) (W' : World) : Prop:=∃ A c,e = .returned (.agg #[.int .i64 x.f0,.string x.f1,.int .i64 x.f2,.slice A x.f3.length c]) ∧ (As.row kD29 29 (.slice A x.f3.length c) x.f3).M W.heap.size W' (fun k => W.heap.size ≤ k) ∧ Below W.heap.size W W'
def RnT (t : S29) : Prop:=∀ (A : Option Addr) (c : Nat) (W : World),Kd.C k29 W A t.f3.length t.f3 → t.f3.length ≤ c → Calls Tryd.prog 104 #[.agg #[.int .i64 t.f0,.string t.f1,.int .i64 t.f2,.slice A t.f3.length c],.func (.func 105) #[] #[]] W fun e W' => MadeT t W e W'
def CpT (t : S29) : Prop:=∀ (A : Option Addr) (c : Nat) (W : World),Kd.C k29 W A t.f3.length t.f3 → t.f3.length ≤ c → Calls Tryd.prog 81 #[.agg #[.int .i64 t.f0,.string t.f1,.int .i64 t.f2,.slice A t.f3.length c]] W fun e W' => MadeT t W e W'
theorem id_calls (a : Int) (w : World) : Calls Tryd.prog 105 #[.int .i64 a] w fun e w' => e = .returned (.int .i64 a) ∧ Below w.heap.size w w':=by
 go_enter Tryd.func105,Tryd.ntmps105
 go_wp2
 go_ret
 exact ⟨rfl,Below.refl _ _⟩
def rn8_T : Bool × List (List Nat × List Nat):=(true,[([],[]),([0],[0]),([],[]),([],[]),([2,3],[2,3]),([4],[4]),([1,5,4],[1,5]),([0,1,2,3,4,5,6],[]),([7,6,6,0,1,2,3,4,5,6],[6,7])])
def rn8_B : List Nat:=[0,1,0,0,12,28,63,127,255]
theorem rn8_tab : rtab .any (opsOf Tryd.f104 8) = rn8_T:=by kernel_rfl
theorem rn8_bits : waitsOk rn8_T.2 rn8_B = true:=by kernel_rfl
set_option maxHeartbeats 16000000 in
set_option maxRecDepth 100000 in
theorem rn_other (t : S29) (hk : (t.f0 == 1) = false) (hlen : t.f3.length ≤ 1048576) (ih : ∀ x ∈ t.f3,RnT x) : RnT t:=by
 intro A c w hC hc
 have HC:=asd hC
 have HCC:=asd hc
 have HL:=asd hlen
 have IH:=asd ih
 have HR:=asd (run_law w)
 clear hC hc hlen ih
 go_enter Tryd.func104,Tryd.ntmps104
 go_wp2_with (first
  | ((with_reducible refine gate_dst (N:=2) rfl ?_);refine nb HR 2 (cs:=#[.int .i64 t.f0,.string t.f1,.int .i64 t.f2,.slice A t.f3.length c]) (t:=29) rfl rfl (by first | (go_simp;done) | (go_simp;rfl)) ?_;clear HR;intro ga w1 HR)
  | ((with_reducible refine gate_dst (N:=4) rfl ?_);refine nb HR 4 (cs:=#[.int .i64 0,.string (⟨#[]⟩ : ByteArray),.int .i64 0,.slice none 0 0]) (t:=29) rfl rfl (by first | (go_simp;done) | (go_simp;rfl)) ?_;clear HR;intro gr w2 HR;obtain ⟨c2ga0,c2ga1,c2ga2,c2ga3⟩:=HR.out.c4 1 rfl)
  | ((with_reducible refine gate_dst (N:=5) rfl ?_);refine nb HR 5 (cs:=#[.int .i64 0,.string (⟨#[]⟩ : ByteArray),.int .i64 0,.slice none 0 0]) (t:=29) rfl rfl (by first | (go_simp;done) | (go_simp;rfl)) ?_;clear HR;intro go w3 HR;clear c2ga0 c2ga1 c2ga2 c2ga3;obtain ⟨c3ga0,c3ga1,c3ga2,c3ga3⟩:=HR.out.c4 2 rfl;obtain ⟨c3go0,c3go1,c3go2,c3go3⟩:=HR.out.c4 0 rfl;obtain ⟨f3go0,f3go1,f3go2,f3go3⟩:=HR.out.f4 0 rfl)
  | ((with_reducible refine gate_store (t:=29) (p:=5) rfl ?_);refine stA HR 0 rfl [.int .i64 t.f0,.string t.f1,.int .i64 t.f2,.slice A t.f3.length c] rfl rfl rfl rfl (by first | (go_simp;done) | (go_simp;rfl)) ?_;clear HR;intro w4 HR;clear c3ga0 c3ga1 c3ga2 c3ga3 c3go0 c3go1 c3go2 c3go3 f3go0 f3go1 f3go2 f3go3;obtain ⟨c4ga0,c4ga1,c4ga2,c4ga3⟩:=HR.out.c4 2 rfl;obtain ⟨c4go0,c4go1,c4go2,c4go3⟩:=HR.out.c4 0 rfl;obtain ⟨f4go0,f4go1,f4go2,f4go3⟩:=HR.out.f4 0 rfl)
  | ((with_reducible refine gate_store (t:=27) (p:=9) rfl ?_);refine st1 HR 0 rfl 3 (.slice none 0 0) rfl rfl rfl (by first | (go_simp;done) | (go_simp;rfl)) (cs':=#[.int .i64 t.f0,.string t.f1,.int .i64 t.f2,.slice none 0 0]) rfl ?_;clear HR;intro w5 HR;clear c4ga0 c4ga1 c4ga2 c4ga3 c4go0 c4go1 c4go2 c4go3 f4go0 f4go1 f4go2 f4go3;obtain ⟨c5ga0,c5ga1,c5ga2,c5ga3⟩:=HR.out.c4 2 rfl;obtain ⟨c5go0,c5go1,c5go2,c5go3⟩:=HR.out.c4 0 rfl;obtain ⟨f5go0,f5go1,f5go2,f5go3⟩:=HR.out.f4 0 rfl))
 go_loopg [21] t.f3.length (fun m v21 w' => ∃ (i : Nat) (A_o : Option Addr) (c_o : Nat) (ys : List S29),v21 = .int .i64 i ∧ Aside0 (m + i = t.f3.length) ∧ Aside0 (ys = t.f3.take i) ∧ Aside0 (Run w w (fun _ => False) [As.row kD29 29 (.slice A_o ys.length c_o) ys,As.box go 29 #[.int .i64 t.f0,.string t.f1,.int .i64 t.f2,.slice A_o ys.length c_o],As.box gr 29 #[.int .i64 0,.string (⟨#[]⟩ : ByteArray),.int .i64 0,.slice none 0 0],As.box ga 29 #[.int .i64 t.f0,.string t.f1,.int .i64 t.f2,.slice A t.f3.length c]] w'))
 case atStart => exact ⟨0,none,0,[],rfl,⟨by omega⟩,⟨rfl⟩,⟨HR.out.push (As.row kD29 29 (.slice none 0 0) []) (Below.refl _ _) (Kd.S_nil _ _ _ _ _)⟩⟩
 case round =>
  clear HR c5ga0 c5ga1 c5ga2 c5ga3 c5go0 c5go1 c5go2 c5go3 f5go0 f5go1 f5go2 f5go3
  obtain ⟨i,A_o,c_o,ys,rfl,hi,HYS,HR⟩:=hrel
  by_cases hlt : (i : Int) < (t.f3.length : Int)
  ·have c3b0 : decide ((i : Int) < (t.f3.length : Int)) = true:=decide_eq_true hlt
   have hlt' : i < t.f3.length:=by omega
   have c3b1 : decide (i < t.f3.length) = true:=decide_eq_true hlt'
   obtain ⟨ad,A3,c3,e1,hx0,hx1,hx2,hx3,hl3,hi3⟩:=at_T29 HC.out (i : Int) (by omega) hlt
   cases e1
   obtain ⟨x,hx⟩ : ∃ x,x = t.f3[i]:=⟨_,rfl⟩
   rw [rd29_at _ i hlt',← hx] at hx0 hx1 hx2 hx3 hl3 hi3
   simp only [Int.toNat_natCast] at hx0 hx1 hx2 hx3
   have HX:=asd (show x ∈ t.f3 by rw [hx];exact List.getElem_mem hlt')
   have HT:=asd (show t.f3.take (i + 1) = ys ++ [x] by rw [hx,HYS.out];exact List.take_succ_eq_append_getElem hlt')
   have HI3:=asd hi3
   have HL3:=asd hl3
   clear hi3 hl3 hx
   replace hx0:=(HR.out.bel.cell (World.block_lt_of_cell? w _ hx0)).trans hx0
   replace hx1:=(HR.out.bel.cell (World.block_lt_of_cell? w _ hx1)).trans hx1
   replace hx2:=(HR.out.bel.cell (World.block_lt_of_cell? w _ hx2)).trans hx2
   replace hx3:=(HR.out.bel.cell (World.block_lt_of_cell? w _ hx3)).trans hx3
   go_wp2_with (first
    | ((with_reducible refine gate_dst (N:=7) rfl ?_);refine nb HR 7 (cs:=#[.int .i64 0,.string (⟨#[]⟩ : ByteArray),.int .i64 0,.slice none 0 0]) (t:=29) rfl rfl (by first | (go_simp;done) | (go_simp;rfl)) ?_;clear HR;intro gk w16 HR;obtain ⟨c6gk0,c6gk1,c6gk2,c6gk3⟩:=HR.out.c4 0 rfl;obtain ⟨f6gk0,f6gk1,f6gk2,f6gk3⟩:=HR.out.f4 0 rfl)
    | ((with_reducible refine gate_store (t:=29) (p:=7) rfl ?_);refine stA HR 0 rfl [.int .i64 x.f0,.string x.f1,.int .i64 x.f2,.slice A3 x.f3.length c3] rfl rfl rfl rfl (by first | (go_simp;done) | (go_simp;rfl)) ?_;clear HR;intro w17 HR;clear c6gk0 c6gk1 c6gk2 c6gk3 f6gk0 f6gk1 f6gk2 f6gk3;obtain ⟨c7gk0,c7gk1,c7gk2,c7gk3⟩:=HR.out.c4 0 rfl;obtain ⟨c7go0,c7go1,c7go2,c7go3⟩:=HR.out.c4 2 rfl))
   replace HR:=asd (HR.out.drew)
   clear c7gk0 c7gk1 c7gk2 c7gk3 c7go0 c7go1 c7go2 c7go3
   refine start_ (n:=9) (S:=fun w' => C4 w' go (.int .i64 t.f0) (.string t.f1) (.int .i64 t.f2) (.slice A_o ys.length c_o) ∧ C4 w' gk (.int .i64 x.f0) (.string x.f1) (.int .i64 x.f2) (.slice A3 x.f3.length c3)) (ds:=[8]) (bl 9 0) (by kernel_rfl) rfl rfl ⟨HR.out.c4 2 rfl,HR.out.c4 0 rfl⟩ (fun hHeld => ?_);refine with_tabW rn8_tab rn8_bits (fun HT_ HW_ => ?_)
   generalize w17.drew = w18 at HR hHeld ⊢
   refine pu 0 25 (bl 9 1) HT_ (by kernel_rfl) rfl rfl (by rfl) (fun _ _ _ h => h) (by intro w';go_simp;with_reducible rfl) (by simp only [Act.put,sa,s0,s1];rfl) ?_
   refine pu 3 28 (bl 9 9) HT_ (by kernel_rfl) rfl rfl (by rfl) (fun _ _ _ h => h) (by intro w';go_simp;with_reducible rfl) (by simp only [Act.put,sa,s0,s1];rfl) ?_
   refine tk 1 26 (bl 9 11) HT_ HW_ (by kernel_rfl) rfl rfl (by rfl) (fun _ _ _ h => h) hHeld (by rintro w' ⟨⟨s0,s1,s2,s3⟩,⟨s4,s5,s6,s7⟩⟩;go_simp;with_reducible rfl) (by simp only [Act.put,sa,s0,s1];rfl) ?_
   refine tk 2 27 (bl 9 15) HT_ HW_ (by kernel_rfl) rfl rfl (by rfl) (fun _ _ _ h => h) hHeld (by rintro w' ⟨⟨s0,s1,s2,s3⟩,⟨s4,s5,s6,s7⟩⟩;go_simp;with_reducible rfl) (by simp only [Act.put,sa,s0,s1];rfl) ?_
   refine on 4 (some 29) (bl 9 31) HT_ (by kernel_rfl) rfl rfl (by decide) ?_
   refine clS Tryd.func104 (by kernel_rfl) rfl #[.agg #[.int .i64 x.f0,.string x.f1,.int .i64 x.f2,.slice A3 x.f3.length c3],.func (.func 105) #[] #[]] (by rfl) rfl rfl (by (try simp only [List.map_toArray,List.map_cons,List.map_nil]);first|done|rfl) ((IH.out x HX.out A3 c3 w18 (Kd.C_below HI3.out HR.out.bel) HL3.out).mono ?_)
   rintro e w19 ⟨A4,c4,rfl,ho,hb⟩
   replace HR:=asd (HR.out.push _ hb ho)
   clear ho hb
   refine ⟨_,rfl,⟨HR.out.c4 3 rfl,HR.out.c4 1 rfl⟩,fun hHeld => ?_⟩
   refine nm (by simp only [Act.put,sa,s0,s1];rfl) ?_
   refine on 5 (some 30) (bl 9 63) HT_ (by kernel_rfl) rfl rfl (by decide) ?_
   refine fun K hK => ?_
   refine value_ (w1:=?_) (v:=?_) (by rfl) rfl ?_ ?_
   rotate_left 2
   ·go_simp
    constructor
    ·rfl
    ·rfl
   refine hK.out _ _ ⟨⟨(blk_cell (blk_alloc (HR.out.has 3 rfl).2 _) 0).trans rfl,(blk_cell (blk_alloc (HR.out.has 3 rfl).2 _) 1).trans rfl,(blk_cell (blk_alloc (HR.out.has 3 rfl).2 _) 2).trans rfl,(blk_cell (blk_alloc (HR.out.has 3 rfl).2 _) 3).trans rfl⟩,⟨(blk_cell (blk_alloc (HR.out.has 1 rfl).2 _) 0).trans rfl,(blk_cell (blk_alloc (HR.out.has 1 rfl).2 _) 1).trans rfl,(blk_cell (blk_alloc (HR.out.has 1 rfl).2 _) 2).trans rfl,(blk_cell (blk_alloc (HR.out.has 1 rfl).2 _) 3).trans rfl⟩⟩ (fun hHeld => ?_)
   clear hK K
   refine nm (by simp only [Act.put,sa,s0,s1];rfl) ?_
   refine on 6 (some 31) (bl 9 127) HT_ (by kernel_rfl) rfl rfl (by decide) ?_
   refine fun K hK => ?_
   refine HR.out.appStep 2 0 kD29 rfl rfl (by decide) x [.int .i64 x.f0,.string x.f1,.int .i64 x.f2,.slice A4 x.f3.length c4] (fun okj hj_ => kD29_mkM _ _ _ x hj_) (by rfl) (.tmp 26) (.tmp 30) 27 (.agg #[(.int .i64 0),(.string ⟨#[]⟩),(.int .i64 0),(.slice none 0 0)]) 56 rfl Tryd.underlying27 info29 rfl (by decide) (by omega) rfl rfl (by have h1_:=HL.out;have h2_ : ys.length ≤ t.f3.length:=(by rw [HYS.out,List.length_take];omega);omega) ?_
   intro v_ w20 hq_
   obtain ⟨l_n,hz_⟩ : ∃ z_,z_ = (ys ++ [x]):=⟨_,rfl⟩
   rw [← hz_] at hq_
   have HZ_n:=asd hz_
   clear hz_
   obtain ⟨A_n,c_n,rfl⟩:=Kd.S_slice (hq_.has 2 rfl)
   replace HR:=asd hq_
   clear hq_
   refine hK.out _ _ ⟨HR.out.c4 3 rfl,HR.out.c4 1 rfl⟩ (fun hHeld => ?_)
   clear hK K
   refine nm (by simp only [Act.put,sa,s0,s1];rfl) ?_
   refine pu 7 32 (bl 9 255) HT_ (by kernel_rfl) rfl rfl (by rfl) (fun _ _ _ h => h) (by intro w';go_simp;with_reducible rfl) (by simp only [Act.put,sa,s0,s1];rfl) ?_
   obtain ⟨hz0_,hz1_,hz2_,hz3_⟩:=HR.out.c4 3 rfl;obtain ⟨fz0_,fz1_,fz2_,fz3_⟩:=HR.out.f4 3 rfl
   refine ls1 HR 3 8 (bl 9 511) HT_ (by kernel_rfl) rfl rfl (by decide) rfl 3 (.slice A_n l_n.length c_n) (by rfl) (by first|(go_simp;done)|(go_simp;rfl)) (cs':=#[.int .i64 t.f0,.string t.f1,.int .i64 t.f2,.slice A_n l_n.length c_n]) rfl ?_
   clear HR hz0_ hz1_ hz2_ hz3_ fz0_ fz1_ fz2_ fz3_;intro w21 HR
   refine done_ (done_of HT_.out (by kernel_rfl)) ?_
   try go_wp2
   go_roundg (t.f3.length - (i + 1))
   case measure => have:=hi.out;omega
   case rel => exact ⟨i + 1,A_n,c_n,l_n,by rw [next_i i _ hlt' HL.out],⟨by have:=hi.out;omega⟩,⟨HZ_n.out.trans HT.out.symm⟩,⟨HR.out.pick [2,3,4,5] (by decide)⟩⟩
  ·have c3b0 : decide ((i : Int) < (t.f3.length : Int)) = false:=decide_eq_false hlt
   have c3b1 : decide (i < t.f3.length) = false:=decide_eq_false (by omega)
   have he : ys = t.f3:=HYS.out.trans (List.take_of_length_le (by omega))
   rw [he] at HR
   clear he
   obtain ⟨c8go0,c8go1,c8go2,c8go3⟩:=HR.out.c4 1 rfl
   obtain ⟨c8gr0,c8gr1,c8gr2,c8gr3⟩:=HR.out.c4 2 rfl
   obtain ⟨f8gr0,f8gr1,f8gr2,f8gr3⟩:=HR.out.f4 2 rfl
   go_wp2_with (first
    | ((with_reducible refine gate_store (t:=29) (p:=4) rfl ?_);refine stA HR 2 rfl [.int .i64 t.f0,.string t.f1,.int .i64 t.f2,.slice A_o t.f3.length c_o] rfl rfl rfl rfl (by first | (go_simp;done) | (go_simp;rfl)) ?_;clear HR;intro w32 HR;clear c8go0 c8go1 c8go2 c8go3 c8gr0 c8gr1 c8gr2 c8gr3 f8gr0 f8gr1 f8gr2 f8gr3))
   refine bodyPost_ret (results_cell_row rfl _ _ gr 29 #[.int .i64 t.f0,.string t.f1,.int .i64 t.f2,.slice A_o t.f3.length c_o] (0,0) _ rfl (HR.out.has 2 rfl).2 Tryd.underlying29 rfl (by kernel_rfl)) rfl ?_
   exact ⟨_,_,rfl,As.mono _ (fun k hk => hk.elim False.elim id) (HR.out.one 0 rfl),HR.out.bel⟩
set_option maxHeartbeats 16000000 in
set_option maxRecDepth 100000 in
theorem rn_var (t : S29) (hk : (t.f0 == 1) = true) (hlen : t.f3.length ≤ 1048576) (ih : ∀ x ∈ t.f3,RnT x) : RnT t:=by
 intro A c w hC hc
 have HC:=asd hC
 have HCC:=asd hc
 have HL:=asd hlen
 have IH:=asd ih
 have HR:=asd (run_law w)
 clear hC hc hlen ih
 go_enter Tryd.func104,Tryd.ntmps104
 go_wp2_with (first
  | ((with_reducible refine gate_dst (N:=2) rfl ?_);refine nb HR 2 (cs:=#[.int .i64 t.f0,.string t.f1,.int .i64 t.f2,.slice A t.f3.length c]) (t:=29) rfl rfl (by first | (go_simp;done) | (go_simp;rfl)) ?_;clear HR;intro ga w1 HR)
  | ((with_reducible refine gate_dst (N:=4) rfl ?_);refine nb HR 4 (cs:=#[.int .i64 0,.string (⟨#[]⟩ : ByteArray),.int .i64 0,.slice none 0 0]) (t:=29) rfl rfl (by first | (go_simp;done) | (go_simp;rfl)) ?_;clear HR;intro gr w2 HR;obtain ⟨c2ga0,c2ga1,c2ga2,c2ga3⟩:=HR.out.c4 1 rfl)
  | ((with_reducible refine gate_dst (N:=5) rfl ?_);refine nb HR 5 (cs:=#[.int .i64 0,.string (⟨#[]⟩ : ByteArray),.int .i64 0,.slice none 0 0]) (t:=29) rfl rfl (by first | (go_simp;done) | (go_simp;rfl)) ?_;clear HR;intro go w3 HR;clear c2ga0 c2ga1 c2ga2 c2ga3;obtain ⟨c3ga0,c3ga1,c3ga2,c3ga3⟩:=HR.out.c4 2 rfl;obtain ⟨c3go0,c3go1,c3go2,c3go3⟩:=HR.out.c4 0 rfl;obtain ⟨f3go0,f3go1,f3go2,f3go3⟩:=HR.out.f4 0 rfl)
  | ((with_reducible refine gate_store (t:=29) (p:=5) rfl ?_);refine stA HR 0 rfl [.int .i64 t.f0,.string t.f1,.int .i64 t.f2,.slice A t.f3.length c] rfl rfl rfl rfl (by first | (go_simp;done) | (go_simp;rfl)) ?_;clear HR;intro w4 HR;clear c3ga0 c3ga1 c3ga2 c3ga3 c3go0 c3go1 c3go2 c3go3 f3go0 f3go1 f3go2 f3go3;obtain ⟨c4ga0,c4ga1,c4ga2,c4ga3⟩:=HR.out.c4 2 rfl;obtain ⟨c4go0,c4go1,c4go2,c4go3⟩:=HR.out.c4 0 rfl;obtain ⟨f4go0,f4go1,f4go2,f4go3⟩:=HR.out.f4 0 rfl)
  | ((with_reducible refine gate_store (t:=27) (p:=9) rfl ?_);refine st1 HR 0 rfl 3 (.slice none 0 0) rfl rfl rfl (by first | (go_simp;done) | (go_simp;rfl)) (cs':=#[.int .i64 t.f0,.string t.f1,.int .i64 t.f2,.slice none 0 0]) rfl ?_;clear HR;intro w5 HR;clear c4ga0 c4ga1 c4ga2 c4ga3 c4go0 c4go1 c4go2 c4go3 f4go0 f4go1 f4go2 f4go3;obtain ⟨c5ga0,c5ga1,c5ga2,c5ga3⟩:=HR.out.c4 2 rfl;obtain ⟨c5go0,c5go1,c5go2,c5go3⟩:=HR.out.c4 0 rfl;obtain ⟨f5go0,f5go1,f5go2,f5go3⟩:=HR.out.f4 0 rfl)
  | (go_at_call 105;(with_reducible refine (id_calls t.f2 w5).mono ?_);rintro e w6 ⟨rfl,hb⟩;replace HR:=asd (HR.out.step hb);clear hb;clear c5ga0 c5ga1 c5ga2 c5ga3 c5go0 c5go1 c5go2 c5go3 f5go0 f5go1 f5go2 f5go3;obtain ⟨c6ga0,c6ga1,c6ga2,c6ga3⟩:=HR.out.c4 2 rfl;obtain ⟨c6go0,c6go1,c6go2,c6go3⟩:=HR.out.c4 0 rfl;obtain ⟨f6go0,f6go1,f6go2,f6go3⟩:=HR.out.f4 0 rfl)
  | ((with_reducible refine gate_store (t:=3) (p:=17) rfl ?_);refine st1 HR 0 rfl 2 (.int .i64 t.f2) rfl rfl rfl (by first | (go_simp;done) | (go_simp;rfl)) (cs':=#[.int .i64 t.f0,.string t.f1,.int .i64 t.f2,.slice none 0 0]) rfl ?_;clear HR;intro w7 HR;clear c6ga0 c6ga1 c6ga2 c6ga3 c6go0 c6go1 c6go2 c6go3 f6go0 f6go1 f6go2 f6go3;obtain ⟨c7ga0,c7ga1,c7ga2,c7ga3⟩:=HR.out.c4 2 rfl;obtain ⟨c7go0,c7go1,c7go2,c7go3⟩:=HR.out.c4 0 rfl;obtain ⟨f7go0,f7go1,f7go2,f7go3⟩:=HR.out.f4 0 rfl))
 go_loopg [21] t.f3.length (fun m v21 w' => ∃ (i : Nat) (A_o : Option Addr) (c_o : Nat) (ys : List S29),v21 = .int .i64 i ∧ Aside0 (m + i = t.f3.length) ∧ Aside0 (ys = t.f3.take i) ∧ Aside0 (Run w w (fun _ => False) [As.row kD29 29 (.slice A_o ys.length c_o) ys,As.box go 29 #[.int .i64 t.f0,.string t.f1,.int .i64 t.f2,.slice A_o ys.length c_o],As.box gr 29 #[.int .i64 0,.string (⟨#[]⟩ : ByteArray),.int .i64 0,.slice none 0 0],As.box ga 29 #[.int .i64 t.f0,.string t.f1,.int .i64 t.f2,.slice A t.f3.length c]] w'))
 case atStart => exact ⟨0,none,0,[],rfl,⟨by omega⟩,⟨rfl⟩,⟨HR.out.push (As.row kD29 29 (.slice none 0 0) []) (Below.refl _ _) (Kd.S_nil _ _ _ _ _)⟩⟩
 case round =>
  clear HR c7ga0 c7ga1 c7ga2 c7ga3 c7go0 c7go1 c7go2 c7go3 f7go0 f7go1 f7go2 f7go3
  obtain ⟨i,A_o,c_o,ys,rfl,hi,HYS,HR⟩:=hrel
  by_cases hlt : (i : Int) < (t.f3.length : Int)
  ·have c3b0 : decide ((i : Int) < (t.f3.length : Int)) = true:=decide_eq_true hlt
   have hlt' : i < t.f3.length:=by omega
   have c3b1 : decide (i < t.f3.length) = true:=decide_eq_true hlt'
   obtain ⟨ad,A3,c3,e1,hx0,hx1,hx2,hx3,hl3,hi3⟩:=at_T29 HC.out (i : Int) (by omega) hlt
   cases e1
   obtain ⟨x,hx⟩ : ∃ x,x = t.f3[i]:=⟨_,rfl⟩
   rw [rd29_at _ i hlt',← hx] at hx0 hx1 hx2 hx3 hl3 hi3
   simp only [Int.toNat_natCast] at hx0 hx1 hx2 hx3
   have HX:=asd (show x ∈ t.f3 by rw [hx];exact List.getElem_mem hlt')
   have HT:=asd (show t.f3.take (i + 1) = ys ++ [x] by rw [hx,HYS.out];exact List.take_succ_eq_append_getElem hlt')
   have HI3:=asd hi3
   have HL3:=asd hl3
   clear hi3 hl3 hx
   replace hx0:=(HR.out.bel.cell (World.block_lt_of_cell? w _ hx0)).trans hx0
   replace hx1:=(HR.out.bel.cell (World.block_lt_of_cell? w _ hx1)).trans hx1
   replace hx2:=(HR.out.bel.cell (World.block_lt_of_cell? w _ hx2)).trans hx2
   replace hx3:=(HR.out.bel.cell (World.block_lt_of_cell? w _ hx3)).trans hx3
   go_wp2_with (first
    | ((with_reducible refine gate_dst (N:=7) rfl ?_);refine nb HR 7 (cs:=#[.int .i64 0,.string (⟨#[]⟩ : ByteArray),.int .i64 0,.slice none 0 0]) (t:=29) rfl rfl (by first | (go_simp;done) | (go_simp;rfl)) ?_;clear HR;intro gk w18 HR;obtain ⟨c8gk0,c8gk1,c8gk2,c8gk3⟩:=HR.out.c4 0 rfl;obtain ⟨f8gk0,f8gk1,f8gk2,f8gk3⟩:=HR.out.f4 0 rfl)
    | ((with_reducible refine gate_store (t:=29) (p:=7) rfl ?_);refine stA HR 0 rfl [.int .i64 x.f0,.string x.f1,.int .i64 x.f2,.slice A3 x.f3.length c3] rfl rfl rfl rfl (by first | (go_simp;done) | (go_simp;rfl)) ?_;clear HR;intro w19 HR;clear c8gk0 c8gk1 c8gk2 c8gk3 f8gk0 f8gk1 f8gk2 f8gk3;obtain ⟨c9gk0,c9gk1,c9gk2,c9gk3⟩:=HR.out.c4 0 rfl;obtain ⟨c9go0,c9go1,c9go2,c9go3⟩:=HR.out.c4 2 rfl))
   replace HR:=asd (HR.out.drew)
   clear c9gk0 c9gk1 c9gk2 c9gk3 c9go0 c9go1 c9go2 c9go3
   refine start_ (n:=9) (S:=fun w' => C4 w' go (.int .i64 t.f0) (.string t.f1) (.int .i64 t.f2) (.slice A_o ys.length c_o) ∧ C4 w' gk (.int .i64 x.f0) (.string x.f1) (.int .i64 x.f2) (.slice A3 x.f3.length c3)) (ds:=[8]) (bl 9 0) (by kernel_rfl) rfl rfl ⟨HR.out.c4 2 rfl,HR.out.c4 0 rfl⟩ (fun hHeld => ?_);refine with_tabW rn8_tab rn8_bits (fun HT_ HW_ => ?_)
   generalize w19.drew = w20 at HR hHeld ⊢
   refine pu 0 25 (bl 9 1) HT_ (by kernel_rfl) rfl rfl (by rfl) (fun _ _ _ h => h) (by intro w';go_simp;with_reducible rfl) (by simp only [Act.put,sa,s0,s1];rfl) ?_
   refine pu 3 28 (bl 9 9) HT_ (by kernel_rfl) rfl rfl (by rfl) (fun _ _ _ h => h) (by intro w';go_simp;with_reducible rfl) (by simp only [Act.put,sa,s0,s1];rfl) ?_
   refine tk 1 26 (bl 9 11) HT_ HW_ (by kernel_rfl) rfl rfl (by rfl) (fun _ _ _ h => h) hHeld (by rintro w' ⟨⟨s0,s1,s2,s3⟩,⟨s4,s5,s6,s7⟩⟩;go_simp;with_reducible rfl) (by simp only [Act.put,sa,s0,s1];rfl) ?_
   refine tk 2 27 (bl 9 15) HT_ HW_ (by kernel_rfl) rfl rfl (by rfl) (fun _ _ _ h => h) hHeld (by rintro w' ⟨⟨s0,s1,s2,s3⟩,⟨s4,s5,s6,s7⟩⟩;go_simp;with_reducible rfl) (by simp only [Act.put,sa,s0,s1];rfl) ?_
   refine on 4 (some 29) (bl 9 31) HT_ (by kernel_rfl) rfl rfl (by decide) ?_
   refine clS Tryd.func104 (by kernel_rfl) rfl #[.agg #[.int .i64 x.f0,.string x.f1,.int .i64 x.f2,.slice A3 x.f3.length c3],.func (.func 105) #[] #[]] (by rfl) rfl rfl (by (try simp only [List.map_toArray,List.map_cons,List.map_nil]);first|done|rfl) ((IH.out x HX.out A3 c3 w20 (Kd.C_below HI3.out HR.out.bel) HL3.out).mono ?_)
   rintro e w21 ⟨A4,c4,rfl,ho,hb⟩
   replace HR:=asd (HR.out.push _ hb ho)
   clear ho hb
   refine ⟨_,rfl,⟨HR.out.c4 3 rfl,HR.out.c4 1 rfl⟩,fun hHeld => ?_⟩
   refine nm (by simp only [Act.put,sa,s0,s1];rfl) ?_
   refine on 5 (some 30) (bl 9 63) HT_ (by kernel_rfl) rfl rfl (by decide) ?_
   refine fun K hK => ?_
   refine value_ (w1:=?_) (v:=?_) (by rfl) rfl ?_ ?_
   rotate_left 2
   ·go_simp
    constructor
    ·rfl
    ·rfl
   refine hK.out _ _ ⟨⟨(blk_cell (blk_alloc (HR.out.has 3 rfl).2 _) 0).trans rfl,(blk_cell (blk_alloc (HR.out.has 3 rfl).2 _) 1).trans rfl,(blk_cell (blk_alloc (HR.out.has 3 rfl).2 _) 2).trans rfl,(blk_cell (blk_alloc (HR.out.has 3 rfl).2 _) 3).trans rfl⟩,⟨(blk_cell (blk_alloc (HR.out.has 1 rfl).2 _) 0).trans rfl,(blk_cell (blk_alloc (HR.out.has 1 rfl).2 _) 1).trans rfl,(blk_cell (blk_alloc (HR.out.has 1 rfl).2 _) 2).trans rfl,(blk_cell (blk_alloc (HR.out.has 1 rfl).2 _) 3).trans rfl⟩⟩ (fun hHeld => ?_)
   clear hK K
   refine nm (by simp only [Act.put,sa,s0,s1];rfl) ?_
   refine on 6 (some 31) (bl 9 127) HT_ (by kernel_rfl) rfl rfl (by decide) ?_
   refine fun K hK => ?_
   refine HR.out.appStep 2 0 kD29 rfl rfl (by decide) x [.int .i64 x.f0,.string x.f1,.int .i64 x.f2,.slice A4 x.f3.length c4] (fun okj hj_ => kD29_mkM _ _ _ x hj_) (by rfl) (.tmp 26) (.tmp 30) 27 (.agg #[(.int .i64 0),(.string ⟨#[]⟩),(.int .i64 0),(.slice none 0 0)]) 56 rfl Tryd.underlying27 info29 rfl (by decide) (by omega) rfl rfl (by have h1_:=HL.out;have h2_ : ys.length ≤ t.f3.length:=(by rw [HYS.out,List.length_take];omega);omega) ?_
   intro v_ w22 hq_
   obtain ⟨l_n,hz_⟩ : ∃ z_,z_ = (ys ++ [x]):=⟨_,rfl⟩
   rw [← hz_] at hq_
   have HZ_n:=asd hz_
   clear hz_
   obtain ⟨A_n,c_n,rfl⟩:=Kd.S_slice (hq_.has 2 rfl)
   replace HR:=asd hq_
   clear hq_
   refine hK.out _ _ ⟨HR.out.c4 3 rfl,HR.out.c4 1 rfl⟩ (fun hHeld => ?_)
   clear hK K
   refine nm (by simp only [Act.put,sa,s0,s1];rfl) ?_
   refine pu 7 32 (bl 9 255) HT_ (by kernel_rfl) rfl rfl (by rfl) (fun _ _ _ h => h) (by intro w';go_simp;with_reducible rfl) (by simp only [Act.put,sa,s0,s1];rfl) ?_
   obtain ⟨hz0_,hz1_,hz2_,hz3_⟩:=HR.out.c4 3 rfl;obtain ⟨fz0_,fz1_,fz2_,fz3_⟩:=HR.out.f4 3 rfl
   refine ls1 HR 3 8 (bl 9 511) HT_ (by kernel_rfl) rfl rfl (by decide) rfl 3 (.slice A_n l_n.length c_n) (by rfl) (by first|(go_simp;done)|(go_simp;rfl)) (cs':=#[.int .i64 t.f0,.string t.f1,.int .i64 t.f2,.slice A_n l_n.length c_n]) rfl ?_
   clear HR hz0_ hz1_ hz2_ hz3_ fz0_ fz1_ fz2_ fz3_;intro w23 HR
   refine done_ (done_of HT_.out (by kernel_rfl)) ?_
   try go_wp2
   go_roundg (t.f3.length - (i + 1))
   case measure => have:=hi.out;omega
   case rel => exact ⟨i + 1,A_n,c_n,l_n,by rw [next_i i _ hlt' HL.out],⟨by have:=hi.out;omega⟩,⟨HZ_n.out.trans HT.out.symm⟩,⟨HR.out.pick [2,3,4,5] (by decide)⟩⟩
  ·have c3b0 : decide ((i : Int) < (t.f3.length : Int)) = false:=decide_eq_false hlt
   have c3b1 : decide (i < t.f3.length) = false:=decide_eq_false (by omega)
   have he : ys = t.f3:=HYS.out.trans (List.take_of_length_le (by omega))
   rw [he] at HR
   clear he
   obtain ⟨c10go0,c10go1,c10go2,c10go3⟩:=HR.out.c4 1 rfl
   obtain ⟨c10gr0,c10gr1,c10gr2,c10gr3⟩:=HR.out.c4 2 rfl
   obtain ⟨f10gr0,f10gr1,f10gr2,f10gr3⟩:=HR.out.f4 2 rfl
   go_wp2_with (first
    | ((with_reducible refine gate_store (t:=29) (p:=4) rfl ?_);refine stA HR 2 rfl [.int .i64 t.f0,.string t.f1,.int .i64 t.f2,.slice A_o t.f3.length c_o] rfl rfl rfl rfl (by first | (go_simp;done) | (go_simp;rfl)) ?_;clear HR;intro w34 HR;clear c10go0 c10go1 c10go2 c10go3 c10gr0 c10gr1 c10gr2 c10gr3 f10gr0 f10gr1 f10gr2 f10gr3))
   refine bodyPost_ret (results_cell_row rfl _ _ gr 29 #[.int .i64 t.f0,.string t.f1,.int .i64 t.f2,.slice A_o t.f3.length c_o] (0,0) _ rfl (HR.out.has 2 rfl).2 Tryd.underlying29 rfl (by kernel_rfl)) rfl ?_
   exact ⟨_,_,rfl,As.mono _ (fun k hk => hk.elim False.elim id) (HR.out.one 0 rfl),HR.out.bel⟩
theorem rn_all (n : Nat) : ∀ t : S29,ht29 t ≤ n → cns29 t.f3 ≤ 1048576 → RnT t:=by
 induction n with
 | zero => intro t h;have:=ht29_eq t;omega
 | succ n ih =>
  intro t h hc
  have h1:=cns29_len t.f3
  have h2 : ∀ x ∈ t.f3,RnT x:=fun x hx => ih x (by have:=hts29_mem hx;have:=ht29_eq t;omega) (by have:=cns29_mem hx;have:=cn29_eq x;omega)
  by_cases hk : (t.f0 == 1) = true
  ·exact rn_var t hk (by omega) h2
  ·exact rn_other t (by simpa using hk) (by omega) h2
set_option maxHeartbeats 16000000 in
set_option maxRecDepth 100000 in
theorem cp_all (t : S29) (hn : RnT t) : CpT t:=by
 intro A c w hC hc
 have HC:=asd hC
 have HCC:=asd hc
 have HN:=asd hn
 have HR:=asd (run_law w)
 clear hC hc hn
 go_enter Tryd.func81,Tryd.ntmps81
 go_wp2_with (first
  | ((with_reducible refine gate_dst (N:=1) rfl ?_);refine nb HR 1 (cs:=#[.int .i64 t.f0,.string t.f1,.int .i64 t.f2,.slice A t.f3.length c]) (t:=29) rfl rfl (by first | (go_simp;done) | (go_simp;rfl)) ?_;clear HR;intro ga w1 HR)
  | ((with_reducible refine gate_dst (N:=2) rfl ?_);refine nb HR 2 (cs:=#[.int .i64 0,.string (⟨#[]⟩ : ByteArray),.int .i64 0,.slice none 0 0]) (t:=29) rfl rfl (by first | (go_simp;done) | (go_simp;rfl)) ?_;clear HR;intro gr w2 HR;obtain ⟨c2ga0,c2ga1,c2ga2,c2ga3⟩:=HR.out.c4 1 rfl)
  | (go_at_call 104;refine (HN.out A c w2 (Kd.C_below HC.out HR.out.bel) HCC.out).mono ?_;rintro e w3 ⟨A4,c4,rfl,ho,hb⟩;replace HR:=asd (HR.out.push _ hb ho);clear hb ho;clear c2ga0 c2ga1 c2ga2 c2ga3;obtain ⟨c3gr0,c3gr1,c3gr2,c3gr3⟩:=HR.out.c4 1 rfl;obtain ⟨f3gr0,f3gr1,f3gr2,f3gr3⟩:=HR.out.f4 1 rfl)
  | ((with_reducible refine gate_store (t:=29) (p:=2) rfl ?_);refine stA HR 1 rfl [.int .i64 t.f0,.string t.f1,.int .i64 t.f2,.slice A4 t.f3.length c4] rfl rfl rfl rfl (by first | (go_simp;done) | (go_simp;rfl)) ?_;clear HR;intro w4 HR;clear c3gr0 c3gr1 c3gr2 c3gr3 f3gr0 f3gr1 f3gr2 f3gr3))
 refine bodyPost_ret (results_cell_row rfl _ _ gr 29 #[.int .i64 t.f0,.string t.f1,.int .i64 t.f2,.slice A4 t.f3.length c4] (0,0) _ rfl (HR.out.has 1 rfl).2 Tryd.underlying29 rfl (by kernel_rfl)) rfl ?_
 exact ⟨_,_,rfl,As.mono _ (fun k hk => hk.elim False.elim id) (HR.out.one 0 rfl),HR.out.bel⟩
end
section
set_option linter.unusedSectionVars false
variable [fk_laws_szTerm] [fk_laws_eqTerm] [fk_spec_l34Term] [fk_strconv_Itoa]
set_option maxHeartbeats 16000000 in
set_option maxRecDepth 100000 in
theorem cts_calls (xs : List S29) (hlen : xs.length ≤ 1048576) (hcp : ∀ x ∈ xs,CpT x) (A : Option Addr) (c : Nat) (w : World) (hC : Kd.C k29 w A xs.length xs) :
  Calls Tryd.prog 102 #[.slice A xs.length c] w fun e w' => ∃ A c,e = .returned (.slice A xs.length c) ∧ (As.row kD29 29 (.slice A xs.length c) xs).M w.heap.size w' (fun k => w.heap.size ≤ k) ∧ Below w.heap.size w w':=by
 have HC:=asd hC
 have HL:=asd hlen
 have HCP:=asd hcp
 have HR:=asd (run_law w)
 clear hC hlen hcp
 go_enter Tryd.func102,Tryd.ntmps102
 go_wp2
 go_loopg [3,8] xs.length (fun m v3 v8 w' => ∃ (i : Nat) (A_o : Option Addr) (c_o : Nat) (ys : List S29),v3 = .slice A_o ys.length c_o ∧ v8 = .int .i64 i ∧ Aside0 (m + i = xs.length) ∧ Aside0 (ys = xs.take i) ∧ Aside0 (Run w w (fun _ => False) [As.row kD29 29 (.slice A_o ys.length c_o) ys] w'))
 case atStart => exact ⟨0,none,0,[],rfl,rfl,⟨by omega⟩,⟨rfl⟩,⟨HR.out.push (As.row kD29 29 (.slice none 0 0) []) (Below.refl _ _) (Kd.S_nil _ _ _ _ _)⟩⟩
 case round =>
  clear HR
  obtain ⟨i,A_o,c_o,ys,rfl,rfl,hi,HYS,HR⟩:=hrel
  by_cases hlt : (i : Int) < (xs.length : Int)
  ·have c3b0 : decide ((i : Int) < (xs.length : Int)) = true:=decide_eq_true hlt
   have hlt' : i < xs.length:=by omega
   have c3b1 : decide (i < xs.length) = true:=decide_eq_true hlt'
   obtain ⟨ad,A3,c3,e1,hx0,hx1,hx2,hx3,hl3,hi3⟩:=at_T29 HC.out (i : Int) (by omega) hlt
   cases e1
   obtain ⟨x,hx⟩ : ∃ x,x = xs[i]:=⟨_,rfl⟩
   rw [rd29_at _ i hlt',← hx] at hx0 hx1 hx2 hx3 hl3 hi3
   simp only [Int.toNat_natCast] at hx0 hx1 hx2 hx3
   have HX:=asd (show x ∈ xs by rw [hx];exact List.getElem_mem hlt')
   have HT:=asd (show xs.take (i + 1) = ys ++ [x] by rw [hx,HYS.out];exact List.take_succ_eq_append_getElem hlt')
   have HI3:=asd hi3
   have HL3:=asd hl3
   clear hi3 hl3 hx
   replace hx0:=(HR.out.bel.cell (World.block_lt_of_cell? w _ hx0)).trans hx0
   replace hx1:=(HR.out.bel.cell (World.block_lt_of_cell? w _ hx1)).trans hx1
   replace hx2:=(HR.out.bel.cell (World.block_lt_of_cell? w _ hx2)).trans hx2
   replace hx3:=(HR.out.bel.cell (World.block_lt_of_cell? w _ hx3)).trans hx3
   go_wp2_with (first
    | ((with_reducible refine gate_dst (N:=5) rfl ?_);refine nb HR 5 (cs:=#[.int .i64 0,.string (⟨#[]⟩ : ByteArray),.int .i64 0,.slice none 0 0]) (t:=29) rfl rfl (by first | (go_simp;done) | (go_simp;rfl)) ?_;clear HR;intro gk w11 HR;obtain ⟨c1gk0,c1gk1,c1gk2,c1gk3⟩:=HR.out.c4 0 rfl;obtain ⟨f1gk0,f1gk1,f1gk2,f1gk3⟩:=HR.out.f4 0 rfl;clear hx0 hx1 hx2 hx3)
    | ((with_reducible refine gate_store (t:=29) (p:=5) rfl ?_);refine stA HR 0 rfl [.int .i64 x.f0,.string x.f1,.int .i64 x.f2,.slice A3 x.f3.length c3] rfl rfl rfl rfl (by first | (go_simp;done) | (go_simp;rfl)) ?_;clear HR;intro w12 HR;clear c1gk0 c1gk1 c1gk2 c1gk3 f1gk0 f1gk1 f1gk2 f1gk3;obtain ⟨c2gk0,c2gk1,c2gk2,c2gk3⟩:=HR.out.c4 0 rfl)
    | (go_at_call 81;refine (HCP.out x HX.out A3 c3 w12 (Kd.C_below HI3.out HR.out.bel) HL3.out).mono ?_;rintro e w13 ⟨A4,c4,rfl,ho,hb⟩;replace HR:=asd (HR.out.push _ hb ho);clear hb ho;clear c2gk0 c2gk1 c2gk2 c2gk3)
    | ((with_reducible refine gate_builtin (b:=.append) (xs:=#[.tmp 12,.tmp 15]) rfl ?_);at_builtin;refine HR.out.app 2 0 kD29 rfl rfl (by decide) x [.int .i64 x.f0,.string x.f1,.int .i64 x.f2,.slice A4 x.f3.length c4] (fun okj hj_ => kD29_mkM _ _ _ x hj_) rfl (.tmp 12) (.tmp 15) 27 (.agg #[(.int .i64 0),(.string ⟨#[]⟩),(.int .i64 0),(.slice none 0 0)]) 56 rfl Tryd.underlying27 info29 rfl (by decide) (by omega) rfl rfl (by have h1_:=HL.out;have h2_ : ys.length ≤ xs.length:=(by rw [HYS.out,List.length_take];omega);omega) ?_;intro v_ w14 hq_;obtain ⟨l_n,hz_⟩ : ∃ z_,z_ = (ys ++ [x]):=⟨_,rfl⟩;rw [← hz_] at hq_;have HZ_n:=asd hz_;clear hz_;obtain ⟨A_n,c_n,rfl⟩:=Kd.S_slice (hq_.has 2 rfl);replace HR:=asd hq_;clear hq_))
   try go_wp2
   go_roundg (xs.length - (i + 1))
   case measure => have:=hi.out;omega
   case rel => exact ⟨i + 1,A_n,c_n,l_n,rfl,by rw [next_i i _ hlt' HL.out],⟨by have:=hi.out;omega⟩,⟨HZ_n.out.trans HT.out.symm⟩,⟨HR.out.pick [2] (by decide)⟩⟩
  ·have c3b0 : decide ((i : Int) < (xs.length : Int)) = false:=decide_eq_false hlt
   have c3b1 : decide (i < xs.length) = false:=decide_eq_false (by omega)
   have he : ys = xs:=HYS.out.trans (List.take_of_length_le (by omega))
   rw [he] at HR ⊢
   clear he
   go_wp2
   go_ret
   exact ⟨_,_,rfl,As.mono _ (fun k hk => hk.elim False.elim id) (HR.out.one 0 rfl),HR.out.bel⟩
end
section
set_option linter.unusedSectionVars false
variable [fk_laws_szTerm] [fk_laws_eqTerm] [fk_spec_l34Term] [fk_strconv_Itoa]
def gw2_T : Bool × List (List Nat × List Nat):=(true,[([],[]),([0],[0]),([],[]),([],[]),([],[]),([3,4],[3,4]),([2,5],[2,5]),([1,6],[1,6]),([7,6,0,1,2,3,4,5,6,7],[7])])
def gw2_B : List Nat:=[0,1,0,0,0,24,60,127,255]
theorem gw2_tab : rtab .any (opsOf Tryd.f98 2) = gw2_T:=by kernel_rfl
theorem gw2_bits : waitsOk gw2_T.2 gw2_B = true:=by kernel_rfl
set_option maxHeartbeats 16000000 in
set_option maxRecDepth 100000 in
theorem with_calls (t : S29) (x y : Int) (hlen : t.f3.length ≤ 1048576) (A : Option Addr) (c : Nat) (w : World) (Q : Nat → Prop) (ht : FootRow w Q (.slice A t.f3.length c,t.f3)) :
  Calls Tryd.prog 98 #[.agg #[.int .i64 t.f0,.string t.f1,.int .i64 t.f2,.slice A t.f3.length c],.agg #[.int .i64 1,.string (⟨#[]⟩ : ByteArray),.int .i64 x,.slice none 0 0],.agg #[.int .i64 1,.string (⟨#[]⟩ : ByteArray),.int .i64 y,.slice none 0 0]] w fun en w' => ∃ A c,en = .returned (.agg #[.int .i64 4,.string t.f1,.int .i64 0,.slice A (t.f3 ++ [varT x,varT y]).length c]) ∧ FootRow w' (fun k => Q k ∨ w.heap.size ≤ k) (.slice A (t.f3 ++ [varT x,varT y]).length c,t.f3 ++ [varT x,varT y]) ∧ Below w.heap.size w w':=by
 have HT:=asd ht
 have HL:=asd hlen
 have HR:=asd (run_law w)
 clear ht hlen
 go_enter Tryd.func98,Tryd.ntmps98
 go_wp2_with (first
  | ((with_reducible refine gate_dst (N:=3) rfl ?_);refine nb HR 3 (cs:=#[.int .i64 t.f0,.string t.f1,.int .i64 t.f2,.slice A t.f3.length c]) (t:=29) rfl rfl (by first | (go_simp;done) | (go_simp;rfl)) ?_;clear HR;intro ga w1 HR)
  | ((with_reducible refine gate_dst (N:=4) rfl ?_);refine nb HR 4 (cs:=#[.int .i64 1,.string (⟨#[]⟩ : ByteArray),.int .i64 x,.slice none 0 0]) (t:=29) rfl rfl (by first | (go_simp;done) | (go_simp;rfl)) ?_;clear HR;intro gx w2 HR)
  | ((with_reducible refine gate_dst (N:=5) rfl ?_);refine nb HR 5 (cs:=#[.int .i64 1,.string (⟨#[]⟩ : ByteArray),.int .i64 y,.slice none 0 0]) (t:=29) rfl rfl (by first | (go_simp;done) | (go_simp;rfl)) ?_;clear HR;intro gy w3 HR)
  | ((with_reducible refine gate_dst (N:=6) rfl ?_);refine nb HR 6 (cs:=#[.int .i64 0,.string (⟨#[]⟩ : ByteArray),.int .i64 0,.slice none 0 0]) (t:=29) rfl rfl (by first | (go_simp;done) | (go_simp;rfl)) ?_;clear HR;intro gr w4 HR;obtain ⟨c4ga0,c4ga1,c4ga2,c4ga3⟩:=HR.out.c4 3 rfl)
  | ((with_reducible refine gate_dst (N:=8) rfl ?_);refine Kd.R_lit (fk w Q) (w0:=w4) w4.heap.size 29 ?hg8 (N:=8) ?hd8 (xs:=[]) (inner:=[]) (ok:=fun k_ => w4.heap.size ≤ k_) (okp:=fun _ => False) ?hr8 ?hp8 (fun _ h => h.elim) (Nat.le_refl _) (Below.refl _ _) (Nat.le_refl _) (by simp) ?_;(case hd8 => rfl);(case hg8 => rfl);(case hr8 => first | (go_simp;done) | (go_simp;rfl));(case hp8 => exact (Reps.none _ _));intro v_ w5 ho hb hg_ hn_;obtain ⟨A0,c0,hv_⟩ : ∃ A_ c_,v_ = .slice A_ 0 c_:=Kd.R_slice ho;subst hv_;replace HR:=asd (HR.out.push (As.rrow (fk w Q) 29 (.slice A0 0 c0) []) hb ho);clear ho hb hg_ hn_;clear c4ga0 c4ga1 c4ga2 c4ga3;obtain ⟨c5ga0,c5ga1,c5ga2,c5ga3⟩:=HR.out.c4 4 rfl)
  | ((with_reducible refine gate_builtin (b:=.append) (xs:=#[.tmp 8,.tmp 10]) rfl ?_);at_builtin;refine HR.out.rowsEvent 0 (fk w Q) rfl rfl (.tmp 8) (.tmp 10) 27 (.agg #[(.int .i64 0),(.string ⟨#[]⟩),(.int .i64 0),(.slice none 0 0)]) 56 rfl Tryd.underlying27 info29 rfl (show 0 < 4 by decide) (by omega) rfl rfl (foot_fk HT.out (HR.out.ro (fun _ _ h => h))) (fun _ _ h => h) (by have h1_:=HL.out;simp only [List.length_nil];omega) ?_;intro v_ w6 hq_;rw [List.nil_append] at hq_;obtain ⟨A1,c1,rfl⟩:=Kd.R_slice (hq_.has 0 rfl);replace HR:=asd hq_;clear hq_;clear c5ga0 c5ga1 c5ga2 c5ga3))
 replace HR:=asd (HR.out.drew)
 refine start_ (n:=9) (S:=fun w' => C4 w' ga (.int .i64 t.f0) (.string t.f1) (.int .i64 t.f2) (.slice A t.f3.length c) ∧ C4 w' gx (.int .i64 1) (.string (⟨#[]⟩ : ByteArray)) (.int .i64 x) (.slice none 0 0) ∧ C4 w' gy (.int .i64 1) (.string (⟨#[]⟩ : ByteArray)) (.int .i64 y) (.slice none 0 0)) (ds:=[8]) (bl 9 0) (by kernel_rfl) rfl rfl ⟨HR.out.c4 4 rfl,HR.out.c4 3 rfl,HR.out.c4 2 rfl⟩ (fun hHeld => ?_);refine with_tabW gw2_tab gw2_bits (fun HT_ HW_ => ?_)
 generalize w6.drew = w7 at HR hHeld ⊢
 refine pu 0 12 (bl 9 1) HT_ (by kernel_rfl) rfl rfl (by rfl) (fun _ _ _ h => h) (by intro w';go_simp;with_reducible rfl) (by simp only [Act.put,sa,s0,s1];rfl) ?_
 refine tk 1 13 (bl 9 3) HT_ HW_ (by kernel_rfl) rfl rfl (by rfl) (fun _ _ _ h => h) hHeld (by rintro w' ⟨⟨s0,s1,s2,s3⟩,⟨s4,s5,s6,s7⟩,⟨s8,s9,s10,s11⟩⟩;go_simp;with_reducible rfl) (by simp only [Act.put,sa,s0,s1];rfl) ?_
 refine pu 2 14 (bl 9 7) HT_ (by kernel_rfl) rfl rfl (by rfl) (fun _ _ _ h => h) (by intro w';go_simp;with_reducible rfl) (by simp only [Act.put,sa,s0,s1];rfl) ?_
 refine tk 3 15 (bl 9 15) HT_ HW_ (by kernel_rfl) rfl rfl (by rfl) (fun _ _ _ h => h) hHeld (by rintro w' ⟨⟨s0,s1,s2,s3⟩,⟨s4,s5,s6,s7⟩,⟨s8,s9,s10,s11⟩⟩;go_simp;with_reducible rfl) (by simp only [Act.put,sa,s0,s1];rfl) ?_
 refine tk 4 16 (bl 9 31) HT_ HW_ (by kernel_rfl) rfl rfl (by rfl) (fun _ _ _ h => h) hHeld (by rintro w' ⟨⟨s0,s1,s2,s3⟩,⟨s4,s5,s6,s7⟩,⟨s8,s9,s10,s11⟩⟩;go_simp;with_reducible rfl) (by simp only [Act.put,sa,s0,s1];rfl) ?_
 refine on 5 (some 17) (bl 9 63) HT_ (by kernel_rfl) rfl rfl (by decide) ?_
 refine ltS HR 17 2 (cs:=#[.int .i64 1,.string (⟨#[]⟩ : ByteArray),.int .i64 x,.slice none 0 0,.int .i64 1,.string (⟨#[]⟩ : ByteArray),.int .i64 y,.slice none 0 0]) (t:=29) (by rfl) rfl (by first|(go_simp;done)|(go_simp;rfl)) ?_
 clear HR;intro gq w8 HR
 refine ⟨⟨HR.out.c4 5 rfl,HR.out.c4 4 rfl,HR.out.c4 3 rfl⟩,fun hHeld => ?_⟩
 refine nm (by simp only [Act.put,sa,s0,s1];rfl) ?_
 refine on 6 (some 18) (bl 9 127) HT_ (by kernel_rfl) rfl rfl (by decide) ?_
 refine fun K hK => ?_
 refine HR.out.rowsStep 1 (fk w Q) rfl (by rfl) (.tmp 14) (.tmp 17) 27 (.agg #[(.int .i64 0),(.string ⟨#[]⟩),(.int .i64 0),(.slice none 0 0)]) 56 rfl Tryd.underlying27 info29 rfl (show 0 < 4 by decide) (by omega) rfl rfl (lit_leaf (HR.out.has 0 rfl).2) (fun _ _ h => leaf_fk h) (by have h1_:=HL.out;omega) ?_
 intro v_ w9 hq_
 obtain ⟨l_n,hz_⟩ : ∃ z_,z_ = (t.f3 ++ [varT x,varT y]):=⟨_,rfl⟩
 rw [← hz_] at hq_
 have HZ:=asd hz_
 clear hz_
 obtain ⟨A2,c2,rfl⟩:=Kd.R_slice (hq_.has 1 rfl)
 replace HR:=asd hq_
 clear hq_
 refine hK.out _ _ ⟨HR.out.c4 5 rfl,HR.out.c4 4 rfl,HR.out.c4 3 rfl⟩ (fun hHeld => ?_)
 clear hK K
 refine nm (by simp only [Act.put,sa,s0,s1];rfl) ?_
 refine pu 7 19 (bl 9 255) HT_ (by kernel_rfl) rfl rfl (by rfl) (fun _ _ _ h => h) (by intro w';go_simp;with_reducible rfl) (by simp only [Act.put,sa,s0,s1];rfl) ?_
 obtain ⟨hz0_,hz1_,hz2_,hz3_⟩:=HR.out.c4 2 rfl;obtain ⟨fz0_,fz1_,fz2_,fz3_⟩:=HR.out.f4 2 rfl
 refine lsA HR 2 8 (bl 9 511) HT_ (by kernel_rfl) rfl rfl (by decide) rfl [.int .i64 4,.string t.f1,.int .i64 0,.slice A2 l_n.length c2] rfl (by rfl) (by first|(go_simp;done)|(go_simp;rfl)) ?_
 clear HR hz0_ hz1_ hz2_ hz3_ fz0_ fz1_ fz2_ fz3_;intro w10 HR
 refine done_ (done_of HT_.out (by kernel_rfl)) ?_
 try go_wp2
 refine bodyPost_ret (results_cell_row rfl _ _ gr 29 #[.int .i64 4,.string t.f1,.int .i64 0,.slice A2 l_n.length c2] (0,0) _ rfl (HR.out.has 2 rfl).2 Tryd.underlying29 rfl (by kernel_rfl)) rfl ?_
 rw [← HZ.out]
 have hl_ : l_n.length = t.f3.length + 2:=by rw [HZ.out,List.length_append];rfl
 try rw [← hl_]
 exact ⟨A2,c2,rfl,fk_row (HR.out.one 1 rfl) (HR.out.ro (fun _ _ h => h)) HR.out.up (fun k hk => .inl hk) (fun k hk => .inr (hk.elim False.elim id)),HR.out.bel⟩
end
section
set_option linter.unusedSectionVars false
variable [fk_laws_szTerm] [fk_laws_eqTerm] [fk_spec_l34Term] [fk_strconv_Itoa]
def gn4_T : Bool × List (List Nat × List Nat):=(true,[([],[]),([0],[0]),([],[]),([2],[2]),([3],[3]),([],[]),([],[]),([5,6],[5,6]),([4,7,4],[4,7]),([1,8,8],[1,8]),([9,9,0,1,2,3,4,5,6,7,8,9],[9])])
def gn4_B : List Nat:=[0,1,0,4,12,0,0,96,252,511,1023]
theorem gn4_tab : rtab .any (opsOf Tryd.f78 4) = gn4_T:=by kernel_rfl
theorem gn4_bits : waitsOk gn4_T.2 gn4_B = true:=by kernel_rfl
set_option maxHeartbeats 16000000 in
set_option maxRecDepth 100000 in
theorem nt_ok2 (a1 : ByteArray) (a2 : Int) (ks : List S29) (x y n : Int) (b : Bool) (s : ByteArray) (w u : World) (g : Nat) (P : Nat → Prop) (A : Option Addr) (c : Nat) (old : Below w.heap.size w u) (hg : w.heap.size ≤ g) (hP : ¬ P g) (hb : u.heap[g]? = some (.cells #[.int .i64 n,.bool b] 92 (0,0))) (ht : FootRow u P (.slice A ks.length c,ks))
  (h3 : ks.length ≤ 3) (hp : ∀ W,Below w.heap.size w W → Kd.C k29 W A ks.length ks → Calls Tryd.prog 13 #[.agg #[.int .i64 2,.string a1,.int .i64 a2,.slice A ks.length c]] W fun e W' => e = .returned (.string s) ∧ Below W.heap.size W W') (hct : ∀ W,Calls Tryd.prog 80 #[.string s] W fun e W' => e = .returned (.bool false) ∧ Below W.heap.size W W') (hcs : ∀ W,Kd.C k29 W A ks.length ks → Calls Tryd.prog 102 #[.slice A ks.length c] W fun e w' => ∃ A c,e = .returned (.slice A ks.length c) ∧ (As.row kD29 29 (.slice A ks.length c) ks).M W.heap.size w' (fun k => W.heap.size ≤ k) ∧ Below W.heap.size W w') :
  Calls Tryd.prog 78 #[.pointer (some ⟨g,0,none⟩),.agg #[.int .i64 2,.string a1,.int .i64 a2,.slice A ks.length c],.agg #[.int .i64 1,.string (⟨#[]⟩ : ByteArray),.int .i64 x,.slice none 0 0],.agg #[.int .i64 1,.string (⟨#[]⟩ : ByteArray),.int .i64 y,.slice none 0 0]] u fun e u' => BPost 92 w u g P (⟨4,a1,0,ks ++ [varT x,varT y]⟩ : S29) n b e u':=by
 have HR:=asd (run_fun (a:=As.box g 92 #[.int .i64 n,.bool b]) (ok:=fun k => k = g) old (fun k hk => hk ▸ hg) ⟨rfl,hb⟩)
 have HP:=asd (show ∀ k,P k → ¬ (k = g) from fun k hk e => hP (e ▸ hk))
 have HT:=asd ht
 have c0 : decide ((ks.length : Int) > 3) = false:=decide_eq_false (by omega)
 have c1 : decide (3 < ks.length) = false:=decide_eq_false (by omega)
 have HPR:=asd hp
 have HCT:=asd hct
 have HCS:=asd hcs
 have HL:=asd h3
 clear old hg hP hb ht h3 hp hct hcs
 go_enter Tryd.func78,Tryd.ntmps78
 go_wp2_with (first
  | ((with_reducible refine gate_dst (N:=5) rfl ?_);refine nb HR 5 (cs:=#[.int .i64 2,.string a1,.int .i64 a2,.slice A ks.length c]) (t:=29) rfl rfl (by first | (go_simp;done) | (go_simp;rfl)) ?_;clear HR;intro ga w1 HR)
  | ((with_reducible refine gate_dst (N:=6) rfl ?_);refine nb HR 6 (cs:=#[.int .i64 1,.string (⟨#[]⟩ : ByteArray),.int .i64 x,.slice none 0 0]) (t:=29) rfl rfl (by first | (go_simp;done) | (go_simp;rfl)) ?_;clear HR;intro gx w2 HR)
  | ((with_reducible refine gate_dst (N:=7) rfl ?_);refine nb HR 7 (cs:=#[.int .i64 1,.string (⟨#[]⟩ : ByteArray),.int .i64 y,.slice none 0 0]) (t:=29) rfl rfl (by first | (go_simp;done) | (go_simp;rfl)) ?_;clear HR;intro gy w3 HR)
  | ((with_reducible refine gate_dst (N:=8) rfl ?_);refine nb HR 8 (cs:=#[.int .i64 0,.string (⟨#[]⟩ : ByteArray),.int .i64 0,.slice none 0 0]) (t:=29) rfl rfl (by first | (go_simp;done) | (go_simp;rfl)) ?_;clear HR;intro gr w4 HR;obtain ⟨c4ga0,c4ga1,c4ga2,c4ga3⟩:=HR.out.c4 3 rfl)
  | (go_at_call 13;have hc_ : Kd.C k29 w4 A ks.length ks:=(term_C (HT.out w4 (HR.out.ro HP.out))).2.2;(with_reducible refine (HPR.out w4 HR.out.bel hc_).mono ?_);rintro e_ w5 ⟨rfl,hb⟩;clear hc_;replace HR:=asd (HR.out.step hb);clear hb;clear c4ga0 c4ga1 c4ga2 c4ga3)
  | (go_at_call 80;(with_reducible refine (HCT.out w5).mono ?_);rintro e_ w6 ⟨rfl,hb⟩;replace HR:=asd (HR.out.step hb);clear hb))
 replace HR:=asd (HR.out.drew)
 refine start_ (n:=11) (S:=fun w' => C4 w' ga (.int .i64 2) (.string a1) (.int .i64 a2) (.slice A ks.length c) ∧ C4 w' gx (.int .i64 1) (.string (⟨#[]⟩ : ByteArray)) (.int .i64 x) (.slice none 0 0) ∧ C4 w' gy (.int .i64 1) (.string (⟨#[]⟩ : ByteArray)) (.int .i64 y) (.slice none 0 0)) (ds:=[10]) (bl 11 0) (by kernel_rfl) rfl rfl ⟨HR.out.c4 3 rfl,HR.out.c4 2 rfl,HR.out.c4 1 rfl⟩ (fun hHeld => ?_);refine with_tabW gn4_tab gn4_bits (fun HT_ HW_ => ?_)
 generalize w6.drew = w7 at HR hHeld ⊢
 refine pu 0 32 (bl 11 1) HT_ (by kernel_rfl) rfl rfl (by rfl) (fun _ _ _ h => h) (by intro w';go_simp;with_reducible rfl) (by simp only [Act.put,sa,s0,s1];rfl) ?_
 refine tk 1 33 (bl 11 3) HT_ HW_ (by kernel_rfl) rfl rfl (by rfl) (fun _ _ _ h => h) hHeld (by rintro w' ⟨⟨s0,s1,s2,s3⟩,⟨s4,s5,s6,s7⟩,⟨s8,s9,s10,s11⟩⟩;go_simp;with_reducible rfl) (by simp only [Act.put,sa,s0,s1];rfl) ?_
 refine pu 2 34 (bl 11 7) HT_ (by kernel_rfl) rfl rfl (by rfl) (fun _ _ _ h => h) (by intro w';go_simp;with_reducible rfl) (by simp only [Act.put,sa,s0,s1];rfl) ?_
 refine tk 3 35 (bl 11 15) HT_ HW_ (by kernel_rfl) rfl rfl (by rfl) (fun _ _ _ h => h) hHeld (by rintro w' ⟨⟨s0,s1,s2,s3⟩,⟨s4,s5,s6,s7⟩,⟨s8,s9,s10,s11⟩⟩;go_simp;with_reducible rfl) (by simp only [Act.put,sa,s0,s1];rfl) ?_
 refine tk 5 37 (bl 11 47) HT_ HW_ (by kernel_rfl) rfl rfl (by rfl) (fun _ _ _ h => h) hHeld (by rintro w' ⟨⟨s0,s1,s2,s3⟩,⟨s4,s5,s6,s7⟩,⟨s8,s9,s10,s11⟩⟩;go_simp;with_reducible rfl) (by simp only [Act.put,sa,s0,s1];rfl) ?_
 refine tk 6 38 (bl 11 111) HT_ HW_ (by kernel_rfl) rfl rfl (by rfl) (fun _ _ _ h => h) hHeld (by rintro w' ⟨⟨s0,s1,s2,s3⟩,⟨s4,s5,s6,s7⟩,⟨s8,s9,s10,s11⟩⟩;go_simp;with_reducible rfl) (by simp only [Act.put,sa,s0,s1];rfl) ?_
 refine join_ (σ:=Option Addr × Nat × Nat) 3 (bl 11 255) (fun s => let ⟨A5,c5,gq⟩:=s;[(36,.slice A5 ks.length c5),(39,.slice (some ⟨gq,0,none⟩) 2 2)]) (fun s w' => let ⟨A5,c5,gq⟩:=s;Run w u (fun k => k = g) [As.box gq 29 #[.int .i64 1,.string (⟨#[]⟩ : ByteArray),.int .i64 x,.slice none 0 0,.int .i64 1,.string (⟨#[]⟩ : ByteArray),.int .i64 y,.slice none 0 0],As.rrow k29 29 (.slice A5 ks.length c5) ks,As.box gr 29 #[.int .i64 0,.string (⟨#[]⟩ : ByteArray),.int .i64 0,.slice none 0 0],As.box gy 29 #[.int .i64 1,.string (⟨#[]⟩ : ByteArray),.int .i64 y,.slice none 0 0],As.box gx 29 #[.int .i64 1,.string (⟨#[]⟩ : ByteArray),.int .i64 x,.slice none 0 0],As.box ga 29 #[.int .i64 2,.string a1,.int .i64 a2,.slice A ks.length c],As.box g 92 #[.int .i64 n,.bool b]] w') ?_ ?_
 rotate_left
 ·intro hCont
  refine tw 4 7 (some 36) (some 39) (bl 11 127) (bl 11 239) HT_ (by kernel_rfl) rfl rfl rfl rfl (by decide) (by decide) ?_ ?_
  ·skip
   refine clS Tryd.func102 (by kernel_rfl) rfl #[.slice A ks.length c] (by rfl) rfl rfl (by (try simp only [List.map_toArray,List.map_cons,List.map_nil]);first|done|rfl) ((HCS.out w7 (term_C (HT.out w7 (HR.out.ro HP.out))).2.2).mono ?_)
   rintro e_ w8 ⟨A5,c5,rfl,ho,hb⟩
   replace HR:=asd (HR.out.push (As.rrow k29 29 (.slice A5 ks.length c5) ks) hb (S_k29 ho))
   clear ho hb
   refine ⟨_,rfl,⟨HR.out.c4 4 rfl,HR.out.c4 3 rfl,HR.out.c4 2 rfl⟩,fun hHeld => ?_⟩
   refine nm (by simp only [Act.put,sa,s0,s1];rfl) ?_
   refine on 7 (some 39) (bl 11 255) HT_ (by kernel_rfl) rfl rfl (by decide) ?_
   refine ltS HR 39 2 (cs:=#[.int .i64 1,.string (⟨#[]⟩ : ByteArray),.int .i64 x,.slice none 0 0,.int .i64 1,.string (⟨#[]⟩ : ByteArray),.int .i64 y,.slice none 0 0]) (t:=29) (by rfl) rfl (by first|(go_simp;done)|(go_simp;rfl)) ?_
   clear HR;intro gq w9 HR
   refine ⟨⟨HR.out.c4 5 rfl,HR.out.c4 4 rfl,HR.out.c4 3 rfl⟩,fun hHeld => ?_⟩
   refine nm (by simp only [Act.put,sa,s0,s1];rfl) ?_
   exact nm (by simp only [putAll,Act.put,sa,s0,s1]) (hCont (A5,c5,gq) _ HR.out)
  ·skip
   refine ltS HR 39 2 (cs:=#[.int .i64 1,.string (⟨#[]⟩ : ByteArray),.int .i64 x,.slice none 0 0,.int .i64 1,.string (⟨#[]⟩ : ByteArray),.int .i64 y,.slice none 0 0]) (t:=29) (by rfl) rfl (by first|(go_simp;done)|(go_simp;rfl)) ?_
   clear HR;intro gq w8 HR
   refine ⟨⟨HR.out.c4 4 rfl,HR.out.c4 3 rfl,HR.out.c4 2 rfl⟩,fun hHeld => ?_⟩
   refine nm (by simp only [Act.put,sa,s0,s1];rfl) ?_
   refine on 4 (some 36) (bl 11 255) HT_ (by kernel_rfl) rfl rfl (by decide) ?_
   refine clS Tryd.func102 (by kernel_rfl) rfl #[.slice A ks.length c] (by rfl) rfl rfl (by (try simp only [List.map_toArray,List.map_cons,List.map_nil]);first|done|rfl) ((HCS.out w8 (term_C (HT.out w8 (HR.out.ro HP.out))).2.2).mono ?_)
   rintro e_ w9 ⟨A5,c5,rfl,ho,hb⟩
   replace HR:=asd (HR.out.push (As.rrow k29 29 (.slice A5 ks.length c5) ks) hb (S_k29 ho))
   clear ho hb
   refine ⟨_,rfl,⟨HR.out.c4 5 rfl,HR.out.c4 4 rfl,HR.out.c4 3 rfl⟩,fun hHeld => ?_⟩
   refine nm (by simp only [Act.put,sa,s0,s1];rfl) ?_
   exact nm (by simp only [putAll,Act.put,sa,s0,s1]) (hCont (A5,c5,gq) _ (HR.out.pick [1,0,2,3,4,5,6] (by decide)))
 rintro ⟨A5,c5,gq⟩ w10 hR_
 clear HR;have HR:=asd hR_;clear hR_;dsimp only at HR
 refine nm (by simp only [putAll,Act.put,sa,s0,s1];rfl) ?_
 refine on 8 (some 40) (bl 11 511) HT_ (by kernel_rfl) rfl rfl (by decide) ?_
 refine fun K hK => ?_
 refine HR.out.rowsStep 1 k29 rfl (by rfl) (.tmp 36) (.tmp 39) 27 (.agg #[(.int .i64 0),(.string ⟨#[]⟩),(.int .i64 0),(.slice none 0 0)]) 56 rfl Tryd.underlying27 info29 rfl (show 0 < 4 by decide) (by omega) rfl rfl (lit_leaf (HR.out.has 0 rfl).2) (fun _ _ h => leaf_k29 h) (by have h1_:=HL.out;omega) ?_
 intro v_ w11 hq_
 obtain ⟨l_n,hz_⟩ : ∃ z_,z_ = (ks ++ [varT x,varT y]):=⟨_,rfl⟩
 rw [← hz_] at hq_
 have HZ:=asd hz_
 clear hz_
 obtain ⟨A2,c2,rfl⟩:=Kd.R_slice (hq_.has 1 rfl)
 replace HR:=asd hq_
 clear hq_
 refine hK.out _ _ ⟨HR.out.c4 5 rfl,HR.out.c4 4 rfl,HR.out.c4 3 rfl⟩ (fun hHeld => ?_)
 clear hK K
 refine nm (by simp only [Act.put,sa,s0,s1];rfl) ?_
 refine on 9 (some 41) (bl 11 1023) HT_ (by kernel_rfl) rfl rfl (by decide) ?_
 refine clS Tryd.func62 (by kernel_rfl) rfl #[.string a1,.slice A2 l_n.length c2] (by rfl) rfl rfl (by (try simp only [List.map_toArray,List.map_cons,List.map_nil]);first|done|rfl) ((struct_calls a1 A2 l_n.length c2 w11).mono ?_)
 rintro e_ w12 ⟨rfl,hb⟩
 replace HR:=asd (HR.out.step hb)
 clear hb
 refine ⟨_,rfl,⟨HR.out.c4 5 rfl,HR.out.c4 4 rfl,HR.out.c4 3 rfl⟩,fun hHeld => ?_⟩
 refine nm (by simp only [Act.put,sa,s0,s1];rfl) ?_
 obtain ⟨hz0_,hz1_,hz2_,hz3_⟩:=HR.out.c4 2 rfl;obtain ⟨fz0_,fz1_,fz2_,fz3_⟩:=HR.out.f4 2 rfl
 refine lsA HR 2 10 (bl 11 2047) HT_ (by kernel_rfl) rfl rfl (by decide) rfl [.int .i64 4,.string a1,.int .i64 0,.slice A2 l_n.length c2] rfl (by rfl) (by first|(go_simp;done)|(go_simp;rfl)) ?_
 clear HR hz0_ hz1_ hz2_ hz3_ fz0_ fz1_ fz2_ fz3_;intro w13 HR
 refine done_ (done_of HT_.out (by kernel_rfl)) ?_
 try go_wp2
 refine bodyPost_ret (results_cell_row rfl _ _ gr 29 #[.int .i64 4,.string a1,.int .i64 0,.slice A2 l_n.length c2] (0,0) _ rfl (HR.out.has 2 rfl).2 Tryd.underlying29 rfl (by kernel_rfl)) rfl ?_
 rw [← HZ.out]
 have hr_:=HR.out.own 1 rfl 6 rfl (by decide) (fun k hk => hk)
 exact ⟨A2,c2,rfl,F_foot (Kd.R_reads' hr_).2.1 (fun W' hW => Kd.R_F hr_ W' (fun k hk hl => hW k (.inr hk) hl)),(HR.out.has 6 rfl).2,HR.out.below,HR.out.kept⟩
set_option maxHeartbeats 16000000 in
set_option maxRecDepth 100000 in
theorem nt_ok4 (a1 : ByteArray) (a2 : Int) (ks : List S29) (x y n : Int) (b : Bool) (s : ByteArray) (w u : World) (g : Nat) (P : Nat → Prop) (A : Option Addr) (c : Nat) (old : Below w.heap.size w u) (hg : w.heap.size ≤ g) (hP : ¬ P g) (hb : u.heap[g]? = some (.cells #[.int .i64 n,.bool b] 92 (0,0))) (ht : FootRow u P (.slice A ks.length c,ks))
  (h3 : ks.length ≤ 3) (hp : ∀ W,Below w.heap.size w W → Kd.C k29 W A ks.length ks → Calls Tryd.prog 13 #[.agg #[.int .i64 4,.string a1,.int .i64 a2,.slice A ks.length c]] W fun e W' => e = .returned (.string s) ∧ Below W.heap.size W W') (hct : ∀ W,Calls Tryd.prog 80 #[.string s] W fun e W' => e = .returned (.bool false) ∧ Below W.heap.size W W') (hcs : ∀ W,Kd.C k29 W A ks.length ks → Calls Tryd.prog 102 #[.slice A ks.length c] W fun e w' => ∃ A c,e = .returned (.slice A ks.length c) ∧ (As.row kD29 29 (.slice A ks.length c) ks).M W.heap.size w' (fun k => W.heap.size ≤ k) ∧ Below W.heap.size W w') :
  Calls Tryd.prog 78 #[.pointer (some ⟨g,0,none⟩),.agg #[.int .i64 4,.string a1,.int .i64 a2,.slice A ks.length c],.agg #[.int .i64 1,.string (⟨#[]⟩ : ByteArray),.int .i64 x,.slice none 0 0],.agg #[.int .i64 1,.string (⟨#[]⟩ : ByteArray),.int .i64 y,.slice none 0 0]] u fun e u' => BPost 92 w u g P (⟨4,a1,0,ks ++ [varT x,varT y]⟩ : S29) n b e u':=by
 have HR:=asd (run_fun (a:=As.box g 92 #[.int .i64 n,.bool b]) (ok:=fun k => k = g) old (fun k hk => hk ▸ hg) ⟨rfl,hb⟩)
 have HP:=asd (show ∀ k,P k → ¬ (k = g) from fun k hk e => hP (e ▸ hk))
 have HT:=asd ht
 have c0 : decide ((ks.length : Int) > 3) = false:=decide_eq_false (by omega)
 have c1 : decide (3 < ks.length) = false:=decide_eq_false (by omega)
 have HPR:=asd hp
 have HCT:=asd hct
 have HCS:=asd hcs
 have HL:=asd h3
 clear old hg hP hb ht h3 hp hct hcs
 go_enter Tryd.func78,Tryd.ntmps78
 go_wp2_with (first
  | ((with_reducible refine gate_dst (N:=5) rfl ?_);refine nb HR 5 (cs:=#[.int .i64 4,.string a1,.int .i64 a2,.slice A ks.length c]) (t:=29) rfl rfl (by first | (go_simp;done) | (go_simp;rfl)) ?_;clear HR;intro ga w1 HR)
  | ((with_reducible refine gate_dst (N:=6) rfl ?_);refine nb HR 6 (cs:=#[.int .i64 1,.string (⟨#[]⟩ : ByteArray),.int .i64 x,.slice none 0 0]) (t:=29) rfl rfl (by first | (go_simp;done) | (go_simp;rfl)) ?_;clear HR;intro gx w2 HR)
  | ((with_reducible refine gate_dst (N:=7) rfl ?_);refine nb HR 7 (cs:=#[.int .i64 1,.string (⟨#[]⟩ : ByteArray),.int .i64 y,.slice none 0 0]) (t:=29) rfl rfl (by first | (go_simp;done) | (go_simp;rfl)) ?_;clear HR;intro gy w3 HR)
  | ((with_reducible refine gate_dst (N:=8) rfl ?_);refine nb HR 8 (cs:=#[.int .i64 0,.string (⟨#[]⟩ : ByteArray),.int .i64 0,.slice none 0 0]) (t:=29) rfl rfl (by first | (go_simp;done) | (go_simp;rfl)) ?_;clear HR;intro gr w4 HR;obtain ⟨c4ga0,c4ga1,c4ga2,c4ga3⟩:=HR.out.c4 3 rfl)
  | (go_at_call 13;have hc_ : Kd.C k29 w4 A ks.length ks:=(term_C (HT.out w4 (HR.out.ro HP.out))).2.2;(with_reducible refine (HPR.out w4 HR.out.bel hc_).mono ?_);rintro e_ w5 ⟨rfl,hb⟩;clear hc_;replace HR:=asd (HR.out.step hb);clear hb;clear c4ga0 c4ga1 c4ga2 c4ga3)
  | (go_at_call 80;(with_reducible refine (HCT.out w5).mono ?_);rintro e_ w6 ⟨rfl,hb⟩;replace HR:=asd (HR.out.step hb);clear hb))
 replace HR:=asd (HR.out.drew)
 refine start_ (n:=11) (S:=fun w' => C4 w' ga (.int .i64 4) (.string a1) (.int .i64 a2) (.slice A ks.length c) ∧ C4 w' gx (.int .i64 1) (.string (⟨#[]⟩ : ByteArray)) (.int .i64 x) (.slice none 0 0) ∧ C4 w' gy (.int .i64 1) (.string (⟨#[]⟩ : ByteArray)) (.int .i64 y) (.slice none 0 0)) (ds:=[10]) (bl 11 0) (by kernel_rfl) rfl rfl ⟨HR.out.c4 3 rfl,HR.out.c4 2 rfl,HR.out.c4 1 rfl⟩ (fun hHeld => ?_);refine with_tabW gn4_tab gn4_bits (fun HT_ HW_ => ?_)
 generalize w6.drew = w7 at HR hHeld ⊢
 refine pu 0 32 (bl 11 1) HT_ (by kernel_rfl) rfl rfl (by rfl) (fun _ _ _ h => h) (by intro w';go_simp;with_reducible rfl) (by simp only [Act.put,sa,s0,s1];rfl) ?_
 refine tk 1 33 (bl 11 3) HT_ HW_ (by kernel_rfl) rfl rfl (by rfl) (fun _ _ _ h => h) hHeld (by rintro w' ⟨⟨s0,s1,s2,s3⟩,⟨s4,s5,s6,s7⟩,⟨s8,s9,s10,s11⟩⟩;go_simp;with_reducible rfl) (by simp only [Act.put,sa,s0,s1];rfl) ?_
 refine pu 2 34 (bl 11 7) HT_ (by kernel_rfl) rfl rfl (by rfl) (fun _ _ _ h => h) (by intro w';go_simp;with_reducible rfl) (by simp only [Act.put,sa,s0,s1];rfl) ?_
 refine tk 3 35 (bl 11 15) HT_ HW_ (by kernel_rfl) rfl rfl (by rfl) (fun _ _ _ h => h) hHeld (by rintro w' ⟨⟨s0,s1,s2,s3⟩,⟨s4,s5,s6,s7⟩,⟨s8,s9,s10,s11⟩⟩;go_simp;with_reducible rfl) (by simp only [Act.put,sa,s0,s1];rfl) ?_
 refine tk 5 37 (bl 11 47) HT_ HW_ (by kernel_rfl) rfl rfl (by rfl) (fun _ _ _ h => h) hHeld (by rintro w' ⟨⟨s0,s1,s2,s3⟩,⟨s4,s5,s6,s7⟩,⟨s8,s9,s10,s11⟩⟩;go_simp;with_reducible rfl) (by simp only [Act.put,sa,s0,s1];rfl) ?_
 refine tk 6 38 (bl 11 111) HT_ HW_ (by kernel_rfl) rfl rfl (by rfl) (fun _ _ _ h => h) hHeld (by rintro w' ⟨⟨s0,s1,s2,s3⟩,⟨s4,s5,s6,s7⟩,⟨s8,s9,s10,s11⟩⟩;go_simp;with_reducible rfl) (by simp only [Act.put,sa,s0,s1];rfl) ?_
 refine join_ (σ:=Option Addr × Nat × Nat) 3 (bl 11 255) (fun s => let ⟨A5,c5,gq⟩:=s;[(36,.slice A5 ks.length c5),(39,.slice (some ⟨gq,0,none⟩) 2 2)]) (fun s w' => let ⟨A5,c5,gq⟩:=s;Run w u (fun k => k = g) [As.box gq 29 #[.int .i64 1,.string (⟨#[]⟩ : ByteArray),.int .i64 x,.slice none 0 0,.int .i64 1,.string (⟨#[]⟩ : ByteArray),.int .i64 y,.slice none 0 0],As.rrow k29 29 (.slice A5 ks.length c5) ks,As.box gr 29 #[.int .i64 0,.string (⟨#[]⟩ : ByteArray),.int .i64 0,.slice none 0 0],As.box gy 29 #[.int .i64 1,.string (⟨#[]⟩ : ByteArray),.int .i64 y,.slice none 0 0],As.box gx 29 #[.int .i64 1,.string (⟨#[]⟩ : ByteArray),.int .i64 x,.slice none 0 0],As.box ga 29 #[.int .i64 4,.string a1,.int .i64 a2,.slice A ks.length c],As.box g 92 #[.int .i64 n,.bool b]] w') ?_ ?_
 rotate_left
 ·intro hCont
  refine tw 4 7 (some 36) (some 39) (bl 11 127) (bl 11 239) HT_ (by kernel_rfl) rfl rfl rfl rfl (by decide) (by decide) ?_ ?_
  ·skip
   refine clS Tryd.func102 (by kernel_rfl) rfl #[.slice A ks.length c] (by rfl) rfl rfl (by (try simp only [List.map_toArray,List.map_cons,List.map_nil]);first|done|rfl) ((HCS.out w7 (term_C (HT.out w7 (HR.out.ro HP.out))).2.2).mono ?_)
   rintro e_ w8 ⟨A5,c5,rfl,ho,hb⟩
   replace HR:=asd (HR.out.push (As.rrow k29 29 (.slice A5 ks.length c5) ks) hb (S_k29 ho))
   clear ho hb
   refine ⟨_,rfl,⟨HR.out.c4 4 rfl,HR.out.c4 3 rfl,HR.out.c4 2 rfl⟩,fun hHeld => ?_⟩
   refine nm (by simp only [Act.put,sa,s0,s1];rfl) ?_
   refine on 7 (some 39) (bl 11 255) HT_ (by kernel_rfl) rfl rfl (by decide) ?_
   refine ltS HR 39 2 (cs:=#[.int .i64 1,.string (⟨#[]⟩ : ByteArray),.int .i64 x,.slice none 0 0,.int .i64 1,.string (⟨#[]⟩ : ByteArray),.int .i64 y,.slice none 0 0]) (t:=29) (by rfl) rfl (by first|(go_simp;done)|(go_simp;rfl)) ?_
   clear HR;intro gq w9 HR
   refine ⟨⟨HR.out.c4 5 rfl,HR.out.c4 4 rfl,HR.out.c4 3 rfl⟩,fun hHeld => ?_⟩
   refine nm (by simp only [Act.put,sa,s0,s1];rfl) ?_
   exact nm (by simp only [putAll,Act.put,sa,s0,s1]) (hCont (A5,c5,gq) _ HR.out)
  ·skip
   refine ltS HR 39 2 (cs:=#[.int .i64 1,.string (⟨#[]⟩ : ByteArray),.int .i64 x,.slice none 0 0,.int .i64 1,.string (⟨#[]⟩ : ByteArray),.int .i64 y,.slice none 0 0]) (t:=29) (by rfl) rfl (by first|(go_simp;done)|(go_simp;rfl)) ?_
   clear HR;intro gq w8 HR
   refine ⟨⟨HR.out.c4 4 rfl,HR.out.c4 3 rfl,HR.out.c4 2 rfl⟩,fun hHeld => ?_⟩
   refine nm (by simp only [Act.put,sa,s0,s1];rfl) ?_
   refine on 4 (some 36) (bl 11 255) HT_ (by kernel_rfl) rfl rfl (by decide) ?_
   refine clS Tryd.func102 (by kernel_rfl) rfl #[.slice A ks.length c] (by rfl) rfl rfl (by (try simp only [List.map_toArray,List.map_cons,List.map_nil]);first|done|rfl) ((HCS.out w8 (term_C (HT.out w8 (HR.out.ro HP.out))).2.2).mono ?_)
   rintro e_ w9 ⟨A5,c5,rfl,ho,hb⟩
   replace HR:=asd (HR.out.push (As.rrow k29 29 (.slice A5 ks.length c5) ks) hb (S_k29 ho))
   clear ho hb
   refine ⟨_,rfl,⟨HR.out.c4 5 rfl,HR.out.c4 4 rfl,HR.out.c4 3 rfl⟩,fun hHeld => ?_⟩
   refine nm (by simp only [Act.put,sa,s0,s1];rfl) ?_
   exact nm (by simp only [putAll,Act.put,sa,s0,s1]) (hCont (A5,c5,gq) _ (HR.out.pick [1,0,2,3,4,5,6] (by decide)))
 rintro ⟨A5,c5,gq⟩ w10 hR_
 clear HR;have HR:=asd hR_;clear hR_;dsimp only at HR
 refine nm (by simp only [putAll,Act.put,sa,s0,s1];rfl) ?_
 refine on 8 (some 40) (bl 11 511) HT_ (by kernel_rfl) rfl rfl (by decide) ?_
 refine fun K hK => ?_
 refine HR.out.rowsStep 1 k29 rfl (by rfl) (.tmp 36) (.tmp 39) 27 (.agg #[(.int .i64 0),(.string ⟨#[]⟩),(.int .i64 0),(.slice none 0 0)]) 56 rfl Tryd.underlying27 info29 rfl (show 0 < 4 by decide) (by omega) rfl rfl (lit_leaf (HR.out.has 0 rfl).2) (fun _ _ h => leaf_k29 h) (by have h1_:=HL.out;omega) ?_
 intro v_ w11 hq_
 obtain ⟨l_n,hz_⟩ : ∃ z_,z_ = (ks ++ [varT x,varT y]):=⟨_,rfl⟩
 rw [← hz_] at hq_
 have HZ:=asd hz_
 clear hz_
 obtain ⟨A2,c2,rfl⟩:=Kd.R_slice (hq_.has 1 rfl)
 replace HR:=asd hq_
 clear hq_
 refine hK.out _ _ ⟨HR.out.c4 5 rfl,HR.out.c4 4 rfl,HR.out.c4 3 rfl⟩ (fun hHeld => ?_)
 clear hK K
 refine nm (by simp only [Act.put,sa,s0,s1];rfl) ?_
 refine on 9 (some 41) (bl 11 1023) HT_ (by kernel_rfl) rfl rfl (by decide) ?_
 refine clS Tryd.func62 (by kernel_rfl) rfl #[.string a1,.slice A2 l_n.length c2] (by rfl) rfl rfl (by (try simp only [List.map_toArray,List.map_cons,List.map_nil]);first|done|rfl) ((struct_calls a1 A2 l_n.length c2 w11).mono ?_)
 rintro e_ w12 ⟨rfl,hb⟩
 replace HR:=asd (HR.out.step hb)
 clear hb
 refine ⟨_,rfl,⟨HR.out.c4 5 rfl,HR.out.c4 4 rfl,HR.out.c4 3 rfl⟩,fun hHeld => ?_⟩
 refine nm (by simp only [Act.put,sa,s0,s1];rfl) ?_
 obtain ⟨hz0_,hz1_,hz2_,hz3_⟩:=HR.out.c4 2 rfl;obtain ⟨fz0_,fz1_,fz2_,fz3_⟩:=HR.out.f4 2 rfl
 refine lsA HR 2 10 (bl 11 2047) HT_ (by kernel_rfl) rfl rfl (by decide) rfl [.int .i64 4,.string a1,.int .i64 0,.slice A2 l_n.length c2] rfl (by rfl) (by first|(go_simp;done)|(go_simp;rfl)) ?_
 clear HR hz0_ hz1_ hz2_ hz3_ fz0_ fz1_ fz2_ fz3_;intro w13 HR
 refine done_ (done_of HT_.out (by kernel_rfl)) ?_
 try go_wp2
 refine bodyPost_ret (results_cell_row rfl _ _ gr 29 #[.int .i64 4,.string a1,.int .i64 0,.slice A2 l_n.length c2] (0,0) _ rfl (HR.out.has 2 rfl).2 Tryd.underlying29 rfl (by kernel_rfl)) rfl ?_
 rw [← HZ.out]
 have hr_:=HR.out.own 1 rfl 6 rfl (by decide) (fun k hk => hk)
 exact ⟨A2,c2,rfl,F_foot (Kd.R_reads' hr_).2.1 (fun W' hW => Kd.R_F hr_ W' (fun k hk hl => hW k (.inr hk) hl)),(HR.out.has 6 rfl).2,HR.out.below,HR.out.kept⟩
set_option maxHeartbeats 16000000 in
set_option maxRecDepth 100000 in
theorem nt_ctl2 (a1 : ByteArray) (a2 : Int) (ks : List S29) (x y n : Int) (b : Bool) (s : ByteArray) (w u : World) (g : Nat) (P : Nat → Prop) (A : Option Addr) (c : Nat) (old : Below w.heap.size w u) (hg : w.heap.size ≤ g) (hP : ¬ P g) (hb : u.heap[g]? = some (.cells #[.int .i64 n,.bool b] 92 (0,0))) (ht : FootRow u P (.slice A ks.length c,ks))
  (h3 : ks.length ≤ 3) (hp : ∀ W,Below w.heap.size w W → Kd.C k29 W A ks.length ks → Calls Tryd.prog 13 #[.agg #[.int .i64 2,.string a1,.int .i64 a2,.slice A ks.length c]] W fun e W' => e = .returned (.string s) ∧ Below W.heap.size W W') (hct : ∀ W,Calls Tryd.prog 80 #[.string s] W fun e W' => e = .returned (.bool true) ∧ Below W.heap.size W W') :
  Calls Tryd.prog 78 #[.pointer (some ⟨g,0,none⟩),.agg #[.int .i64 2,.string a1,.int .i64 a2,.slice A ks.length c],.agg #[.int .i64 1,.string (⟨#[]⟩ : ByteArray),.int .i64 x,.slice none 0 0],.agg #[.int .i64 1,.string (⟨#[]⟩ : ByteArray),.int .i64 y,.slice none 0 0]] u fun e u' => BPost 92 w u g P z29 n true e u':=by
 have HR:=asd (run_fun (a:=As.box g 92 #[.int .i64 n,.bool b]) (ok:=fun k => k = g) old (fun k hk => hk ▸ hg) ⟨rfl,hb⟩)
 have HP:=asd (show ∀ k,P k → ¬ (k = g) from fun k hk e => hP (e ▸ hk))
 have HT:=asd ht
 have c0 : decide ((ks.length : Int) > 3) = false:=decide_eq_false (by omega)
 have c1 : decide (3 < ks.length) = false:=decide_eq_false (by omega)
 have HPR:=asd hp
 have HCT:=asd hct
 clear old hg hP hb ht h3 hp hct
 go_enter Tryd.func78,Tryd.ntmps78
 go_wp2_with (first
  | ((with_reducible refine gate_dst (N:=5) rfl ?_);refine nb HR 5 (cs:=#[.int .i64 2,.string a1,.int .i64 a2,.slice A ks.length c]) (t:=29) rfl rfl (by first | (go_simp;done) | (go_simp;rfl)) ?_;clear HR;intro ga w1 HR)
  | ((with_reducible refine gate_dst (N:=6) rfl ?_);refine nb HR 6 (cs:=#[.int .i64 1,.string (⟨#[]⟩ : ByteArray),.int .i64 x,.slice none 0 0]) (t:=29) rfl rfl (by first | (go_simp;done) | (go_simp;rfl)) ?_;clear HR;intro gx w2 HR)
  | ((with_reducible refine gate_dst (N:=7) rfl ?_);refine nb HR 7 (cs:=#[.int .i64 1,.string (⟨#[]⟩ : ByteArray),.int .i64 y,.slice none 0 0]) (t:=29) rfl rfl (by first | (go_simp;done) | (go_simp;rfl)) ?_;clear HR;intro gy w3 HR)
  | ((with_reducible refine gate_dst (N:=8) rfl ?_);refine nb HR 8 (cs:=#[.int .i64 0,.string (⟨#[]⟩ : ByteArray),.int .i64 0,.slice none 0 0]) (t:=29) rfl rfl (by first | (go_simp;done) | (go_simp;rfl)) ?_;clear HR;intro gr w4 HR;obtain ⟨c4ga0,c4ga1,c4ga2,c4ga3⟩:=HR.out.c4 3 rfl)
  | (go_at_call 13;have hc_ : Kd.C k29 w4 A ks.length ks:=(term_C (HT.out w4 (HR.out.ro HP.out))).2.2;(with_reducible refine (HPR.out w4 HR.out.bel hc_).mono ?_);rintro e_ w5 ⟨rfl,hb⟩;clear hc_;replace HR:=asd (HR.out.step hb);clear hb;clear c4ga0 c4ga1 c4ga2 c4ga3)
  | (go_at_call 80;(with_reducible refine (HCT.out w5).mono ?_);rintro e_ w6 ⟨rfl,hb⟩;replace HR:=asd (HR.out.step hb);clear hb;obtain ⟨c6g0,c6g1⟩:=HR.out.c2 4 rfl;obtain ⟨f6g0,f6g1⟩:=HR.out.f2 4 rfl)
  | ((with_reducible refine gate_store (t:=4) (p:=30) rfl ?_);refine st1 HR 4 rfl 1 (.bool true) rfl rfl rfl (by first | (go_simp;done) | (go_simp;rfl)) (cs':=#[.int .i64 n,.bool true]) rfl ?_;clear HR;intro w7 HR;clear c6g0 c6g1 f6g0 f6g1;obtain ⟨c7gr0,c7gr1,c7gr2,c7gr3⟩:=HR.out.c4 0 rfl;obtain ⟨f7gr0,f7gr1,f7gr2,f7gr3⟩:=HR.out.f4 0 rfl)
  | ((with_reducible refine gate_store (t:=29) (p:=8) rfl ?_);refine stA HR 0 rfl [.int .i64 0,.string (⟨#[]⟩ : ByteArray),.int .i64 0,.slice none 0 0] rfl rfl rfl rfl (by first | (go_simp;done) | (go_simp;rfl)) ?_;clear HR;intro w8 HR;clear c7gr0 c7gr1 c7gr2 c7gr3 f7gr0 f7gr1 f7gr2 f7gr3))
 refine bodyPost_ret (results_cell_row rfl _ _ gr 29 #[.int .i64 0,.string (⟨#[]⟩ : ByteArray),.int .i64 0,.slice none 0 0] (0,0) _ rfl (HR.out.has 0 rfl).2 Tryd.underlying29 rfl (by kernel_rfl)) rfl ?_
 exact ⟨none,0,rfl,foot_nil _ _,(HR.out.has 4 rfl).2,HR.out.below,HR.out.kept⟩
set_option maxHeartbeats 16000000 in
set_option maxRecDepth 100000 in
theorem nt_ctl4 (a1 : ByteArray) (a2 : Int) (ks : List S29) (x y n : Int) (b : Bool) (s : ByteArray) (w u : World) (g : Nat) (P : Nat → Prop) (A : Option Addr) (c : Nat) (old : Below w.heap.size w u) (hg : w.heap.size ≤ g) (hP : ¬ P g) (hb : u.heap[g]? = some (.cells #[.int .i64 n,.bool b] 92 (0,0))) (ht : FootRow u P (.slice A ks.length c,ks))
  (h3 : ks.length ≤ 3) (hp : ∀ W,Below w.heap.size w W → Kd.C k29 W A ks.length ks → Calls Tryd.prog 13 #[.agg #[.int .i64 4,.string a1,.int .i64 a2,.slice A ks.length c]] W fun e W' => e = .returned (.string s) ∧ Below W.heap.size W W') (hct : ∀ W,Calls Tryd.prog 80 #[.string s] W fun e W' => e = .returned (.bool true) ∧ Below W.heap.size W W') :
  Calls Tryd.prog 78 #[.pointer (some ⟨g,0,none⟩),.agg #[.int .i64 4,.string a1,.int .i64 a2,.slice A ks.length c],.agg #[.int .i64 1,.string (⟨#[]⟩ : ByteArray),.int .i64 x,.slice none 0 0],.agg #[.int .i64 1,.string (⟨#[]⟩ : ByteArray),.int .i64 y,.slice none 0 0]] u fun e u' => BPost 92 w u g P z29 n true e u':=by
 have HR:=asd (run_fun (a:=As.box g 92 #[.int .i64 n,.bool b]) (ok:=fun k => k = g) old (fun k hk => hk ▸ hg) ⟨rfl,hb⟩)
 have HP:=asd (show ∀ k,P k → ¬ (k = g) from fun k hk e => hP (e ▸ hk))
 have HT:=asd ht
 have c0 : decide ((ks.length : Int) > 3) = false:=decide_eq_false (by omega)
 have c1 : decide (3 < ks.length) = false:=decide_eq_false (by omega)
 have HPR:=asd hp
 have HCT:=asd hct
 clear old hg hP hb ht h3 hp hct
 go_enter Tryd.func78,Tryd.ntmps78
 go_wp2_with (first
  | ((with_reducible refine gate_dst (N:=5) rfl ?_);refine nb HR 5 (cs:=#[.int .i64 4,.string a1,.int .i64 a2,.slice A ks.length c]) (t:=29) rfl rfl (by first | (go_simp;done) | (go_simp;rfl)) ?_;clear HR;intro ga w1 HR)
  | ((with_reducible refine gate_dst (N:=6) rfl ?_);refine nb HR 6 (cs:=#[.int .i64 1,.string (⟨#[]⟩ : ByteArray),.int .i64 x,.slice none 0 0]) (t:=29) rfl rfl (by first | (go_simp;done) | (go_simp;rfl)) ?_;clear HR;intro gx w2 HR)
  | ((with_reducible refine gate_dst (N:=7) rfl ?_);refine nb HR 7 (cs:=#[.int .i64 1,.string (⟨#[]⟩ : ByteArray),.int .i64 y,.slice none 0 0]) (t:=29) rfl rfl (by first | (go_simp;done) | (go_simp;rfl)) ?_;clear HR;intro gy w3 HR)
  | ((with_reducible refine gate_dst (N:=8) rfl ?_);refine nb HR 8 (cs:=#[.int .i64 0,.string (⟨#[]⟩ : ByteArray),.int .i64 0,.slice none 0 0]) (t:=29) rfl rfl (by first | (go_simp;done) | (go_simp;rfl)) ?_;clear HR;intro gr w4 HR;obtain ⟨c4ga0,c4ga1,c4ga2,c4ga3⟩:=HR.out.c4 3 rfl)
  | (go_at_call 13;have hc_ : Kd.C k29 w4 A ks.length ks:=(term_C (HT.out w4 (HR.out.ro HP.out))).2.2;(with_reducible refine (HPR.out w4 HR.out.bel hc_).mono ?_);rintro e_ w5 ⟨rfl,hb⟩;clear hc_;replace HR:=asd (HR.out.step hb);clear hb;clear c4ga0 c4ga1 c4ga2 c4ga3)
  | (go_at_call 80;(with_reducible refine (HCT.out w5).mono ?_);rintro e_ w6 ⟨rfl,hb⟩;replace HR:=asd (HR.out.step hb);clear hb;obtain ⟨c6g0,c6g1⟩:=HR.out.c2 4 rfl;obtain ⟨f6g0,f6g1⟩:=HR.out.f2 4 rfl)
  | ((with_reducible refine gate_store (t:=4) (p:=30) rfl ?_);refine st1 HR 4 rfl 1 (.bool true) rfl rfl rfl (by first | (go_simp;done) | (go_simp;rfl)) (cs':=#[.int .i64 n,.bool true]) rfl ?_;clear HR;intro w7 HR;clear c6g0 c6g1 f6g0 f6g1;obtain ⟨c7gr0,c7gr1,c7gr2,c7gr3⟩:=HR.out.c4 0 rfl;obtain ⟨f7gr0,f7gr1,f7gr2,f7gr3⟩:=HR.out.f4 0 rfl)
  | ((with_reducible refine gate_store (t:=29) (p:=8) rfl ?_);refine stA HR 0 rfl [.int .i64 0,.string (⟨#[]⟩ : ByteArray),.int .i64 0,.slice none 0 0] rfl rfl rfl rfl (by first | (go_simp;done) | (go_simp;rfl)) ?_;clear HR;intro w8 HR;clear c7gr0 c7gr1 c7gr2 c7gr3 f7gr0 f7gr1 f7gr2 f7gr3))
 refine bodyPost_ret (results_cell_row rfl _ _ gr 29 #[.int .i64 0,.string (⟨#[]⟩ : ByteArray),.int .i64 0,.slice none 0 0] (0,0) _ rfl (HR.out.has 0 rfl).2 Tryd.underlying29 rfl (by kernel_rfl)) rfl ?_
 exact ⟨none,0,rfl,foot_nil _ _,(HR.out.has 4 rfl).2,HR.out.below,HR.out.kept⟩
set_option maxHeartbeats 16000000 in
set_option maxRecDepth 100000 in
theorem nt_len2 (a1 : ByteArray) (a2 : Int) (ks : List S29) (x y n : Int) (b : Bool) (s : ByteArray) (w u : World) (g : Nat) (P : Nat → Prop) (A : Option Addr) (c : Nat) (old : Below w.heap.size w u) (hg : w.heap.size ≤ g) (hP : ¬ P g) (hb : u.heap[g]? = some (.cells #[.int .i64 n,.bool b] 92 (0,0))) (ht : FootRow u P (.slice A ks.length c,ks))
  (h3 : ¬ ks.length ≤ 3) :
  Calls Tryd.prog 78 #[.pointer (some ⟨g,0,none⟩),.agg #[.int .i64 2,.string a1,.int .i64 a2,.slice A ks.length c],.agg #[.int .i64 1,.string (⟨#[]⟩ : ByteArray),.int .i64 x,.slice none 0 0],.agg #[.int .i64 1,.string (⟨#[]⟩ : ByteArray),.int .i64 y,.slice none 0 0]] u fun e u' => BPost 92 w u g P z29 n true e u':=by
 have HR:=asd (run_fun (a:=As.box g 92 #[.int .i64 n,.bool b]) (ok:=fun k => k = g) old (fun k hk => hk ▸ hg) ⟨rfl,hb⟩)
 have HP:=asd (show ∀ k,P k → ¬ (k = g) from fun k hk e => hP (e ▸ hk))
 have HT:=asd ht
 have c0 : decide ((ks.length : Int) > 3) = true:=decide_eq_true (by omega)
 have c1 : decide (3 < ks.length) = true:=decide_eq_true (by omega)
 clear old hg hP hb ht h3
 go_enter Tryd.func78,Tryd.ntmps78
 go_wp2_with (first
  | ((with_reducible refine gate_dst (N:=5) rfl ?_);refine nb HR 5 (cs:=#[.int .i64 2,.string a1,.int .i64 a2,.slice A ks.length c]) (t:=29) rfl rfl (by first | (go_simp;done) | (go_simp;rfl)) ?_;clear HR;intro ga w1 HR)
  | ((with_reducible refine gate_dst (N:=6) rfl ?_);refine nb HR 6 (cs:=#[.int .i64 1,.string (⟨#[]⟩ : ByteArray),.int .i64 x,.slice none 0 0]) (t:=29) rfl rfl (by first | (go_simp;done) | (go_simp;rfl)) ?_;clear HR;intro gx w2 HR)
  | ((with_reducible refine gate_dst (N:=7) rfl ?_);refine nb HR 7 (cs:=#[.int .i64 1,.string (⟨#[]⟩ : ByteArray),.int .i64 y,.slice none 0 0]) (t:=29) rfl rfl (by first | (go_simp;done) | (go_simp;rfl)) ?_;clear HR;intro gy w3 HR)
  | ((with_reducible refine gate_dst (N:=8) rfl ?_);refine nb HR 8 (cs:=#[.int .i64 0,.string (⟨#[]⟩ : ByteArray),.int .i64 0,.slice none 0 0]) (t:=29) rfl rfl (by first | (go_simp;done) | (go_simp;rfl)) ?_;clear HR;intro gr w4 HR;obtain ⟨c4ga0,c4ga1,c4ga2,c4ga3⟩:=HR.out.c4 3 rfl;obtain ⟨c4g0,c4g1⟩:=HR.out.c2 4 rfl;obtain ⟨f4g0,f4g1⟩:=HR.out.f2 4 rfl)
  | ((with_reducible refine gate_store (t:=4) (p:=30) rfl ?_);refine st1 HR 4 rfl 1 (.bool true) rfl rfl rfl (by first | (go_simp;done) | (go_simp;rfl)) (cs':=#[.int .i64 n,.bool true]) rfl ?_;clear HR;intro w5 HR;clear c4ga0 c4ga1 c4ga2 c4ga3 c4g0 c4g1 f4g0 f4g1;obtain ⟨c5gr0,c5gr1,c5gr2,c5gr3⟩:=HR.out.c4 0 rfl;obtain ⟨f5gr0,f5gr1,f5gr2,f5gr3⟩:=HR.out.f4 0 rfl)
  | ((with_reducible refine gate_store (t:=29) (p:=8) rfl ?_);refine stA HR 0 rfl [.int .i64 0,.string (⟨#[]⟩ : ByteArray),.int .i64 0,.slice none 0 0] rfl rfl rfl rfl (by first | (go_simp;done) | (go_simp;rfl)) ?_;clear HR;intro w6 HR;clear c5gr0 c5gr1 c5gr2 c5gr3 f5gr0 f5gr1 f5gr2 f5gr3))
 refine bodyPost_ret (results_cell_row rfl _ _ gr 29 #[.int .i64 0,.string (⟨#[]⟩ : ByteArray),.int .i64 0,.slice none 0 0] (0,0) _ rfl (HR.out.has 0 rfl).2 Tryd.underlying29 rfl (by kernel_rfl)) rfl ?_
 exact ⟨none,0,rfl,foot_nil _ _,(HR.out.has 4 rfl).2,HR.out.below,HR.out.kept⟩
set_option maxHeartbeats 16000000 in
set_option maxRecDepth 100000 in
theorem nt_len4 (a1 : ByteArray) (a2 : Int) (ks : List S29) (x y n : Int) (b : Bool) (s : ByteArray) (w u : World) (g : Nat) (P : Nat → Prop) (A : Option Addr) (c : Nat) (old : Below w.heap.size w u) (hg : w.heap.size ≤ g) (hP : ¬ P g) (hb : u.heap[g]? = some (.cells #[.int .i64 n,.bool b] 92 (0,0))) (ht : FootRow u P (.slice A ks.length c,ks))
  (h3 : ¬ ks.length ≤ 3) :
  Calls Tryd.prog 78 #[.pointer (some ⟨g,0,none⟩),.agg #[.int .i64 4,.string a1,.int .i64 a2,.slice A ks.length c],.agg #[.int .i64 1,.string (⟨#[]⟩ : ByteArray),.int .i64 x,.slice none 0 0],.agg #[.int .i64 1,.string (⟨#[]⟩ : ByteArray),.int .i64 y,.slice none 0 0]] u fun e u' => BPost 92 w u g P z29 n true e u':=by
 have HR:=asd (run_fun (a:=As.box g 92 #[.int .i64 n,.bool b]) (ok:=fun k => k = g) old (fun k hk => hk ▸ hg) ⟨rfl,hb⟩)
 have HP:=asd (show ∀ k,P k → ¬ (k = g) from fun k hk e => hP (e ▸ hk))
 have HT:=asd ht
 have c0 : decide ((ks.length : Int) > 3) = true:=decide_eq_true (by omega)
 have c1 : decide (3 < ks.length) = true:=decide_eq_true (by omega)
 clear old hg hP hb ht h3
 go_enter Tryd.func78,Tryd.ntmps78
 go_wp2_with (first
  | ((with_reducible refine gate_dst (N:=5) rfl ?_);refine nb HR 5 (cs:=#[.int .i64 4,.string a1,.int .i64 a2,.slice A ks.length c]) (t:=29) rfl rfl (by first | (go_simp;done) | (go_simp;rfl)) ?_;clear HR;intro ga w1 HR)
  | ((with_reducible refine gate_dst (N:=6) rfl ?_);refine nb HR 6 (cs:=#[.int .i64 1,.string (⟨#[]⟩ : ByteArray),.int .i64 x,.slice none 0 0]) (t:=29) rfl rfl (by first | (go_simp;done) | (go_simp;rfl)) ?_;clear HR;intro gx w2 HR)
  | ((with_reducible refine gate_dst (N:=7) rfl ?_);refine nb HR 7 (cs:=#[.int .i64 1,.string (⟨#[]⟩ : ByteArray),.int .i64 y,.slice none 0 0]) (t:=29) rfl rfl (by first | (go_simp;done) | (go_simp;rfl)) ?_;clear HR;intro gy w3 HR)
  | ((with_reducible refine gate_dst (N:=8) rfl ?_);refine nb HR 8 (cs:=#[.int .i64 0,.string (⟨#[]⟩ : ByteArray),.int .i64 0,.slice none 0 0]) (t:=29) rfl rfl (by first | (go_simp;done) | (go_simp;rfl)) ?_;clear HR;intro gr w4 HR;obtain ⟨c4ga0,c4ga1,c4ga2,c4ga3⟩:=HR.out.c4 3 rfl;obtain ⟨c4g0,c4g1⟩:=HR.out.c2 4 rfl;obtain ⟨f4g0,f4g1⟩:=HR.out.f2 4 rfl)
  | ((with_reducible refine gate_store (t:=4) (p:=30) rfl ?_);refine st1 HR 4 rfl 1 (.bool true) rfl rfl rfl (by first | (go_simp;done) | (go_simp;rfl)) (cs':=#[.int .i64 n,.bool true]) rfl ?_;clear HR;intro w5 HR;clear c4ga0 c4ga1 c4ga2 c4ga3 c4g0 c4g1 f4g0 f4g1;obtain ⟨c5gr0,c5gr1,c5gr2,c5gr3⟩:=HR.out.c4 0 rfl;obtain ⟨f5gr0,f5gr1,f5gr2,f5gr3⟩:=HR.out.f4 0 rfl)
  | ((with_reducible refine gate_store (t:=29) (p:=8) rfl ?_);refine stA HR 0 rfl [.int .i64 0,.string (⟨#[]⟩ : ByteArray),.int .i64 0,.slice none 0 0] rfl rfl rfl rfl (by first | (go_simp;done) | (go_simp;rfl)) ?_;clear HR;intro w6 HR;clear c5gr0 c5gr1 c5gr2 c5gr3 f5gr0 f5gr1 f5gr2 f5gr3))
 refine bodyPost_ret (results_cell_row rfl _ _ gr 29 #[.int .i64 0,.string (⟨#[]⟩ : ByteArray),.int .i64 0,.slice none 0 0] (0,0) _ rfl (HR.out.has 0 rfl).2 Tryd.underlying29 rfl (by kernel_rfl)) rfl ?_
 exact ⟨none,0,rfl,foot_nil _ _,(HR.out.has 4 rfl).2,HR.out.below,HR.out.kept⟩
set_option maxHeartbeats 16000000 in
set_option maxRecDepth 100000 in
theorem nt_kind (t : S29) (x y n : Int) (b : Bool) (s : ByteArray) (w u : World) (g : Nat) (P : Nat → Prop) (A : Option Addr) (c : Nat) (old : Below w.heap.size w u) (hg : w.heap.size ≤ g) (hP : ¬ P g) (hb : u.heap[g]? = some (.cells #[.int .i64 n,.bool b] 92 (0,0))) (ht : FootRow u P (.slice A t.f3.length c,t.f3))
  (h2 : t.f0 ≠ 2) (h4 : t.f0 ≠ 4) :
  Calls Tryd.prog 78 #[.pointer (some ⟨g,0,none⟩),.agg #[.int .i64 t.f0,.string t.f1,.int .i64 t.f2,.slice A t.f3.length c],.agg #[.int .i64 1,.string (⟨#[]⟩ : ByteArray),.int .i64 x,.slice none 0 0],.agg #[.int .i64 1,.string (⟨#[]⟩ : ByteArray),.int .i64 y,.slice none 0 0]] u fun e u' => BPost 92 w u g P z29 n true e u':=by
 have HR:=asd (run_fun (a:=As.box g 92 #[.int .i64 n,.bool b]) (ok:=fun k => k = g) old (fun k hk => hk ▸ hg) ⟨rfl,hb⟩)
 have HP:=asd (show ∀ k,P k → ¬ (k = g) from fun k hk e => hP (e ▸ hk))
 have HT:=asd ht
 have c0 : (t.f0 != 2) = true:=by simp [h2]
 have c1 : (t.f0 != 4) = true:=by simp [h4]
 have c2 : (t.f0 == 2) = false:=by simp [h2]
 have c3 : (t.f0 == 4) = false:=by simp [h4]
 have c4 : decide (t.f0 = 2) = false:=decide_eq_false h2
 have c5 : decide (t.f0 = 4) = false:=decide_eq_false h4
 clear old hg hP hb ht h2 h4
 go_enter Tryd.func78,Tryd.ntmps78
 go_wp2_with (first
  | ((with_reducible refine gate_dst (N:=5) rfl ?_);refine nb HR 5 (cs:=#[.int .i64 t.f0,.string t.f1,.int .i64 t.f2,.slice A t.f3.length c]) (t:=29) rfl rfl (by first | (go_simp;done) | (go_simp;rfl)) ?_;clear HR;intro ga w1 HR)
  | ((with_reducible refine gate_dst (N:=6) rfl ?_);refine nb HR 6 (cs:=#[.int .i64 1,.string (⟨#[]⟩ : ByteArray),.int .i64 x,.slice none 0 0]) (t:=29) rfl rfl (by first | (go_simp;done) | (go_simp;rfl)) ?_;clear HR;intro gx w2 HR)
  | ((with_reducible refine gate_dst (N:=7) rfl ?_);refine nb HR 7 (cs:=#[.int .i64 1,.string (⟨#[]⟩ : ByteArray),.int .i64 y,.slice none 0 0]) (t:=29) rfl rfl (by first | (go_simp;done) | (go_simp;rfl)) ?_;clear HR;intro gy w3 HR)
  | ((with_reducible refine gate_dst (N:=8) rfl ?_);refine nb HR 8 (cs:=#[.int .i64 0,.string (⟨#[]⟩ : ByteArray),.int .i64 0,.slice none 0 0]) (t:=29) rfl rfl (by first | (go_simp;done) | (go_simp;rfl)) ?_;clear HR;intro gr w4 HR;obtain ⟨c4ga0,c4ga1,c4ga2,c4ga3⟩:=HR.out.c4 3 rfl;obtain ⟨c4g0,c4g1⟩:=HR.out.c2 4 rfl;obtain ⟨f4g0,f4g1⟩:=HR.out.f2 4 rfl)
  | ((with_reducible refine gate_store (t:=4) (p:=30) rfl ?_);refine st1 HR 4 rfl 1 (.bool true) rfl rfl rfl (by first | (go_simp;done) | (go_simp;rfl)) (cs':=#[.int .i64 n,.bool true]) rfl ?_;clear HR;intro w5 HR;clear c4ga0 c4ga1 c4ga2 c4ga3 c4g0 c4g1 f4g0 f4g1;obtain ⟨c5gr0,c5gr1,c5gr2,c5gr3⟩:=HR.out.c4 0 rfl;obtain ⟨f5gr0,f5gr1,f5gr2,f5gr3⟩:=HR.out.f4 0 rfl)
  | ((with_reducible refine gate_store (t:=29) (p:=8) rfl ?_);refine stA HR 0 rfl [.int .i64 0,.string (⟨#[]⟩ : ByteArray),.int .i64 0,.slice none 0 0] rfl rfl rfl rfl (by first | (go_simp;done) | (go_simp;rfl)) ?_;clear HR;intro w6 HR;clear c5gr0 c5gr1 c5gr2 c5gr3 f5gr0 f5gr1 f5gr2 f5gr3))
 refine bodyPost_ret (results_cell_row rfl _ _ gr 29 #[.int .i64 0,.string (⟨#[]⟩ : ByteArray),.int .i64 0,.slice none 0 0] (0,0) _ rfl (HR.out.has 0 rfl).2 Tryd.underlying29 rfl (by kernel_rfl)) rfl ?_
 exact ⟨none,0,rfl,foot_nil _ _,(HR.out.has 4 rfl).2,HR.out.below,HR.out.kept⟩
end
end Go.Proofs.YtojedbogbodkiaaDoor.KGr
