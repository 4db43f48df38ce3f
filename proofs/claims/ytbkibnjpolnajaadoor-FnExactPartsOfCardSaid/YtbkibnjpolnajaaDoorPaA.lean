/- PartsOf of the program and of the reference tell the same parts. No condition. -/
import Derived.Test.YtbkibnjpolnajaaDoorKPax2
import Derived.Test.YtbkibnjpolnajaaDoorKPax1
import Derived.Test.YtbkibnjpolnajaaDoorShelfF
import Derived.Lib.Space
import Derived.Lib.Fields
import Derived.Lib.AppendIntMem
import Derived.OpenShut
set_option linter.unusedVariables false
set_option linter.unusedSimpArgs false
namespace Go.Proofs.YtbkibnjpolnajaaDoor.KPa
open Go.RowKit Go.Proofs.YtbkibnjpolnajaaDoorW.PrintWords Go.Proofs.YtbkibnjpolnajaaDoorW.PrintLast Go.Proofs.YtbkibnjpolnajaaDoorW.PrintMore
/-! #### strings.Fields by the shelf's contract -/
theorem Ev.pos {α : Type} {c : Prop} [Decidable c] {g f : Nat → Option α} {r : α} (h : c) (k : Ev g r) : Ev (fun n => if c then g n else f n) r := Ev.congr (fun _ => if_pos h) k
theorem Ev.neg {α : Type} {c : Prop} [Decidable c] {g f : Nat → Option α} {r : α} (h : ¬c) (k : Ev f r) : Ev (fun n => if c then g n else f n) r := Ev.congr (fun _ => if_neg h) k
theorem Ev.tt {α : Type} {g f : Nat → Option α} {r : α} (k : Ev g r) : Ev (fun n => if true = true then g n else f n) r := Ev.pos rfl k
theorem Ev.ff {α : Type} {g f : Nat → Option α} {r : α} (k : Ev f r) : Ev (fun n => if false = true then g n else f n) r := Ev.neg (by decide) k
def toB (l : List UInt8) : ByteArray := ⟨l.toArray⟩
theorem R_strs (W : World) (xs : List ByteArray) (hm : xs.length ≤ 9223372036854775807) : Kd.R Kd.string 9 (W.alloc (.cells (xs.map Value.string).toArray 9)) W.heap.size (fun _ => True) (.slice (some ⟨W.heap.size, 0, none⟩) xs.length xs.length) xs := by
  refine ⟨fun k hk => trivial, xs.map Value.string, ?_, ?_⟩
  · have h2 := World.ownsRow_lit (base := W.heap.size) (e := 9) (size := Kd.string.sz) W (xs.map Value.string).toArray xs.length (Nat.le_refl _) (by simpa [maxLen] using hm) (by show ((xs.map Value.string).toArray).size = xs.length * 1; simp)
    simpa using h2
  · refine ⟨by show (xs.map Value.string).length = xs.length * 1; simp, fun j p hj => ?_⟩
    have hlt : j < xs.length := (List.getElem?_eq_some_iff.1 hj).1
    have e : ((xs.map Value.string).drop (j * Kd.string.sz)).take Kd.string.sz = [.string p] := by
      show ((xs.map Value.string).drop (j * 1)).take 1 = _
      rw [Nat.mul_one, List.drop_eq_getElem_cons (by simpa using hlt), List.take_succ_cons, List.take_zero, List.getElem_map]
      rw [List.getElem?_eq_getElem hlt] at hj
      rw [Option.some.inj hj]
    rw [e]
    rfl
theorem fieldsGo_short : ∀ (l cur : List UInt8), (Lib.fieldsGo cur l).length ≤ l.length + 1
  | [], cur => by rw [Lib.fieldsGo]; split <;> simp
  | b :: l, cur => by
    rw [Lib.fieldsGo]
    have h1 := fieldsGo_short l []
    have h2 := fieldsGo_short l (cur ++ [b])
    split
    · split
      · simp only [List.length_cons]; omega
      · simp only [List.length_cons]; omega
    · simp only [List.length_cons]; omega
theorem fields_short (l : List UInt8) : (Lib.fields l).length ≤ l.length + 1 := fieldsGo_short l []
@[reducible] def i_fl : fk_strings_Fields := ⟨fun _ s => if s.size ≤ 600 ∧ (∀ b ∈ s.data.toList, b.toNat < 128) then some ((Lib.fields s.data.toList).map toB) else none, fun _ _ => LeO.refl _, fun k s r w hT h => by
  by_cases hs : s.size ≤ 600 ∧ (∀ b ∈ s.data.toList, b.toNat < 128)
  · rw [if_pos hs] at h
    cases h
    refine (Tryd.strings_Fields_laid s w (by omega) (fun j b hj => hs.2 b (List.mem_of_getElem? hj)) hT.here).mono ?_
    rintro e w' ⟨rfl, rfl⟩
    refine ⟨_, rfl, ?_, below_alloc (Below.refl _ _) _⟩
    have hl := fields_short s.data.toList
    have hz : s.data.toList.length = s.size := by rw [Array.length_toList]; rfl
    have := R_strs w ((Lib.fields s.data.toList).map toB) (by rw [List.length_map]; omega)
    rw [List.map_map, List.length_map] at this
    exact this
  · rw [if_neg hs] at h
    cases h⟩
/-! #### the parts of a line -/
def okB (b : Int) : Bool := decide (32 ≤ b) && decide (b ≤ 126)
def fin (zs : List ByteArray) : List ByteArray × Bool := if zs.length > 10 then ([], false) else (zs, true)
theorem w_next (i n : Nat) (h : i < n) (hn : n ≤ 4611686018427387904) : wrap64 ((i : Int) + 1) = ((i + 1 : Nat) : Int) := by unfold wrap64; omega
theorem w_nextL (i n : Nat) (h : i ≤ n) (hn : n ≤ 4611686018427387903) : wrap64 ((i : Int) + 1) = ((i + 1 : Nat) : Int) := by unfold wrap64; omega
theorem bt_byte (t : ByteArray) (i : Nat) (h : i < t.data.toList.length) : bt t (i : Int) = ((t.data.toList[i]'h).toNat : Int) := by
  unfold bt
  rw [dif_pos (by rw [Int.toNat_natCast]; simpa using h)]
  simp only [Int.toNat_natCast, Array.getElem_toList]
  rfl
theorem size_list (t : ByteArray) : t.data.toList.length = t.size := by rw [Array.length_toList]; rfl
theorem cut_list (t : ByteArray) (b i : Nat) : (t.extract b i).data.toList = (t.data.toList.drop b).take (i - b) := by
  rw [ByteArray.data_extract, Array.toList_extract]
theorem cut_next (t : ByteArray) (b i : Nat) (hb : b ≤ i) (hi : i < t.data.toList.length) : (t.extract b (i + 1)).data.toList = (t.extract b i).data.toList ++ [t.data.toList[i]] := by
  rw [cut_list, cut_list, show i + 1 - b = (i - b) + 1 by omega, List.take_succ_eq_append_getElem (by rw [List.length_drop]; omega)]
  congr 2
  rw [List.getElem_drop]
  congr 1
  omega
theorem cut_empty (t : ByteArray) (b i : Nat) (hb : b ≤ i) (hi : i ≤ t.data.toList.length) : (t.extract b i).data.toList.isEmpty = decide (b = i) := by
  rw [cut_list]
  by_cases h : b = i
  · subst h; simp
  · rw [decide_eq_false h]
    cases hx : (t.data.toList.drop b).take (i - b) with
    | nil =>
      have := congrArg List.length hx
      rw [List.length_take, List.length_drop, List.length_nil] at this
      omega
    | cons a l => rfl
theorem toB_cut (t : ByteArray) (b i : Nat) : toB (t.extract b i).data.toList = t.extract b i := by
  show (⟨(t.extract b i).data.toList.toArray⟩ : ByteArray) = t.extract b i
  rw [Array.toArray_toList]
theorem isSp_ok (x : UInt8) (h : okB (x.toNat : Int) = true) : Lib.isSp x = decide ((x.toNat : Int) = 32) := by
  have h' : 32 ≤ x.toNat ∧ x.toNat ≤ 126 := by
    simp only [okB, Bool.and_eq_true, decide_eq_true_eq] at h
    omega
  unfold Lib.isSp
  have ne : ∀ c : UInt8, c.toNat < 32 → (x == c) = false := fun c hc => by
    rw [beq_eq_false_iff_ne]
    rintro rfl
    omega
  rw [ne 9 (by decide), ne 10 (by decide), ne 11 (by decide), ne 12 (by decide), ne 13 (by decide)]
  by_cases h32 : x = 32
  · subst h32; rfl
  · have : ¬ ((x.toNat : Int) = 32) := fun e => h32 (UInt8.toNat_inj.1 (by show x.toNat = 32; omega))
    rw [decide_eq_false this, beq_eq_false_iff_ne.2 h32]; rfl
theorem spec_fin (t : ByteArray) (hs : t.size ≤ 600) (zs : List ByteArray) (b : Int) : Ev (fun k => spec_PartsOf.l0 k t zs b ((t.size + 1 : Nat) : Int)) (fin zs) := by
  refine Ev.step (f := fun _ => some (fin zs)) (fun k => ?_) (Ev.now _)
  simp only [spec_PartsOf.l0]
  rw [if_neg (by omega)]
  unfold fin
  by_cases h : zs.length > 10
  · rw [if_pos (by omega), if_pos h]
  · rw [if_neg (by omega), if_neg h]
theorem spec_cut (t : ByteArray) (hs : t.size ≤ 600) (i b : Nat) (ys : List ByteArray) (R : List ByteArray × Bool) (hi : i ≤ t.size) (hb : b ≤ i) (hl : ys.length ≤ i)
    (h : Ev (fun k => spec_PartsOf.l0 k t (if b < i then ys ++ [t.extract b i] else ys) ((i + 1 : Nat) : Int) ((i + 1 : Nat) : Int)) R) : Ev (fun k => spec_PartsOf.j2 k t ys b i false) R := by
  refine Ev.step (fun k => ?_) h
  simp only [spec_PartsOf.j2, Bool.false_eq_true, if_false]
  rw [w_nextL i 600 (by omega) (by omega)]
  by_cases c : b < i
  · rw [if_pos (by omega), if_pos (by omega), if_pos (by omega), if_pos (by omega), if_pos (by omega), if_pos c, Int.toNat_natCast, Int.toNat_natCast]
  · rw [if_neg (by omega), if_neg c]
theorem spec_loop (t : ByteArray) (hs : t.size ≤ 600) (d : Nat) : ∀ (i b : Nat) (ys : List ByteArray), i ≤ t.size → t.size - i = d → b ≤ i → ys.length ≤ i → (∀ j : Nat, i ≤ j → j < t.size → okB (bt t j) = true) →
    Ev (fun k => spec_PartsOf.l0 k t ys b i) (fin (ys ++ (Lib.fieldsGo (t.extract b i).data.toList (t.data.toList.drop i)).map toB)) := by
  have hz := size_list t
  induction d with
  | zero =>
    intro i b ys hi hd hb hl hok
    have hi' : i = t.size := by omega
    rw [List.drop_eq_nil_of_le (by omega), Lib.fieldsGo, cut_empty t b i hb (by omega)]
    have step : Ev (fun k => spec_PartsOf.j2 k t ys b i false) (fin (ys ++ (if decide (b = i) = true then [] else [(t.extract b i).data.toList]).map toB)) := by
      refine spec_cut t hs i b ys _ hi hb hl ?_
      rw [hi']
      have := spec_fin t hs (if b < t.size then ys ++ [t.extract b t.size] else ys) ((t.size + 1 : Nat) : Int)
      by_cases c : b = t.size
      · rw [if_neg (by omega)] at this ⊢
        rw [decide_eq_true c, if_pos rfl, List.map_nil, List.append_nil]
        exact this
      · rw [if_pos (by omega)] at this ⊢
        rw [decide_eq_false c, if_neg (by decide), List.map_cons, List.map_nil, toB_cut]
        exact this
    refine Ev.step (f := fun k => spec_PartsOf.j1 k t ys b i false) (fun k => ?_) (Ev.step (fun k => ?_) step)
    · simp only [spec_PartsOf.l0]
      rw [if_pos (by omega), if_neg (by omega)]
    · simp only [spec_PartsOf.j1, Bool.false_eq_true, if_false]
      rw [if_neg (by omega)]
  | succ d ih =>
    intro i b ys hi hd hb hl hok
    have hlt : i < t.data.toList.length := by omega
    have hok1 := hok i (Nat.le_refl _) (by omega)
    have hbt := bt_byte t i hlt
    have hok2 : 32 ≤ bt t i ∧ bt t i ≤ 126 := by simpa [okB] using hok1
    have hsp := isSp_ok (t.data.toList[i]) (by rw [← hbt]; exact hok1)
    rw [← hbt] at hsp
    have hin : Ev (fun k => spec_PartsOf.j2 k t ys b i (bt t i != 32)) (fin (ys ++ (Lib.fieldsGo (t.extract b i).data.toList (t.data.toList.drop i)).map toB)) := by
      rw [List.drop_eq_getElem_cons hlt, Lib.fieldsGo, hsp]
      by_cases h32 : bt t i = 32
      · rw [show (bt t i != 32) = false by rw [h32]; rfl, decide_eq_true h32, if_pos rfl, cut_empty t b i hb (by omega)]
        refine spec_cut t hs i b ys _ hi hb hl ?_
        have he : (t.extract (i + 1) (i + 1)).data.toList = [] := by rw [cut_list, Nat.sub_self]; rfl
        by_cases c : b = i
        · rw [if_neg (by omega), decide_eq_true c, if_pos rfl]
          have := ih (i + 1) (i + 1) ys (by omega) (by omega) (by omega) (by omega) (fun j h1 h2 => hok j (by omega) h2)
          rw [he] at this
          exact this
        · rw [if_pos (by omega), decide_eq_false c, if_neg (by decide), List.map_cons, toB_cut]
          have := ih (i + 1) (i + 1) (ys ++ [t.extract b i]) (by omega) (by omega) (by omega) (by rw [List.length_append, List.length_singleton]; omega) (fun j h1 h2 => hok j (by omega) h2)
          rw [he, List.append_assoc, List.singleton_append] at this
          exact this
      · rw [show (bt t i != 32) = true from bne_iff_ne.2 h32, decide_eq_false h32, if_neg (by decide)]
        have := ih (i + 1) b ys (by omega) (by omega) (by omega) (by omega) (fun j h1 h2 => hok j (by omega) h2)
        rw [cut_next t b i hb hlt] at this
        refine Ev.step (fun k => ?_) this
        simp only [spec_PartsOf.j2, if_true]
        rw [w_next i 600 (by omega) (by omega)]
    refine Ev.step (f := fun k => spec_PartsOf.j1 k t ys b i false) (fun k => ?_) (Ev.step (fun k => ?_) hin)
    · simp only [spec_PartsOf.l0]
      rw [if_pos (by omega), if_pos (by omega), if_pos (by omega), if_neg (by omega), decide_eq_false (by omega)]
    · simp only [spec_PartsOf.j1, Bool.false_eq_true, if_false]
      rw [if_pos (by omega), if_pos (by omega)]
theorem spec_bad (t : ByteArray) (hs : t.size ≤ 600) (d : Nat) : ∀ (i b : Nat) (ys : List ByteArray), i ≤ t.size → t.size - i = d → b ≤ i → ys.length ≤ i → (∃ j : Nat, i ≤ j ∧ j < t.size ∧ okB (bt t j) = false) →
    Ev (fun k => spec_PartsOf.l0 k t ys b i) ([], false) := by
  induction d with
  | zero => rintro i b ys hi hd hb hl ⟨j, h1, h2, _⟩; omega
  | succ d ih =>
    rintro i b ys hi hd hb hl ⟨j, h1, h2, h3⟩
    cases hok : okB (bt t i) with
    | false =>
      have hj : Ev (fun k => spec_PartsOf.j1 k t ys b i true) ([], false) := by
        refine Ev.step (f := fun _ => some ([], false)) (fun k => ?_) (Ev.now _)
        simp only [spec_PartsOf.j1, if_true]
      refine Ev.step (fun k => ?_) hj
      simp only [spec_PartsOf.l0]
      rw [if_pos (by omega), if_pos (by omega), if_pos (by omega)]
      by_cases c : bt t i < 32
      · rw [if_pos c]
      · have : bt t i > 126 := by
          unfold okB at hok
          rw [decide_eq_true (show 32 ≤ bt t i by omega), Bool.true_and] at hok
          have := of_decide_eq_false hok
          omega
        rw [if_neg c, decide_eq_true this]
    | true =>
      have hok2 : 32 ≤ bt t i ∧ bt t i ≤ 126 := by simpa [okB] using hok
      have hex : ∃ j : Nat, i + 1 ≤ j ∧ j < t.size ∧ okB (bt t j) = false := by
        refine ⟨j, ?_, h2, h3⟩
        rcases Nat.lt_or_ge i j with h | h
        · exact h
        · exfalso
          rw [show j = i by omega, hok] at h3
          cases h3
      have hin : Ev (fun k => spec_PartsOf.j2 k t ys b i (bt t i != 32)) ([], false) := by
        by_cases h32 : bt t i = 32
        · rw [show (bt t i != 32) = false by rw [h32]; rfl]
          refine spec_cut t hs i b ys _ hi hb hl ?_
          refine ih (i + 1) (i + 1) _ (by omega) (by omega) (by omega) ?_ hex
          split
          · rw [List.length_append, List.length_singleton]; omega
          · omega
        · rw [show (bt t i != 32) = true from bne_iff_ne.2 h32]
          refine Ev.step (fun k => ?_) (ih (i + 1) b ys (by omega) (by omega) (by omega) (by omega) hex)
          simp only [spec_PartsOf.j2, if_true]
          rw [w_next i 600 (by omega) (by omega)]
      refine Ev.step (f := fun k => spec_PartsOf.j1 k t ys b i false) (fun k => ?_) (Ev.step (fun k => ?_) hin)
      · simp only [spec_PartsOf.l0]
        rw [if_pos (by omega), if_pos (by omega), if_pos (by omega), if_neg (by omega), decide_eq_false (by omega)]
      · simp only [spec_PartsOf.j1, Bool.false_eq_true, if_false]
        rw [if_pos (by omega), if_pos (by omega)]
theorem impl_ok (t : ByteArray) (hs : t.size ≤ 600) (hall : ∀ j : Nat, j < t.size → okB (bt t j) = true) (d : Nat) : ∀ i : Nat, i ≤ t.size → t.size - i = d → Ev (fun k => @impl_PartsOf.l0 i_fl k t i) (fin ((Lib.fields t.data.toList).map toB)) := by
  induction d with
  | zero =>
    intro i hi hd
    have hb : t.size ≤ 600 ∧ (∀ b ∈ t.data.toList, b.toNat < 128) := by
      refine ⟨hs, fun b hb => ?_⟩
      obtain ⟨j, hj, rfl⟩ := List.getElem_of_mem hb
      have h1 := hall j (by rw [← size_list]; exact hj)
      rw [bt_byte t j hj] at h1
      simp only [okB, Bool.and_eq_true, decide_eq_true_eq] at h1
      omega
    refine Ev.step (f := fun _ => some (fin ((Lib.fields t.data.toList).map toB))) (fun k => ?_) (Ev.now _)
    simp only [impl_PartsOf.l0]
    rw [if_neg (by omega)]
    have e : i_fl.f k t = some ((Lib.fields t.data.toList).map toB) := if_pos hb
    rw [e, Option.bind_some]
    unfold fin
    by_cases h : ((Lib.fields t.data.toList).map toB).length > 10
    · rw [if_pos (by omega), if_pos h]
    · rw [if_neg (by omega), if_neg h]
  | succ d ih =>
    intro i hi hd
    have hok := hall i (by omega)
    have hok2 : 32 ≤ bt t i ∧ bt t i ≤ 126 := by simpa [okB] using hok
    refine Ev.step (fun k => ?_) (ih (i + 1) (by omega) (by omega))
    simp only [impl_PartsOf.l0]
    rw [if_pos (by omega), if_pos (by omega), show wrap64 (bt t i) = bt t i by unfold wrap64; omega]
    unfold impl_within.f
    rw [if_pos (by omega), decide_eq_true hok2.2, Option.bind_some, if_pos rfl, w_next i 600 (by omega) (by omega)]
theorem impl_bad (t : ByteArray) (hs : t.size ≤ 600) (d : Nat) : ∀ i : Nat, i ≤ t.size → t.size - i = d → (∃ j : Nat, i ≤ j ∧ j < t.size ∧ okB (bt t j) = false) → Ev (fun k => @impl_PartsOf.l0 i_fl k t i) ([], false) := by
  induction d with
  | zero => rintro i hi hd ⟨j, h1, h2, _⟩; omega
  | succ d ih =>
    rintro i hi hd ⟨j, h1, h2, h3⟩
    have hr := bt_range t i
    cases hok : okB (bt t i) with
    | false =>
      refine Ev.step (f := fun _ => some ([], false)) (fun k => ?_) (Ev.now _)
      simp only [impl_PartsOf.l0]
      rw [if_pos (by omega), if_pos (by omega), show wrap64 (bt t i) = bt t i by unfold wrap64; omega]
      unfold impl_within.f okB at *
      by_cases c : bt t i ≥ 32
      · rw [decide_eq_true c, Bool.true_and] at hok
        rw [if_pos c, hok]; rfl
      · rw [if_neg c]; rfl
    | true =>
      have hok2 : 32 ≤ bt t i ∧ bt t i ≤ 126 := by simpa [okB] using hok
      refine Ev.step (fun k => ?_) (ih (i + 1) (by omega) (by omega) ⟨j, ?_, h2, h3⟩)
      · simp only [impl_PartsOf.l0]
        rw [if_pos (by omega), if_pos (by omega), show wrap64 (bt t i) = bt t i by unfold wrap64; omega]
        unfold impl_within.f
        rw [if_pos (by omega), decide_eq_true hok2.2, Option.bind_some, if_pos rfl, w_next i 600 (by omega) (by omega)]
      · rcases Nat.lt_or_ge i j with h | h
        · exact h
        · exfalso
          rw [show j = i by omega, hok] at h3
          cases h3
theorem both_parts (t : ByteArray) : ∃ r : List ByteArray × Bool, r.1.length ≤ 10 ∧ Ev (fun k => spec_PartsOf.f k t) r ∧ Ev (fun k => @impl_PartsOf.f i_fl k t) r := by
  unfold spec_PartsOf.f impl_PartsOf.f
  by_cases hs : t.size > 600
  · exact ⟨([], false), by simp, Ev.pos (by omega) (Ev.now _), Ev.pos (by omega) (Ev.now _)⟩
  · by_cases hall : ∀ j : Nat, j < t.size → okB (bt t j) = true
    · refine ⟨fin ((Lib.fields t.data.toList).map toB), ?_, Ev.neg (by omega) ?_, Ev.neg (by omega) (impl_ok t (by omega) hall _ 0 (by omega) rfl)⟩
      · unfold fin
        split
        · simp
        · show ((Lib.fields t.data.toList).map toB).length ≤ 10
          omega
      · have := spec_loop t (by omega) t.size 0 0 [] (by omega) (by omega) (by omega) (by simp) (fun j _ h2 => hall j h2)
        rw [List.drop_zero, List.nil_append, cut_list, Nat.sub_self, List.take_zero] at this
        exact this
    · obtain ⟨j, hj⟩ := Classical.not_forall.1 hall
      have hj2 : j < t.size ∧ okB (bt t j) = false := by
        refine ⟨Classical.byContradiction fun h => hj fun h2 => absurd h2 h, ?_⟩
        cases h : okB (bt t j) with
        | false => rfl
        | true => exact absurd (fun _ => h) hj
      exact ⟨([], false), by simp, Ev.neg (by omega) (spec_bad t (by omega) _ 0 0 [] (by omega) rfl (by omega) (by simp) ⟨j, by omega, hj2.1, hj2.2⟩), Ev.neg (by omega) (impl_bad t (by omega) _ 0 (by omega) rfl ⟨j, by omega, hj2.1, hj2.2⟩)⟩
/-! #### markText tells a text -/
theorem markText_l (d : Nat) : ∀ (x : Int) (s : ByteArray), 0 ≤ x → x ≤ 1000000000 → x < 10 ^ d → s.size + d ≤ 100 → ∃ r, laws_markText.l0 (d + 1) x s = some r := by
  induction d with
  | zero =>
    intro x s h0 hb h1 hs
    obtain rfl : x = 0 := by omega
    exact ⟨⟨#[109]⟩ ++ s, by simp only [laws_markText.l0]; rw [if_neg (by omega), if_pos (by omega)]⟩
  | succ d ih =>
    intro x s h0 hb h1 hs
    by_cases c : x > 0
    · have hd : wrap64 (Int.tdiv x 10) = x / 10 := by
        rw [Int.tdiv_eq_ediv_of_nonneg h0]
        exact (by unfold wrap64; omega)
      have hq : x / 10 < 10 ^ d := by
        rw [Int.pow_succ] at h1
        omega
      obtain ⟨r, hr⟩ := ih (x / 10) ((strOfNums [(wrap64 (48 + (Int.tmod x 10))) % 256]) ++ s) (by omega) (by omega) hq (by rw [ByteArray.size_append]; have : (strOfNums [(wrap64 (48 + (Int.tmod x 10))) % 256]).size = 1 := rfl; omega)
      refine ⟨r, ?_⟩
      simp only [laws_markText.l0, Option.bind_some]
      have h3 : (strOfNums [(wrap64 (48 + (Int.tmod x 10))) % 256]).size = 1 := rfl
      rw [if_pos c, if_pos (by omega), hd]
      exact hr
    · refine ⟨⟨#[109]⟩ ++ s, ?_⟩
      simp only [laws_markText.l0]
      rw [if_neg c, if_pos (by omega)]
def mtx (n : Int) : ByteArray := (laws_markText.f 11 n).getD ⟨#[]⟩
theorem mtx_ok (n : Int) (h0 : 0 < n) (h1 : n ≤ 1000000000) : laws_markText.f 11 n = some (mtx n) := by
  obtain ⟨r, hr⟩ := markText_l 10 n ⟨#[]⟩ (by omega) h1 (by omega) (by decide)
  have : laws_markText.f 11 n = some r := by
    unfold laws_markText.f
    rw [if_neg (by omega)]
    exact hr
  unfold mtx
  rw [this]
  rfl
theorem mtx_ev (n : Int) (h0 : 0 < n) (h1 : n ≤ 1000000000) : Ev (fun k => laws_markText.f k n) (mtx n) := Ev.of (fun k => @laws_markText.mono i_fl n k) (mtx_ok n h0 h1)
/-! #### marks of texts -/
def mkS : List ByteArray → Int → List ByteArray
  | [], _ => []
  | _ :: l, m => mtx m :: mkS l (m + 1)
theorem mkS_length : ∀ (l : List ByteArray) (m : Int), (mkS l m).length = l.length
  | [], _ => rfl
  | s :: l, m => by rw [mkS, List.length_cons, mkS_length l, List.length_cons]
theorem mkS_append : ∀ (a b : List ByteArray) (m : Int), mkS (a ++ b) m = mkS a m ++ mkS b (m + a.length)
  | [], b, m => by simp [mkS]
  | s :: a, b, m => by
    rw [List.cons_append, mkS, mkS, mkS_append a b, List.cons_append, List.length_cons]
    congr 3
    omega
theorem eqS_ev (xs : List ByteArray) (hx : xs.length ≤ 3000) (d : Nat) : ∀ i : Nat, i ≤ xs.length → xs.length - i = d → Ev (fun k => laws_eqStringS.l0 k xs xs i) true := by
  induction d with
  | zero =>
    intro i hi hd
    refine Ev.step (f := fun _ => some true) (fun k => ?_) (Ev.now _)
    simp only [laws_eqStringS.l0]
    rw [if_neg (by omega)]
  | succ d ih =>
    intro i hi hd
    refine Ev.step (fun k => ?_) (ih (i + 1) (by omega) (by omega))
    simp only [laws_eqStringS.l0]
    rw [if_pos (by omega), if_pos (by omega), if_pos (by omega), w_next i 3000 (by omega) (by omega)]
    exact if_pos trivial
theorem eqSS_ev (xs : List ByteArray) (hx : xs.length ≤ 3000) : Ev (fun k => laws_eqStringS.f k xs xs) true := by
  unfold laws_eqStringS.f
  exact Ev.pos rfl (eqS_ev xs hx _ 0 (by omega) rfl)
theorem set_mid (a : List ByteArray) (s u : ByteArray) (b : List ByteArray) : (a ++ s :: b).set a.length u = a ++ u :: b := by
  induction a with
  | nil => rfl
  | cons x a ih => rw [List.cons_append, List.length_cons, List.set_cons_succ, ih]; rfl
theorem get_mid (a : List ByteArray) (s : ByteArray) (b : List ByteArray) : rdOf ByteArray.empty (a ++ s :: b) ((a.length : Nat) : Int) = s := by
  simp [rdOf]
theorem mark_step (a b : List ByteArray) (s : ByteArray) (k : Nat) (ha : a.length + (b.length + 1) ≤ 3000) : laws_markStringS.l0 (k + 1) (mkS a 1 ++ s :: b) (1 + (a.length : Int)) ((a.length : Nat) : Int) = (laws_markText.f k (1 + (a.length : Int))).bind fun t => laws_markStringS.l0 k (mkS a 1 ++ t :: b) (1 + ((a.length + 1 : Nat) : Int)) ((a.length + 1 : Nat) : Int) := by
  have hl := mkS_length a 1
  have hn := w_next a.length 3000 (by omega) (by omega)
  have h0 : (a.length : Int) < ((mkS a 1 ++ s :: b).length : Int) := by rw [List.length_append, hl, List.length_cons]; omega
  have h1 : (0 : Int) ≤ (a.length : Int) := by omega
  have e1 : wrap64 (1 + (a.length : Int) + 1) = 1 + ((a.length + 1 : Nat) : Int) := by unfold wrap64; omega
  have st : ∀ u v : ByteArray, (mkS a 1 ++ u :: b).set a.length v = mkS a 1 ++ v :: b := fun u v => by
    have := set_mid (mkS a 1) u v b
    rw [hl] at this
    exact this
  simp only [laws_markStringS.l0]
  rw [if_pos h0]
  simp only [if_pos h1, Int.toNat_natCast, st, e1, hn]
theorem markS_ev (b : List ByteArray) : ∀ (a : List ByteArray), a.length + b.length ≤ 3000 → Ev (fun k => laws_markStringS.l0 k (mkS a 1 ++ b) (1 + (a.length : Int)) ((a.length : Nat) : Int)) (1 + ((a.length + b.length : Nat) : Int), mkS a 1 ++ mkS b (1 + (a.length : Int))) := by
  induction b with
  | nil =>
    intro a ha
    refine Ev.step (f := fun _ => some (1 + (a.length : Int), mkS a 1 ++ [])) (fun k => ?_) ?_
    · simp only [laws_markStringS.l0]
      rw [if_neg (by rw [List.length_append, mkS_length]; simp)]
    · rw [mkS, List.length_nil, Nat.add_zero]; exact Ev.now _
  | cons s b ih =>
    intro a ha
    rw [List.length_cons] at ha
    have hm := mtx_ev (1 + (a.length : Int)) (by omega) (by omega)
    have hq : (a ++ [s]).length = a.length + 1 := by simp
    have hi := ih (a ++ [s]) (by omega)
    have hw : mkS (a ++ [s]) 1 = mkS a 1 ++ [mtx (1 + (a.length : Int))] := by
      rw [mkS_append]; rfl
    rw [hq, hw, List.append_assoc, List.append_assoc, List.singleton_append, List.singleton_append] at hi
    have he : mkS (s :: b) (1 + (a.length : Int)) = mtx (1 + (a.length : Int)) :: mkS b (1 + ((a.length + 1 : Nat) : Int)) := by
      rw [mkS, show 1 + (a.length : Int) + 1 = 1 + ((a.length + 1 : Nat) : Int) by omega]
    rw [he, List.length_cons, show a.length + (b.length + 1) = a.length + 1 + b.length by omega]
    exact Ev.step (fun k => mark_step a b s k ha) (Ev.bind (f := fun k t => laws_markStringS.l0 k (mkS a 1 ++ t :: b) (1 + ((a.length + 1 : Nat) : Int)) ((a.length + 1 : Nat) : Int)) hm hi)
theorem heldS_ev (b : List ByteArray) : ∀ (a : List ByteArray), a.length + b.length ≤ 3000 → Ev (fun k => laws_heldStringS.l0 k (mkS a 1 ++ mkS b (1 + (a.length : Int))) (1 + (a.length : Int)) ((a.length : Nat) : Int)) (1 + ((a.length + b.length : Nat) : Int)) := by
  induction b with
  | nil =>
    intro a ha
    refine Ev.step (f := fun _ => some (1 + (a.length : Int))) (fun k => ?_) ?_
    · simp only [laws_heldStringS.l0]
      rw [if_neg (by rw [mkS, List.length_append, mkS_length]; simp)]
    · rw [List.length_nil, Nat.add_zero]; exact Ev.now _
  | cons s b ih =>
    intro a ha
    rw [List.length_cons] at ha
    have hl := mkS_length a 1
    have hm := mtx_ev (1 + (a.length : Int)) (by omega) (by omega)
    have hmk : mkS a 1 ++ mkS (s :: b) (1 + (a.length : Int)) = mkS (a ++ [s]) 1 ++ mkS b (1 + ((a ++ [s]).length : Int)) := by
      rw [mkS_append a [s], List.append_assoc, List.length_append, List.length_singleton]
      simp only [mkS, List.cons_append, List.nil_append]
      rw [show 1 + ((a.length + 1 : Nat) : Int) = 1 + (a.length : Int) + 1 by omega]
    have e1 : wrap64 (1 + (a.length : Int) + 1) = 1 + (((a ++ [s]).length : Nat) : Int) := by rw [List.length_append, List.length_singleton]; unfold wrap64; omega
    have hg : rdOf ByteArray.empty (mkS a 1 ++ mkS (s :: b) (1 + (a.length : Int))) ((a.length : Nat) : Int) = mtx (1 + (a.length : Int)) := by
      rw [mkS]
      have := get_mid (mkS a 1) (mtx (1 + (a.length : Int))) (mkS b (1 + (a.length : Int) + 1))
      rw [hl] at this
      exact this
    refine Ev.step (f := fun k => (laws_markText.f k (1 + (a.length : Int))).bind fun t => (if (mtx (1 + (a.length : Int))).toList = t.toList then laws_heldStringS.l0 k (mkS a 1 ++ mkS (s :: b) (1 + (a.length : Int))) (1 + (((a ++ [s]).length : Nat) : Int)) (((a ++ [s]).length : Nat) : Int) else some (-1))) (fun k => ?_) ?_
    · simp only [laws_heldStringS.l0]
      rw [if_pos (by rw [List.length_append, mkS_length, mkS_length, List.length_cons]; omega), if_pos (by omega), hg, e1, w_next a.length 3000 (by omega) (by omega), show (a ++ [s]).length = a.length + 1 by simp]
    · refine Ev.bind (f := fun k t => (if (mtx (1 + (a.length : Int))).toList = t.toList then laws_heldStringS.l0 k (mkS a 1 ++ mkS (s :: b) (1 + (a.length : Int))) (1 + (((a ++ [s]).length : Nat) : Int)) (((a ++ [s]).length : Nat) : Int) else some (-1))) hm (Ev.pos rfl ?_)
      rw [hmk, show ((a.length + (s :: b).length : Nat) : Int) = (((a ++ [s]).length + b.length : Nat) : Int) by simp; omega]
      exact ih (a ++ [s]) (by rw [List.length_append, List.length_singleton]; omega)
theorem law_parts (t : ByteArray) : Ev (fun k => @laws_FnExactPartsOf.f i_fl k t) true := by
  letI := i_fl
  unfold laws_FnExactPartsOf.f
  by_cases h : t.size > 1048576
  · exact Ev.pos (by omega) (Ev.now _)
  · refine Ev.neg (by omega) ?_
    obtain ⟨x, hl, h1, h2⟩ := both_parts t
    obtain ⟨xs, b⟩ := x
    simp only at hl
    refine Ev.bind h1 (Ev.bind h2 (Ev.bind (eqSS_ev xs (by omega)) (Ev.tt ?_)))
    have hm := markS_ev xs [] (by simp; omega)
    have hh := heldS_ev xs [] (by simp; omega)
    simp only [mkS, List.nil_append, List.length_nil, Int.ofNat_zero, Int.mul_zero, Int.add_zero, Nat.zero_add, Int.natCast_zero] at hm hh
    have hm' : Ev (fun k => laws_markStringS.f k xs 1) (1 + (xs.length : Int), mkS xs 1) := hm
    have hh' : Ev (fun k => laws_heldStringS.f k (mkS xs 1) 1) (1 + (xs.length : Int)) := hh
    refine Ev.step (fun k => by simp only [laws_FnExactPartsOf.j0, bne_self_eq_false, Bool.false_eq_true, if_false] <;> rfl) ?_
    refine Ev.bind hm' (Ev.bind hh' (Ev.neg (by omega) (Ev.pos rfl ?_)))
    refine Ev.bind h2 (Ev.bind (eqSS_ev xs (by omega)) (Ev.tt ?_))
    refine Ev.step (fun k => by simp only [laws_FnExactPartsOf.j1, bne_self_eq_false, Bool.false_eq_true, if_false] <;> rfl) ?_
    exact Ev.bind hh' (Ev.neg (by omega) (Ev.pos rfl (Ev.now _)))
theorem parts_walk (t : ByteArray) (w : World) (hs : t.size ≤ 140737488351232) (hT : Lib.TabBelow Tryd.prog w.heap.size w "strings.asciiSpace" .u8 Lib.asciiSpaceTab) :
    Calls Tryd.prog 4 #[.string t] w fun e w' => e = .returned (.bool true) ∧ Below w.heap.size w w' := by
  obtain ⟨k, h⟩ := Ev.rounds (law_parts t)
  exact @laws_FnExactPartsOf.calls i_fl k t true w hT h
end Go.Proofs.YtbkibnjpolnajaaDoor.KPa
