/- Parts of a proof about terms. No condition. -/
import Derived.Test.YtojedbogbodkiaaDoorKCsx5
import Derived.Test.YtojedbogbodkiaaDoorCsA
import Derived.Test.YtojedbogbodkiaaDoorKS
set_option linter.unusedVariables false
set_option linter.unusedSimpArgs false
namespace Go.Proofs.YtojedbogbodkiaaDoor.KCs
open Go.RowKit Go.Proofs.YtojedbogbodkiaaDoorW.PrintWords Go.Proofs.YtojedbogbodkiaaDoorW.PrintLast Go.Proofs.YtojedbogbodkiaaDoorW.PrintMore
/-! #### what a walk holds: things, each about blocks of its own -/
structure As where
 M : Nat → World → (Nat → Prop) → Prop
 mono : ∀ {b : Nat} {W : World} {ok ok' : Nat → Prop},(∀ k,ok k → ok' k) → M b W ok → M b W ok'
 bound : ∀ {b : Nat} {W : World} {ok : Nat → Prop},M b W ok → M b W (fun k => ok k ∧ k < W.heap.size)
 move : ∀ {b : Nat} {W W' : World} {ok : Nat → Prop},(∀ k,ok k → W'.heap[k]? = W.heap[k]?) → M b W ok → M b W' ok
 lower : ∀ {b b' : Nat} {W : World} {ok : Nat → Prop},b' ≤ b → M b W ok → M b' W ok
namespace As
def box (g t : Nat) (cs : Array Value) : As:=⟨fun _ W ok => ok g ∧ W.heap[g]? = some (.cells cs t (0,0)),fun h x => ⟨h _ x.1,x.2⟩,fun x => ⟨⟨x.1,blk_lt x.2⟩,x.2⟩,fun h x => ⟨x.1,(h _ x.1).trans x.2⟩,fun _ x => x⟩
def row {α : Type} (d : Kd α) (e : Nat) (v : Value) (xs : List α) : As:=⟨fun b W ok => Kd.S d e W b ok v xs,fun h x => Kd.S_mono x h,fun x => Kd.S_mono (Kd.S_bound x) (fun _ hk => ⟨hk.1,hk.2.2.1⟩),fun h x => Kd.S_move x h,fun h x => Kd.S_lower x h⟩
def rrow {α : Type} (d : Kd α) (e : Nat) (v : Value) (xs : List α) : As:=⟨fun b W ok => d.R e W b ok v xs,fun h x => Kd.R_mono x h,fun x => Kd.R_mono (Kd.R_bound x) (fun _ hk => ⟨hk.1,hk.2.2.1⟩),fun h x => Kd.R_step x (fun k hk _ => h k hk),fun h x => Kd.R_lower x h⟩
def vrow {α : Type} (d : Kd α) (e : Nat) (v : Value) (xs : List α) : As:=⟨fun _ W ok => Kd.V d e W 0 ok v xs,fun h x => Kd.V_mono x h,fun x => Kd.V_bound x,fun h x => Kd.V_step x (fun k hk _ => h k hk),fun _ x => x⟩
/-- One element, told by its cells. -/
def el {α : Type} (d : Kd α) (p : α) (cs : List Value) : As:=⟨fun b W ok => d.M W b ok p cs,fun h x => d.M_mono h x,fun x => d.M_mono (fun _ hk => ⟨hk.1,hk.2.2.1⟩) (d.M_bound x),fun h x => d.M_move h x,fun h x => d.M_lower h x⟩
def star (a b : As) : As:=⟨fun l W ok => ∃ p : Nat → Prop,a.M l W (fun k => ok k ∧ p k) ∧ b.M l W (fun k => ok k ∧ ¬ p k),
 fun h ⟨p,x,y⟩ => ⟨p,a.mono (fun k hk => ⟨h k hk.1,hk.2⟩) x,b.mono (fun k hk => ⟨h k hk.1,hk.2⟩) y⟩,
 fun ⟨p,x,y⟩ => ⟨p,a.mono (fun _ hk => ⟨⟨hk.1.1,hk.2⟩,hk.1.2⟩) (a.bound x),b.mono (fun _ hk => ⟨⟨hk.1.1,hk.2⟩,hk.1.2⟩) (b.bound y)⟩,
 fun h ⟨p,x,y⟩ => ⟨p,a.move (fun k hk => h k hk.1) x,b.move (fun k hk => h k hk.1) y⟩,
 fun h ⟨p,x,y⟩ => ⟨p,a.lower h x,b.lower h y⟩⟩
/-- Both, about the same blocks. -/
def also (a b : As) : As:=⟨fun l W ok => a.M l W ok ∧ b.M l W ok,fun h x => ⟨a.mono h x.1,b.mono h x.2⟩,fun x => ⟨a.bound x.1,b.bound x.2⟩,fun h x => ⟨a.move h x.1,b.move h x.2⟩,fun h x => ⟨a.lower h x.1,b.lower h x.2⟩⟩
def none : As:=⟨fun _ _ _ => True,fun _ _ => trivial,fun _ => trivial,fun _ _ => trivial,fun _ _ => trivial⟩
end As
theorem below_le {b B : Nat} {W W' : World} (h : Below B W W') (hB : b ≤ B) : Below b W W':=⟨h.os,h.tape,h.output,h.size,fun k hk => h.block k (Nat.lt_of_lt_of_le hk hB)⟩
/-- A walk that began in u, of which the blocks of ok are the walk's to write, holds these in W; w is the world whose blocks stay as they are. -/
structure Run (w u : World) (ok : Nat → Prop) (os : List As) (W : World) : Prop where
 old : Below w.heap.size w u
 lowok : ∀ k,ok k → w.heap.size ≤ k
 bel : Below w.heap.size w W
 kept : Kept u W ok
 sep : ∃ f : Nat → Nat,∀ (i : Nat) (a : As),os[i]? = some a → a.M w.heap.size W (fun k => f k = i ∧ (ok k ∨ u.heap.size ≤ k))
section
variable {w u W W' : World} {ok : Nat → Prop} {os : List As}
theorem run_law (w : World) : Run w w (fun _ => False) [] w:=⟨Below.refl _ _,fun _ h => h.elim,Below.refl _ _,Kept.refl _ _,fun _ => 0,fun i a h => by simp at h⟩
theorem run_fun {a : As} (old : Below w.heap.size w u) (lo : ∀ k,ok k → w.heap.size ≤ k) (h : a.M w.heap.size u ok) : Run w u ok [a] u :=
 ⟨old,lo,old,Kept.refl _ _,fun _ => 0,fun i b hb => by
  cases i with
  | zero =>
   obtain rfl : a = b:=by simpa using hb
   exact a.mono (fun k hk => ⟨rfl,.inl hk⟩) h
  | succ i => simp at hb⟩
theorem Run.up (h : Run w u ok os W) : u.heap.size ≤ W.heap.size:=h.kept.1
theorem Run.ww (h : Run w u ok os W) : w.heap.size ≤ W.heap.size:=h.bel.size
theorem Run.all {a : As} (h : Run w u ok os W) (i : Nat) (ho : os[i]? = some a) : ∃ oki : Nat → Prop,a.M w.heap.size W oki ∧ (∀ k,oki k → w.heap.size ≤ k ∧ k < W.heap.size) ∧
  ∀ W' b,Below w.heap.size W W' → Kept W W' oki → b.M w.heap.size W' (fun k => oki k ∨ W.heap.size ≤ k) → Run w u ok (os.set i b) W':=by
 obtain ⟨f,hf⟩:=h.sep
 refine ⟨fun k => (f k = i ∧ (ok k ∨ u.heap.size ≤ k)) ∧ k < W.heap.size,a.bound (hf i a ho),fun k hk => ⟨hk.1.2.elim (h.lowok k) (fun h2 => Nat.le_trans h.old.size h2),hk.2⟩,fun W' b hB hk hb => ?_⟩
 have hup:=h.up
 refine ⟨h.old,h.lowok,h.bel.trans hB,h.kept.then_ hk (fun k h2 => h2.1.2),fun k => if W.heap.size ≤ k then i else f k,fun j c hc => ?_⟩
 by_cases hj : i = j
 ·subst hj
  rw [List.getElem?_set_self (by exact (List.getElem?_eq_some_iff.1 ho).1)] at hc
  obtain rfl:=Option.some.inj hc
  refine b.mono (fun k h2 => ?_) hb
  show (if W.heap.size ≤ k then i else f k) = i ∧ _
  rcases h2 with h2|h2
  ·rw [if_neg (by have:=h2.2;omega)];exact h2.1
  ·rw [if_pos h2];exact ⟨rfl,.inr (by omega)⟩
 ·rw [List.getElem?_set_ne hj] at hc
  refine c.mono (fun k h2 => ?_) (c.move (fun k h2 => ?_) (c.bound (hf j c hc)))
  ·show (if W.heap.size ≤ k then i else f k) = j ∧ _
   rw [if_neg (by have:=h2.2;omega)];exact h2.1
  ·exact hk.2 k h2.2 (fun h3 => hj (h3.1.1.symm.trans h2.1.1))
theorem Run.step (h : Run w u ok os W) (hb : Below W.heap.size W W') : Run w u ok os W':=by
 obtain ⟨f,hf⟩:=h.sep
 exact ⟨h.old,h.lowok,below_then h.bel h.ww hb,h.kept.below hb,f,fun i a ha => a.mono (fun k hk => hk.1) (a.move (fun k hk => hb.block k hk.2) (a.bound (hf i a ha)))⟩
theorem Run.drew (h : Run w u ok os W) : Run w u ok os W.drew:=h.step (below_drew (Below.refl _ _))
theorem Run.push (h : Run w u ok os W) (a : As) (hb : Below W.heap.size W W') (ha : a.M W.heap.size W' (fun k => W.heap.size ≤ k)) : Run w u ok (a :: os) W':=by
 obtain ⟨f,hf⟩:=h.sep
 have hup:=h.up
 refine ⟨h.old,h.lowok,below_then h.bel h.ww hb,h.kept.below hb,fun k => if W.heap.size ≤ k then 0 else f k + 1,fun i b hi => ?_⟩
 cases i with
 | zero =>
  obtain rfl : a = b:=by simpa using hi
  exact a.mono (fun k hk => by show (if W.heap.size ≤ k then 0 else f k + 1) = 0 ∧ _;rw [if_pos hk];exact ⟨rfl,.inr (Nat.le_trans hup hk)⟩) (a.lower h.ww ha)
 | succ i =>
  refine b.mono (fun k hk => ?_) (b.move (fun k hk => hb.block k hk.2) (b.bound (hf i b (by simpa using hi))))
  show (if W.heap.size ≤ k then 0 else f k + 1) = i + 1 ∧ _
  rw [if_neg (by have:=hk.2;omega)];exact ⟨by rw [hk.1.1],hk.1.2⟩
theorem Run.has {a : As} (h : Run w u ok os W) (i : Nat) (ho : os[i]? = some a) : a.M w.heap.size W (fun k => w.heap.size ≤ k):=by
 obtain ⟨oki,h1,h2,_⟩:=h.all i ho
 exact a.mono (fun k hk => (h2 k hk).1) h1
/-- What stands in the list's place i as two is two in the list. -/
theorem Run.part {a b : As} (h : Run w u ok os W) (i : Nat) (ho : os[i]? = some (As.star a b)) : Run w u ok (b :: os.set i a) W:=by
 obtain ⟨f,hf⟩:=h.sep
 obtain ⟨p,h1,h2⟩:=hf i _ ho
 classical
 refine ⟨h.old,h.lowok,h.bel,h.kept,fun k => if f k = i ∧ ¬ p k then 0 else f k + 1,fun j c hc => ?_⟩
 cases j with
 | zero =>
  obtain rfl : b = c:=by simpa using hc
  exact b.mono (fun k hk => by show (if f k = i ∧ ¬ p k then 0 else f k + 1) = 0 ∧ _;rw [if_pos ⟨hk.1.1,hk.2⟩];exact ⟨rfl,hk.1.2⟩) h2
 | succ j =>
  have hc' : (os.set i a)[j]? = some c:=by simpa using hc
  by_cases hj : i = j
  ·subst hj
   rw [List.getElem?_set_self (by exact (List.getElem?_eq_some_iff.1 ho).1)] at hc'
   obtain rfl:=Option.some.inj hc'
   exact a.mono (fun k hk => by show (if f k = i ∧ ¬ p k then 0 else f k + 1) = i + 1 ∧ _;rw [if_neg (fun h3 => h3.2 hk.2)];exact ⟨by rw [hk.1.1],hk.1.2⟩) h1
  ·rw [List.getElem?_set_ne hj] at hc'
   exact c.mono (fun k hk => by show (if f k = i ∧ ¬ p k then 0 else f k + 1) = j + 1 ∧ _;rw [if_neg (fun h3 => hj (h3.1.symm.trans hk.1))];exact ⟨by rw [hk.1],hk.2⟩) (hf j c hc')
/-- Two things are one; the other's place holds nothing. -/
theorem Run.join {a b : As} (h : Run w u ok os W) (i j : Nat) (hi : os[i]? = some a) (hj : os[j]? = some b) (hij : i ≠ j) : Run w u ok ((os.set j As.none).set i (As.star a b)) W:=by
 obtain ⟨f,hf⟩:=h.sep
 classical
 refine ⟨h.old,h.lowok,h.bel,h.kept,fun k => if f k = j then i else f k,fun l c hc => ?_⟩
 by_cases hl : i = l
 ·subst hl
  rw [List.getElem?_set_self (by rw [List.length_set];exact (List.getElem?_eq_some_iff.1 hi).1)] at hc
  obtain rfl:=Option.some.inj hc
  refine ⟨fun k => f k = i,a.mono (fun k hk => ?_) (hf i a hi),b.mono (fun k hk => ?_) (hf j b hj)⟩
  ·refine ⟨?_,hk.1⟩
   show (if f k = j then i else f k) = i ∧ _
   rw [if_neg (by rw [hk.1];exact hij)];exact hk
  ·refine ⟨?_,fun h3 => hij (h3.symm.trans hk.1)⟩
   show (if f k = j then i else f k) = i ∧ _
   rw [if_pos hk.1];exact ⟨rfl,hk.2⟩
 ·rw [List.getElem?_set_ne hl] at hc
  by_cases hl2 : j = l
  ·subst hl2
   rw [List.getElem?_set_self (by exact (List.getElem?_eq_some_iff.1 hj).1)] at hc
   obtain rfl:=Option.some.inj hc
   trivial
  ·rw [List.getElem?_set_ne hl2] at hc
   exact c.mono (fun k hk => by show (if f k = j then i else f k) = l ∧ _;rw [if_neg (by rw [hk.1];exact fun h3 => hl2 h3.symm)];exact hk) (hf l c hc)
/-- The thing is told otherwise. -/
theorem Run.re {a b : As} (h : Run w u ok os W) (i : Nat) (ho : os[i]? = some a) (hab : ∀ ok',a.M w.heap.size W ok' → b.M w.heap.size W ok') : Run w u ok (os.set i b) W:=by
 obtain ⟨f,hf⟩:=h.sep
 refine ⟨h.old,h.lowok,h.bel,h.kept,f,fun j c hc => ?_⟩
 by_cases hj : i = j
 ·subst hj
  rw [List.getElem?_set_self (by exact (List.getElem?_eq_some_iff.1 ho).1)] at hc
  obtain rfl:=Option.some.inj hc
  exact hab _ (hf i a ho)
 ·rw [List.getElem?_set_ne hj] at hc
  exact hf j c hc
theorem Run.pick (h : Run w u ok os W) (l : List Nat) (hl : l.Nodup) : Run w u ok (l.map (fun i => os.getD i As.none)) W:=by
 obtain ⟨f,hf⟩:=h.sep
 refine ⟨h.old,h.lowok,h.bel,h.kept,fun k => l.idxOf (f k),fun i a ha => ?_⟩
 rw [List.getElem?_map] at ha
 obtain ⟨j,hj,rfl⟩:=Option.map_eq_some_iff.1 ha
 by_cases h2 : j < os.length
 ·have h3 : os[j]? = some (os.getD j As.none):=by rw [List.getD_eq_getElem?_getD,List.getElem?_eq_getElem h2];rfl
  refine As.mono _ (fun k hk => ⟨?_,hk.2⟩) (hf j _ h3)
  obtain ⟨hi,rfl⟩:=List.getElem?_eq_some_iff.1 hj
  show l.idxOf (f k) = i
  rw [hk.1]
  exact hl.idxOf_getElem i hi
 ·rw [List.getD_eq_getElem?_getD,List.getElem?_eq_none (by omega)]
  trivial
theorem Run.one {a : As} (h : Run w u ok os W) (i : Nat) (ho : os[i]? = some a) : a.M w.heap.size W (fun k => ok k ∨ u.heap.size ≤ k):=by
 obtain ⟨f,hf⟩:=h.sep
 exact a.mono (fun _ hk => hk.2) (hf i a ho)
theorem Run.two {a b : As} (h : Run w u ok os W) (i j : Nat) (hi : os[i]? = some a) (hj : os[j]? = some b) (hij : i ≠ j) : (As.star a b).M w.heap.size W (fun k => ok k ∨ u.heap.size ≤ k) :=
 (h.join i j hi hj hij).one i (List.getElem?_set_self (by rw [List.length_set];exact (List.getElem?_eq_some_iff.1 hi).1))
theorem Run.below (h : Run w u ok os W) : Below w.heap.size u W:=⟨h.bel.os.trans h.old.os.symm,h.bel.tape.trans h.old.tape.symm,h.bel.output.trans h.old.output.symm,h.up,fun k hk => (h.bel.block k hk).trans (h.old.block k hk).symm⟩
theorem Run.cell (h : Run w u ok os W) (i : Nat) {g t : Nat} {cs : Array Value} (ho : os[i]? = some (As.box g t cs)) (j : Nat) {c : Value} (hc : cs[j]? = some c) : W.cell? ⟨g,j,none⟩ = some c:=(blk_cell (h.has i ho).2 j).trans hc
theorem Run.free (h : Run w u ok os W) (i : Nat) {g t : Nat} {cs : Array Value} (ho : os[i]? = some (As.box g t cs)) (j : Nat) : W.frozen? ⟨g,j,none⟩ = false:=blk_frozen (h.has i ho).2 j
theorem Run.box (h : Run w u ok os W) {g t : Nat} {cs : Array Value} (hg : g = W.heap.size) (hb : Below W.heap.size W W') (hB : W'.heap[g]? = some (.cells cs t (0,0))) : Run w u ok (As.box g t cs :: os) W':=h.push _ hb ⟨Nat.le_of_eq hg.symm,hB⟩
/-- A cell of a box is stored into. -/
theorem Run.set (h : Run w u ok os W) (i : Nat) {g t : Nat} {cs : Array Value} (ho : os[i]? = some (As.box g t cs)) (j : Nat) (v : Value) : Run w u ok (os.set i (As.box g t (cs.setIfInBounds j v))) (W.setCell ⟨g,j,none⟩ v):=by
 obtain ⟨oki,h1,h2,h3⟩:=h.all i ho
 exact h3 _ _ ((Below.refl w.heap.size W).setCell (h2 g h1.1).1 v) (Kept.setCell (Kept.refl _ _) (.inl h1.1) v) ⟨.inl h1.1,blk_set h1.2 j v⟩
/-- Some cells of a box are stored into. -/
theorem Run.seg (h : Run w u ok os W) (i : Nat) {g t : Nat} {cs : Array Value} (ho : os[i]? = some (As.box g t cs)) (j : Nat) (vs : List Value) (hl : j + vs.length ≤ cs.size) : Run w u ok (os.set i (As.box g t (cs.toList.take j ++ vs ++ cs.toList.drop (j + vs.length)).toArray)) (W.setCells g j vs):=by
 obtain ⟨oki,h1,h2,h3⟩:=h.all i ho
 obtain ⟨e1,e2,e3,e4⟩:=setCells_same g vs j W
 obtain ⟨cur,h4,h5,h6⟩:=setCells_row vs j W cs h1.2 hl
 have hf:=fun k (hk : k ≠ g) => setCells_far vs j (w:=W) k hk
 refine h3 _ _ ⟨e1,e2,e3,by rw [e4];exact Nat.le_refl _,fun k hk => hf k (fun e => by have:=(h2 g h1.1).1;omega)⟩ ⟨by rw [e4];exact Nat.le_refl _,fun k _ hn => hf k (fun e => hn (by rw [e];exact h1.1))⟩ ⟨.inl h1.1,?_⟩
 rw [h4,← h6]
/-- All cells of a box are stored into. -/
theorem Run.store (h : Run w u ok os W) (i : Nat) {g t : Nat} {cs : Array Value} (ho : os[i]? = some (As.box g t cs)) (vs : List Value) (hl : vs.length = cs.size) : Run w u ok (os.set i (As.box g t vs.toArray)) (W.setCells g 0 vs):=by
 have:=h.seg i ho 0 vs (by omega)
 rwa [List.take_zero,List.nil_append,Nat.zero_add,hl,List.drop_eq_nil_of_le (by rw [Array.length_toList];exact Nat.le_refl _),List.append_nil] at this
section
variable {P : Program} {ops : Array Oper} {rest : List Oper} {o : Oper} {a : Act} {Q : Exit → Act → World → Prop} {Kc : Act → World → Prop} {α : Type}
/-- append(row, x), behind 'at_builtin': x is the thing j, which is the row's then. -/
theorem Run.app (h : Run w u ok os W) (i j : Nat) (d : Kd α) {e : Nat} {v : Value} {xs : List α} (hi : os[i]? = some (As.row d e v xs)) {aj : As} (hj : os[j]? = some aj) (hij : i ≠ j) (p : α) (cs : List Value) (hel : ∀ okj : Nat → Prop,aj.M w.heap.size W okj → d.M W w.heap.size okj p cs)
  (hgd : o.guard = none) (s x : Operand) (t : TypeId) (z : Value) (bytes : Nat) (ho : o.op = .call { callee:=.builtin .append,args:=#[s,x],argTypes:=#[t,t] })
  (ht : P.underlying t = some (.slice e)) (hinfo : (P.info? e).map (fun i => (i.zero,i.size,i.bytes)) = some (some z,d.sz,bytes)) (hz : z.cells.size = d.sz) (hs0 : 0 < d.sz) (hb0 : 0 < bytes)
  (hs : a.eval s = v) (hx : a.eval x = .slice (some ⟨W.heap.size,0,none⟩) 1 1) (hl : (xs.length + 1) * bytes ≤ 140737488355328)
  (K : ∀ v1 w1,Run w u ok ((os.set j As.none).set i (As.row d e v1 (xs ++ [p]))) w1 → wpList P ops Q rest (a.put o.dst v1) w1) : wpList P ops Q (o :: rest) a (W.alloc (.cells cs.toArray e)):=by
 have h2:=h.join i j hi hj hij
 have hi2 : ((os.set j As.none).set i (As.star (As.row d e v xs) aj))[i]? = some (As.star (As.row d e v xs) aj):=List.getElem?_set_self (by rw [List.length_set];exact (List.getElem?_eq_some_iff.1 hi).1)
 obtain ⟨oki,⟨q,g1,g2⟩,hlo,hput⟩:=h2.all i hi2
 have hv : ∀ k,v.ownBlock = some k → oki k ∧ q k:=fun k hk => (Kd.S_R g1).1 k hk
 refine Kd.S_append d (w0:=W) w.heap.size hgd s x t e z bytes ho ht hinfo hz hs0 hb0 v xs p cs (fun k => oki k ∨ W.heap.size ≤ k) (fun k => oki k ∧ ¬ q k) hs hx (hel _ g2) (fun k hk => ⟨.inl hk.1,fun e_ => hk.2 (hv k e_.symm).2⟩) (fun k hk => .inr hk) (Kd.S_mono g1 (fun k hk => ⟨.inl hk.1,fun h3 => h3.2 hk.2⟩)) (Below.refl _ _) h.ww hl ?_
 intro v1 w1 hS hB hg _
 have:=hput w1 (As.row d e v1 (xs ++ [p])) hB ⟨hg.size,fun k hk hn => hg.block k hk (fun e_ => hn (hv k e_.symm).1)⟩ hS
 rw [List.set_set] at this
 exact K v1 w1 this
/-- .. x leads to nothing. -/
theorem Run.appR (h : Run w u ok os W) (i : Nat) (d : Kd α) {e : Nat} {v : Value} {xs : List α} (hi : os[i]? = some (As.rrow d e v xs)) (p : α) (cs : List Value) (hel : d.M W w.heap.size (fun _ => False) p cs)
  (hgd : o.guard = none) (s x : Operand) (t : TypeId) (z : Value) (bytes : Nat) (ho : o.op = .call { callee:=.builtin .append,args:=#[s,x],argTypes:=#[t,t] })
  (ht : P.underlying t = some (.slice e)) (hinfo : (P.info? e).map (fun i => (i.zero,i.size,i.bytes)) = some (some z,d.sz,bytes)) (hz : z.cells.size = d.sz) (hs0 : 0 < d.sz) (hb0 : 0 < bytes)
  (hs : a.eval s = v) (hx : a.eval x = .slice (some ⟨W.heap.size,0,none⟩) 1 1) (hl : (xs.length + 1) * bytes ≤ 140737488355328)
  (K : ∀ v1 w1,Run w u ok (os.set i (As.rrow d e v1 (xs ++ [p]))) w1 → wpList P ops Q rest (a.put o.dst v1) w1) : wpList P ops Q (o :: rest) a (W.alloc (.cells cs.toArray e)):=by
 obtain ⟨oki,g1,hlo,hput⟩:=h.all i hi
 have hv : ∀ k,v.ownBlock = some k → oki k:=fun k hk => g1.1 k hk
 refine Kd.R_append d (w0:=W) w.heap.size hgd s x t e z bytes ho ht hinfo hz hs0 hb0 v xs p cs (fun k => oki k ∨ W.heap.size ≤ k) (fun _ => False) hs hx hel (fun _ h => h.elim) (fun k hk => .inr hk) (Kd.R_mono g1 (fun k hk => .inl hk)) (Below.refl _ _) h.ww hl ?_
 intro v1 w1 hS hB hg _
 exact K v1 w1 (hput w1 (As.rrow d e v1 (xs ++ [p])) hB ⟨hg.size,fun k hk hn => hg.block k hk (fun e_ => hn (hv k e_.symm))⟩ hS)
/-- .. in a region that draws its order. -/
theorem Run.appStep (h : Run w u ok os W) (i j : Nat) (d : Kd α) {e : Nat} {v : Value} {xs : List α} (hi : os[i]? = some (As.row d e v xs)) {aj : As} (hj : os[j]? = some aj) (hij : i ≠ j) (p : α) (cs : List Value) (hel : ∀ okj : Nat → Prop,aj.M w.heap.size W okj → d.M W w.heap.size okj p cs)
  (hw : Region.wanted o (yielded ops a.tmps) = true) (s x : Operand) (t : TypeId) (z : Value) (bytes : Nat) (ho : o.op = .call { callee:=.builtin .append,args:=#[s,x],argTypes:=#[t,t] })
  (ht : P.underlying t = some (.slice e)) (hinfo : (P.info? e).map (fun i => (i.zero,i.size,i.bytes)) = some (some z,d.sz,bytes)) (hz : z.cells.size = d.sz) (hs0 : 0 < d.sz) (hb0 : 0 < bytes)
  (hs : a.eval s = v) (hx : a.eval x = .slice (some ⟨W.heap.size,0,none⟩) 1 1) (hl : (xs.length + 1) * bytes ≤ 140737488355328)
  (K : ∀ v1 w1,Run w u ok ((os.set j As.none).set i (As.row d e v1 (xs ++ [p]))) w1 → Kc (a.put o.dst v1) w1) : if Region.wanted o (yielded ops a.tmps) = true then Oper.wp P o a (W.alloc (.cells cs.toArray e)) Kc Q else Kc (a.put o.dst undef) (W.alloc (.cells cs.toArray e)):=by
 have h2:=h.join i j hi hj hij
 have hi2 : ((os.set j As.none).set i (As.star (As.row d e v xs) aj))[i]? = some (As.star (As.row d e v xs) aj):=List.getElem?_set_self (by rw [List.length_set];exact (List.getElem?_eq_some_iff.1 hi).1)
 obtain ⟨oki,⟨q,g1,g2⟩,hlo,hput⟩:=h2.all i hi2
 have hv : ∀ k,v.ownBlock = some k → oki k ∧ q k:=fun k hk => (Kd.S_R g1).1 k hk
 refine Kd.S_append_step d (w0:=W) w.heap.size hw s x t e z bytes ho ht hinfo hz hs0 hb0 v xs p cs (fun k => oki k ∨ W.heap.size ≤ k) (fun k => oki k ∧ ¬ q k) hs hx (hel _ g2) (fun k hk => ⟨.inl hk.1,fun e_ => hk.2 (hv k e_.symm).2⟩) (fun k hk => .inr hk) (Kd.S_mono g1 (fun k hk => ⟨.inl hk.1,fun h3 => h3.2 hk.2⟩)) (Below.refl _ _) h.ww hl ?_
 intro v1 w1 hS hB hg _
 have:=hput w1 (As.row d e v1 (xs ++ [p])) hB ⟨hg.size,fun k hk hn => hg.block k hk (fun e_ => hn (hv k e_.symm).1)⟩ hS
 rw [List.set_set] at this
 exact K v1 w1 this
end
end
theorem as_row {α : Type} {d : Kd α} {e : Nat} {W W' : World} {v : Value} {xs : List α} (h : Kd.S d e W' W.heap.size (fun _ => True) v xs) : (As.row d e v xs).M W.heap.size W' (fun k => W.heap.size ≤ k):=Kd.S_mono (Kd.S_bound h) (fun _ hk => hk.2.1)
theorem as_rrow {α : Type} {d : Kd α} {e : Nat} {W W' : World} {v : Value} {xs : List α} (h : d.R e W' W.heap.size (fun _ => True) v xs) : (As.rrow d e v xs).M W.heap.size W' (fun k => W.heap.size ≤ k):=Kd.R_mono (Kd.R_bound h) (fun _ hk => hk.2.1)
theorem as_fst {l : Nat} {a b : As} {W : World} {ok : Nat → Prop} (h : (As.star a b).M l W ok) : a.M l W ok:=let ⟨_,x,_⟩:=h;a.mono (fun _ hk => hk.1) x
theorem as_snd {l : Nat} {a b : As} {W : World} {ok : Nat → Prop} (h : (As.star a b).M l W ok) : b.M l W ok:=let ⟨_,_,y⟩:=h;b.mono (fun _ hk => hk.1) y
/-! #### Dbs: two rows apart -/
section
set_option linter.unusedSectionVars false
variable [fk_laws_szTerm] [fk_laws_eqTerm] [fk_spec_l34Term] [fk_strconv_Itoa]
def adb (v : Value) (xs : List S48) (v' : Value) (os : List ByteArray) : As:=As.star (As.row kD59 48 v xs) (As.rrow Kd.string 9 v' os)
theorem rdD {b : Nat} {W : World} {ok : Nat → Prop} {A : Option Addr} {n c : Nat} {xs : List S48} {v' : Value} {os : List ByteArray} (h : (adb (.slice A n c) xs v' os).M b W ok) : n ≤ c ∧ Kd.C k48 W A n xs:=readS59 (as_fst h)
theorem rdO {b : Nat} {W : World} {ok : Nat → Prop} {A : Option Addr} {n c : Nat} {os : List ByteArray} {v : Value} {xs : List S48} (h : (adb v xs (.slice A n c) os).M b W ok) : n ≤ c ∧ Kd.C Kd.string W A n os:=by
 obtain ⟨h1,h2,h3⟩:=Kd.R_reads' (as_snd h)
 rw [h1]
 exact ⟨by omega,h3⟩
def MadeDb (xs : List S48) (os : List ByteArray) (W : World) (e : Ending) (W' : World) : Prop:=∃ A c B d,e = .returned (.agg #[.slice A xs.length c,.slice B os.length d]) ∧ (adb (.slice A xs.length c) xs (.slice B os.length d) os).M W.heap.size W' (fun k => W.heap.size ≤ k) ∧ Below W.heap.size W W'
set_option maxHeartbeats 16000000 in
set_option maxRecDepth 100000 in
theorem toDb_calls (l : List S60) (os : List ByteArray) (xs : List S48) (A : Option Addr) (c : Nat) (B : Option Addr) (d : Nat) (w : World) (hX : Kd.C k60 w A l.length l) (hXC : l.length ≤ c) (hO : Kd.C Kd.string w B os.length os) (hOC : os.length ≤ d)
  (hC : ∀ (A : Option Addr) (c : Nat) (W : World),Kd.C k60 W A l.length l → l.length ≤ c → Calls Tryd.prog 49 #[.slice A l.length c] W fun e W' => ∃ v,e = .returned v ∧ Kd.S kD59 48 W' W.heap.size (fun _ => True) v xs ∧ Below W.heap.size W W')
  (hS : ∀ (A : Option Addr) (c : Nat) (W : World),Kd.C Kd.string W A os.length os → os.length ≤ c → Calls Tryd.prog 50 #[.slice A os.length c] W fun e W' => ∃ v,e = .returned v ∧ Kd.R Kd.string 9 W' W.heap.size (fun _ => True) v os ∧ Below W.heap.size W W') :
  Calls Tryd.prog 17 #[.agg #[.slice A l.length c,.slice B os.length d]] w fun e w' => MadeDb xs os w e w':=by
 have HR:=Aside0.mk (run_law w)
 have HX:=Aside0.mk hX
 have HXC:=Aside0.mk hXC
 have HO:=Aside0.mk hO
 have HOC:=Aside0.mk hOC
 have HC:=Aside0.mk hC
 have HS:=Aside0.mk hS
 clear hX hXC hO hOC hC hS
 go_enter Tryd.func17,Tryd.ntmps17
 go_wp2_with (first
  | ((with_reducible refine gate_dst (N := 1) rfl ?_); refine box_event ?hg1 (N := 1) ?hd1 (cs := #[.slice A l.length c, .slice B os.length d]) (t := 36) ?hr1 ?_; (case hd1 => rfl); (case hg1 => rfl); (case hr1 => first | (go_simp; done) | (go_simp; rfl)); intro ga hg w1 hbox hb; have q_ := Aside0.mk (HR.out.box hg hb hbox); clear HR; have HR := q_; clear q_; clear hg hbox hb)
  | ((with_reducible refine gate_dst (N := 2) rfl ?_); refine box_event ?hg2 (N := 2) ?hd2 (cs := #[.slice none 0 0, .slice none 0 0]) (t := 41) ?hr2 ?_; (case hd2 => rfl); (case hg2 => rfl); (case hr2 => first | (go_simp; done) | (go_simp; rfl)); intro gr hg w2 hbox hb; have q_ := Aside0.mk (HR.out.box hg hb hbox); clear HR; have HR := q_; clear q_; clear hg hbox hb)
  | ((with_reducible refine gate_dst (N := 3) rfl ?_); refine box_event ?hg3 (N := 3) ?hd3 (cs := #[.slice none 0 0, .slice none 0 0]) (t := 41) ?hr3 ?_; (case hd3 => rfl); (case hg3 => rfl); (case hr3 => first | (go_simp; done) | (go_simp; rfl)); intro go hg w3 hbox hb; have q_ := Aside0.mk (HR.out.box hg hb hbox); clear HR; have HR := q_; clear q_; clear hg hbox hb; have hc3_ga_0 : w3.cell? ⟨ga, 0, none⟩ = some (.slice A l.length c) := HR.out.cell 2 rfl 0 rfl; have hc3_ga_1 : w3.cell? ⟨ga, 1, none⟩ = some (.slice B os.length d) := HR.out.cell 2 rfl 1 rfl; have hc3_go_0 : w3.cell? ⟨go, 0, none⟩ = some (.slice none 0 0) := HR.out.cell 0 rfl 0 rfl; have hc3_go_1 : w3.cell? ⟨go, 1, none⟩ = some (.slice none 0 0) := HR.out.cell 0 rfl 1 rfl; have fc3_go_0 := HR.out.free 0 rfl 0; have fc3_go_1 := HR.out.free 0 rfl 1)
  | (go_at_call 49; refine (HC.out A c w3 (Kd.C_below HX.out HR.out.bel) HXC.out).mono ?_; rintro e w4 ⟨v_, rfl, ho, hb⟩; obtain ⟨A1, c1, rfl⟩ := Kd.S_slice ho; have q_ := Aside0.mk (HR.out.push (As.row kD59 48 _ xs) hb (as_row ho)); clear HR; have HR := q_; clear q_; clear hb ho; clear hc3_ga_0 hc3_ga_1 hc3_go_0 hc3_go_1 fc3_go_0 fc3_go_1; have hc4_ga_0 : w4.cell? ⟨ga, 0, none⟩ = some (.slice A l.length c) := HR.out.cell 3 rfl 0 rfl; have hc4_ga_1 : w4.cell? ⟨ga, 1, none⟩ = some (.slice B os.length d) := HR.out.cell 3 rfl 1 rfl; have hc4_go_0 : w4.cell? ⟨go, 0, none⟩ = some (.slice none 0 0) := HR.out.cell 1 rfl 0 rfl; have hc4_go_1 : w4.cell? ⟨go, 1, none⟩ = some (.slice none 0 0) := HR.out.cell 1 rfl 1 rfl; have fc4_go_0 := HR.out.free 1 rfl 0; have fc4_go_1 := HR.out.free 1 rfl 1)
  | ((with_reducible refine gate_store (t := 39) (p := 7) rfl ?_); refine store_event (t := 39) (p := 7) (v := ?vo5) (w1 := w4.setCell ⟨go, 0, none⟩ (.slice A1 xs.length c1)) ?hgs5 ?hos5 ?hns5 ?hrs5 ?_; (case hos5 => rfl); (case hgs5 => rfl); (case hns5 => rfl); (case hrs5 => first | (go_simp; done) | (go_simp; rfl)); intro w5 hw; have q_ := Aside0.mk (hw ▸ HR.out.set 1 rfl 0 (.slice A1 xs.length c1)); clear HR; have HR := q_; clear q_; clear hw; clear hc4_ga_0 hc4_ga_1 hc4_go_0 hc4_go_1 fc4_go_0 fc4_go_1; have hc5_ga_0 : w5.cell? ⟨ga, 0, none⟩ = some (.slice A l.length c) := HR.out.cell 3 rfl 0 rfl; have hc5_ga_1 : w5.cell? ⟨ga, 1, none⟩ = some (.slice B os.length d) := HR.out.cell 3 rfl 1 rfl; have hc5_go_0 : w5.cell? ⟨go, 0, none⟩ = some (.slice A1 xs.length c1) := HR.out.cell 1 rfl 0 rfl; have hc5_go_1 : w5.cell? ⟨go, 1, none⟩ = some (.slice none 0 0) := HR.out.cell 1 rfl 1 rfl; have fc5_go_0 := HR.out.free 1 rfl 0; have fc5_go_1 := HR.out.free 1 rfl 1)
  | (go_at_call 50; refine (HS.out B d w5 (Kd.C_below HO.out HR.out.bel) HOC.out).mono ?_; rintro e w6 ⟨v_, rfl, ho, hb⟩; obtain ⟨B1, d1, rfl⟩ := Kd.R_slice ho; have q_ := Aside0.mk (HR.out.push (As.rrow Kd.string 9 _ os) hb (as_rrow ho)); clear HR; have HR := q_; clear q_; clear hb ho; clear hc5_ga_0 hc5_ga_1 hc5_go_0 hc5_go_1 fc5_go_0 fc5_go_1; have hc6_go_0 : w6.cell? ⟨go, 0, none⟩ = some (.slice A1 xs.length c1) := HR.out.cell 2 rfl 0 rfl; have hc6_go_1 : w6.cell? ⟨go, 1, none⟩ = some (.slice none 0 0) := HR.out.cell 2 rfl 1 rfl; have fc6_go_0 := HR.out.free 2 rfl 0; have fc6_go_1 := HR.out.free 2 rfl 1)
  | ((with_reducible refine gate_store (t := 34) (p := 11) rfl ?_); refine store_event (t := 34) (p := 11) (v := ?vo7) (w1 := w6.setCell ⟨go, 1, none⟩ (.slice B1 os.length d1)) ?hgs7 ?hos7 ?hns7 ?hrs7 ?_; (case hos7 => rfl); (case hgs7 => rfl); (case hns7 => rfl); (case hrs7 => first | (go_simp; done) | (go_simp; rfl)); intro w7 hw; have q_ := Aside0.mk (hw ▸ HR.out.set 2 rfl 1 (.slice B1 os.length d1)); clear HR; have HR := q_; clear q_; clear hw; clear hc6_go_0 hc6_go_1 fc6_go_0 fc6_go_1; have hc7_go_0 : w7.cell? ⟨go, 0, none⟩ = some (.slice A1 xs.length c1) := HR.out.cell 2 rfl 0 rfl; have hc7_go_1 : w7.cell? ⟨go, 1, none⟩ = some (.slice B1 os.length d1) := HR.out.cell 2 rfl 1 rfl; have hc7_gr_0 : w7.cell? ⟨gr, 0, none⟩ = some (.slice none 0 0) := HR.out.cell 3 rfl 0 rfl; have hc7_gr_1 : w7.cell? ⟨gr, 1, none⟩ = some (.slice none 0 0) := HR.out.cell 3 rfl 1 rfl; have fc7_gr_0 := HR.out.free 3 rfl 0; have fc7_gr_1 := HR.out.free 3 rfl 1)
  | ((with_reducible refine gate_store (t := 41) (p := 2) rfl ?_); refine store_event (t := 41) (p := 2) (v := ?vo8) (w1 := w7.setCells gr 0 [.slice A1 xs.length c1, .slice B1 os.length d1]) ?hgs8 ?hos8 ?hns8 ?hrs8 ?_; (case hos8 => rfl); (case hgs8 => rfl); (case hns8 => rfl); (case hrs8 => first | (go_simp; done) | (go_simp; rfl)); intro w8 hw; have q_ := Aside0.mk (hw ▸ HR.out.store 3 rfl [.slice A1 xs.length c1, .slice B1 os.length d1] rfl); clear HR; have HR := q_; clear q_; clear hw; clear hc7_go_0 hc7_go_1 hc7_gr_0 hc7_gr_1 fc7_gr_0 fc7_gr_1))
 refine bodyPost_ret (results_cell_row rfl _ _ gr 41 #[.slice A1 xs.length c1,.slice B1 os.length d1] (0,0) _ rfl (HR.out.has 3 rfl).2 Tryd.underlying41 rfl (by kernel_rfl)) rfl ?_
 exact ⟨_,_,_,_,rfl,(HR.out.two 1 0 rfl rfl (by decide)).elim fun p h => ⟨p,As.mono _ (fun k hk => ⟨hk.1.elim False.elim id,hk.2⟩) h.1,As.mono _ (fun k hk => ⟨hk.1.elim False.elim id,hk.2⟩) h.2⟩,HR.out.bel⟩
end
/-! #### impl.copyTerm: a term's copy, with rows apart -/
section
set_option linter.unusedSectionVars false
variable [fk_laws_szTerm] [fk_laws_eqTerm] [fk_spec_l34Term] [fk_strconv_Itoa]
def MadeT (x : S29) (W : World) (e : Ending) (W' : World) : Prop:=∃ A c,e = .returned (.agg #[.int .i64 x.f0,.string x.f1,.int .i64 x.f2,.slice A x.f3.length c]) ∧ (As.row kD29 29 (.slice A x.f3.length c) x.f3).M W.heap.size W' (fun k => W.heap.size ≤ k) ∧ Below W.heap.size W W'
def RnT (t : S29) : Prop:=∀ (A : Option Addr) (c : Nat) (W : World),Kd.C k29 W A t.f3.length t.f3 → t.f3.length ≤ c → Calls Tryd.prog 104 #[.agg #[.int .i64 t.f0,.string t.f1,.int .i64 t.f2,.slice A t.f3.length c],.func (.func 105) #[] #[]] W fun e W' => MadeT t W e W'
def CpT (t : S29) : Prop:=∀ (A : Option Addr) (c : Nat) (W : World),Kd.C k29 W A t.f3.length t.f3 → t.f3.length ≤ c → Calls Tryd.prog 81 #[.agg #[.int .i64 t.f0,.string t.f1,.int .i64 t.f2,.slice A t.f3.length c]] W fun e W' => MadeT t W e W'
theorem id_calls (a : Int) (w : World) : Calls Tryd.prog 105 #[.int .i64 a] w fun e w' => e = .returned (.int .i64 a) ∧ Below w.heap.size w w':=by
 go_enter Tryd.func105,Tryd.ntmps105
 go_wp2
 go_ret
 exact ⟨rfl,Below.refl _ _⟩
def rn8_T : Bool × List (List Nat × List Nat):=(true,[([],[]),([0],[0]),([],[]),([],[]),([2,3],[2,3]),([4],[4]),([1,5,4],[1,5]),([0,1,2,3,4,5,6],[]),([7,6,6,0,1,2,3,4,5,6],[6,7])])
def rn8_B : List Nat:=[0,1,0,0,12,28,63,127,255]
theorem rn8_tab : rtab .any (opsOf Tryd.f104 8) = rn8_T:=by kernel_rfl
theorem rn8_bits : waitsOk rn8_T.2 rn8_B = true:=by kernel_rfl

set_option maxHeartbeats 16000000 in
set_option maxRecDepth 100000 in
theorem rn_other (t : S29) (hk : (t.f0 == 1) = false) (hlen : t.f3.length ≤ 1048576) (ih : ∀ x ∈ t.f3,RnT x) : RnT t:=by
 intro A c w hC hc
 have HC:=Aside0.mk hC
 have HCC:=Aside0.mk hc
 have HL:=Aside0.mk hlen
 have IH:=Aside0.mk ih
 have HR:=Aside0.mk (run_law w)
 clear hC hc hlen ih
 go_enter Tryd.func104,Tryd.ntmps104
 go_wp2_with (first
  | ((with_reducible refine gate_dst (N := 2) rfl ?_); refine box_event ?hg2 (N := 2) ?hd2 (cs := #[.int .i64 t.f0, .string t.f1, .int .i64 t.f2, .slice A t.f3.length c]) (t := 29) ?hr2 ?_; (case hd2 => rfl); (case hg2 => rfl); (case hr2 => first | (go_simp; done) | (go_simp; rfl)); intro ga hg w1 hbox hb; have q_ := Aside0.mk (HR.out.box hg hb hbox); clear HR; have HR := q_; clear q_; clear hg hbox hb)
  | ((with_reducible refine gate_dst (N := 4) rfl ?_); refine box_event ?hg4 (N := 4) ?hd4 (cs := #[.int .i64 0, .string (⟨#[]⟩ : ByteArray), .int .i64 0, .slice none 0 0]) (t := 29) ?hr4 ?_; (case hd4 => rfl); (case hg4 => rfl); (case hr4 => first | (go_simp; done) | (go_simp; rfl)); intro gr hg w2 hbox hb; have q_ := Aside0.mk (HR.out.box hg hb hbox); clear HR; have HR := q_; clear q_; clear hg hbox hb; have hc2_ga_0 : w2.cell? ⟨ga, 0, none⟩ = some (.int .i64 t.f0) := HR.out.cell 1 rfl 0 rfl; have hc2_ga_1 : w2.cell? ⟨ga, 1, none⟩ = some (.string t.f1) := HR.out.cell 1 rfl 1 rfl; have hc2_ga_2 : w2.cell? ⟨ga, 2, none⟩ = some (.int .i64 t.f2) := HR.out.cell 1 rfl 2 rfl; have hc2_ga_3 : w2.cell? ⟨ga, 3, none⟩ = some (.slice A t.f3.length c) := HR.out.cell 1 rfl 3 rfl)
  | ((with_reducible refine gate_dst (N := 5) rfl ?_); refine box_event ?hg5 (N := 5) ?hd5 (cs := #[.int .i64 0, .string (⟨#[]⟩ : ByteArray), .int .i64 0, .slice none 0 0]) (t := 29) ?hr5 ?_; (case hd5 => rfl); (case hg5 => rfl); (case hr5 => first | (go_simp; done) | (go_simp; rfl)); intro go hg w3 hbox hb; have q_ := Aside0.mk (HR.out.box hg hb hbox); clear HR; have HR := q_; clear q_; clear hg hbox hb; clear hc2_ga_0 hc2_ga_1 hc2_ga_2 hc2_ga_3; have hc3_ga_0 : w3.cell? ⟨ga, 0, none⟩ = some (.int .i64 t.f0) := HR.out.cell 2 rfl 0 rfl; have hc3_ga_1 : w3.cell? ⟨ga, 1, none⟩ = some (.string t.f1) := HR.out.cell 2 rfl 1 rfl; have hc3_ga_2 : w3.cell? ⟨ga, 2, none⟩ = some (.int .i64 t.f2) := HR.out.cell 2 rfl 2 rfl; have hc3_ga_3 : w3.cell? ⟨ga, 3, none⟩ = some (.slice A t.f3.length c) := HR.out.cell 2 rfl 3 rfl; have hc3_go_0 : w3.cell? ⟨go, 0, none⟩ = some (.int .i64 0) := HR.out.cell 0 rfl 0 rfl; have hc3_go_1 : w3.cell? ⟨go, 1, none⟩ = some (.string (⟨#[]⟩ : ByteArray)) := HR.out.cell 0 rfl 1 rfl; have hc3_go_2 : w3.cell? ⟨go, 2, none⟩ = some (.int .i64 0) := HR.out.cell 0 rfl 2 rfl; have hc3_go_3 : w3.cell? ⟨go, 3, none⟩ = some (.slice none 0 0) := HR.out.cell 0 rfl 3 rfl; have fc3_go_0 := HR.out.free 0 rfl 0; have fc3_go_1 := HR.out.free 0 rfl 1; have fc3_go_2 := HR.out.free 0 rfl 2; have fc3_go_3 := HR.out.free 0 rfl 3)
  | ((with_reducible refine gate_store (t := 29) (p := 5) rfl ?_); refine store_event (t := 29) (p := 5) (v := ?vo4) (w1 := w3.setCells go 0 [.int .i64 t.f0, .string t.f1, .int .i64 t.f2, .slice A t.f3.length c]) ?hgs4 ?hos4 ?hns4 ?hrs4 ?_; (case hos4 => rfl); (case hgs4 => rfl); (case hns4 => rfl); (case hrs4 => first | (go_simp; done) | (go_simp; rfl)); intro w4 hw; have q_ := Aside0.mk (hw ▸ HR.out.store 0 rfl [.int .i64 t.f0, .string t.f1, .int .i64 t.f2, .slice A t.f3.length c] rfl); clear HR; have HR := q_; clear q_; clear hw; clear hc3_ga_0 hc3_ga_1 hc3_ga_2 hc3_ga_3 hc3_go_0 hc3_go_1 hc3_go_2 hc3_go_3 fc3_go_0 fc3_go_1 fc3_go_2 fc3_go_3; have hc4_ga_0 : w4.cell? ⟨ga, 0, none⟩ = some (.int .i64 t.f0) := HR.out.cell 2 rfl 0 rfl; have hc4_ga_1 : w4.cell? ⟨ga, 1, none⟩ = some (.string t.f1) := HR.out.cell 2 rfl 1 rfl; have hc4_ga_2 : w4.cell? ⟨ga, 2, none⟩ = some (.int .i64 t.f2) := HR.out.cell 2 rfl 2 rfl; have hc4_ga_3 : w4.cell? ⟨ga, 3, none⟩ = some (.slice A t.f3.length c) := HR.out.cell 2 rfl 3 rfl; have hc4_go_0 : w4.cell? ⟨go, 0, none⟩ = some (.int .i64 t.f0) := HR.out.cell 0 rfl 0 rfl; have hc4_go_1 : w4.cell? ⟨go, 1, none⟩ = some (.string t.f1) := HR.out.cell 0 rfl 1 rfl; have hc4_go_2 : w4.cell? ⟨go, 2, none⟩ = some (.int .i64 t.f2) := HR.out.cell 0 rfl 2 rfl; have hc4_go_3 : w4.cell? ⟨go, 3, none⟩ = some (.slice A t.f3.length c) := HR.out.cell 0 rfl 3 rfl; have fc4_go_0 := HR.out.free 0 rfl 0; have fc4_go_1 := HR.out.free 0 rfl 1; have fc4_go_2 := HR.out.free 0 rfl 2; have fc4_go_3 := HR.out.free 0 rfl 3)
  | ((with_reducible refine gate_store (t := 27) (p := 9) rfl ?_); refine store_event (t := 27) (p := 9) (v := ?vo5) (w1 := w4.setCell ⟨go, 3, none⟩ (.slice none 0 0)) ?hgs5 ?hos5 ?hns5 ?hrs5 ?_; (case hos5 => rfl); (case hgs5 => rfl); (case hns5 => rfl); (case hrs5 => first | (go_simp; done) | (go_simp; rfl)); intro w5 hw; have q_ := Aside0.mk (hw ▸ HR.out.set 0 rfl 3 (.slice none 0 0)); clear HR; have HR := q_; clear q_; clear hw; clear hc4_ga_0 hc4_ga_1 hc4_ga_2 hc4_ga_3 hc4_go_0 hc4_go_1 hc4_go_2 hc4_go_3 fc4_go_0 fc4_go_1 fc4_go_2 fc4_go_3; have hc5_ga_0 : w5.cell? ⟨ga, 0, none⟩ = some (.int .i64 t.f0) := HR.out.cell 2 rfl 0 rfl; have hc5_ga_1 : w5.cell? ⟨ga, 1, none⟩ = some (.string t.f1) := HR.out.cell 2 rfl 1 rfl; have hc5_ga_2 : w5.cell? ⟨ga, 2, none⟩ = some (.int .i64 t.f2) := HR.out.cell 2 rfl 2 rfl; have hc5_ga_3 : w5.cell? ⟨ga, 3, none⟩ = some (.slice A t.f3.length c) := HR.out.cell 2 rfl 3 rfl; have hc5_go_0 : w5.cell? ⟨go, 0, none⟩ = some (.int .i64 t.f0) := HR.out.cell 0 rfl 0 rfl; have hc5_go_1 : w5.cell? ⟨go, 1, none⟩ = some (.string t.f1) := HR.out.cell 0 rfl 1 rfl; have hc5_go_2 : w5.cell? ⟨go, 2, none⟩ = some (.int .i64 t.f2) := HR.out.cell 0 rfl 2 rfl; have hc5_go_3 : w5.cell? ⟨go, 3, none⟩ = some (.slice none 0 0) := HR.out.cell 0 rfl 3 rfl; have fc5_go_0 := HR.out.free 0 rfl 0; have fc5_go_1 := HR.out.free 0 rfl 1; have fc5_go_2 := HR.out.free 0 rfl 2; have fc5_go_3 := HR.out.free 0 rfl 3))
 go_loopg [21] t.f3.length (fun m v21 w' => ∃ (i : Nat) (A_o : Option Addr) (c_o : Nat) (ys : List S29),v21 = .int .i64 i ∧ Aside0 (m + i = t.f3.length) ∧ Aside0 (ys = t.f3.take i) ∧ Aside0 (Run w w (fun _ => False) [As.row kD29 29 (.slice A_o ys.length c_o) ys,As.box go 29 #[.int .i64 t.f0,.string t.f1,.int .i64 t.f2,.slice A_o ys.length c_o],As.box gr 29 #[.int .i64 0,.string (⟨#[]⟩ : ByteArray),.int .i64 0,.slice none 0 0],As.box ga 29 #[.int .i64 t.f0,.string t.f1,.int .i64 t.f2,.slice A t.f3.length c]] w'))
 case atStart => exact ⟨0,none,0,[],rfl,⟨by omega⟩,⟨rfl⟩,⟨HR.out.push (As.row kD29 29 (.slice none 0 0) []) (Below.refl _ _) (Kd.S_nil _ _ _ _ _)⟩⟩
 case round =>
  clear HR hc5_ga_0 hc5_ga_1 hc5_ga_2 hc5_ga_3 hc5_go_0 hc5_go_1 hc5_go_2 hc5_go_3 fc5_go_0 fc5_go_1 fc5_go_2 fc5_go_3
  obtain ⟨i,A_o,c_o,ys,rfl,hi,HYS,HR⟩:=hrel
  by_cases hlt : (i : Int) < (t.f3.length : Int)
  ·have c3b0 : decide ((i : Int) < (t.f3.length : Int)) = true:=decide_eq_true hlt
   have hlt' : i < t.f3.length:=by omega
   have c3b1 : decide (i < t.f3.length) = true:=decide_eq_true hlt'
   obtain ⟨ad,A3,c3,e1,hx0,hx1,hx2,hx3,hl3,hi3⟩:=at_T29 HC.out (i : Int) (by omega) hlt
   cases e1
   obtain ⟨x,hx⟩ : ∃ x,x = t.f3[i]:=⟨_,rfl⟩
   rw [rd29_at _ i hlt',← hx] at hx0 hx1 hx2 hx3 hl3 hi3
   simp only [Int.toNat_natCast] at hx0 hx1 hx2 hx3
   have HX:=Aside0.mk (show x ∈ t.f3 by rw [hx];exact List.getElem_mem hlt')
   have HT:=Aside0.mk (show t.f3.take (i + 1) = ys ++ [x] by rw [hx,HYS.out];exact List.take_succ_eq_append_getElem hlt')
   have HI3:=Aside0.mk hi3
   have HL3:=Aside0.mk hl3
   clear hi3 hl3 hx
   replace hx0:=(HR.out.bel.cell (World.block_lt_of_cell? w _ hx0)).trans hx0
   replace hx1:=(HR.out.bel.cell (World.block_lt_of_cell? w _ hx1)).trans hx1
   replace hx2:=(HR.out.bel.cell (World.block_lt_of_cell? w _ hx2)).trans hx2
   replace hx3:=(HR.out.bel.cell (World.block_lt_of_cell? w _ hx3)).trans hx3
   go_wp2_with (first
    | ((with_reducible refine gate_dst (N := 7) rfl ?_); refine box_event ?hg7 (N := 7) ?hd7 (cs := #[.int .i64 0, .string (⟨#[]⟩ : ByteArray), .int .i64 0, .slice none 0 0]) (t := 29) ?hr7 ?_; (case hd7 => rfl); (case hg7 => rfl); (case hr7 => first | (go_simp; done) | (go_simp; rfl)); intro gk hg w16 hbox hb; have q_ := Aside0.mk (HR.out.box hg hb hbox); clear HR; have HR := q_; clear q_; clear hg hbox hb; have hc6_gk_0 : w16.cell? ⟨gk, 0, none⟩ = some (.int .i64 0) := HR.out.cell 0 rfl 0 rfl; have hc6_gk_1 : w16.cell? ⟨gk, 1, none⟩ = some (.string (⟨#[]⟩ : ByteArray)) := HR.out.cell 0 rfl 1 rfl; have hc6_gk_2 : w16.cell? ⟨gk, 2, none⟩ = some (.int .i64 0) := HR.out.cell 0 rfl 2 rfl; have hc6_gk_3 : w16.cell? ⟨gk, 3, none⟩ = some (.slice none 0 0) := HR.out.cell 0 rfl 3 rfl; have fc6_gk_0 := HR.out.free 0 rfl 0; have fc6_gk_1 := HR.out.free 0 rfl 1; have fc6_gk_2 := HR.out.free 0 rfl 2; have fc6_gk_3 := HR.out.free 0 rfl 3)
    | ((with_reducible refine gate_store (t := 29) (p := 7) rfl ?_); refine store_event (t := 29) (p := 7) (v := ?vo17) (w1 := w16.setCells gk 0 [.int .i64 x.f0, .string x.f1, .int .i64 x.f2, .slice A3 x.f3.length c3]) ?hgs17 ?hos17 ?hns17 ?hrs17 ?_; (case hos17 => rfl); (case hgs17 => rfl); (case hns17 => rfl); (case hrs17 => first | (go_simp; done) | (go_simp; rfl)); intro w17 hw; have q_ := Aside0.mk (hw ▸ HR.out.store 0 rfl [.int .i64 x.f0, .string x.f1, .int .i64 x.f2, .slice A3 x.f3.length c3] rfl); clear HR; have HR := q_; clear q_; clear hw; clear hc6_gk_0 hc6_gk_1 hc6_gk_2 hc6_gk_3 fc6_gk_0 fc6_gk_1 fc6_gk_2 fc6_gk_3; have hc7_gk_0 : w17.cell? ⟨gk, 0, none⟩ = some (.int .i64 x.f0) := HR.out.cell 0 rfl 0 rfl; have hc7_gk_1 : w17.cell? ⟨gk, 1, none⟩ = some (.string x.f1) := HR.out.cell 0 rfl 1 rfl; have hc7_gk_2 : w17.cell? ⟨gk, 2, none⟩ = some (.int .i64 x.f2) := HR.out.cell 0 rfl 2 rfl; have hc7_gk_3 : w17.cell? ⟨gk, 3, none⟩ = some (.slice A3 x.f3.length c3) := HR.out.cell 0 rfl 3 rfl; have hc7_go_0 : w17.cell? ⟨go, 0, none⟩ = some (.int .i64 t.f0) := HR.out.cell 2 rfl 0 rfl; have hc7_go_1 : w17.cell? ⟨go, 1, none⟩ = some (.string t.f1) := HR.out.cell 2 rfl 1 rfl; have hc7_go_2 : w17.cell? ⟨go, 2, none⟩ = some (.int .i64 t.f2) := HR.out.cell 2 rfl 2 rfl; have hc7_go_3 : w17.cell? ⟨go, 3, none⟩ = some (.slice A_o ys.length c_o) := HR.out.cell 2 rfl 3 rfl))
   have q_:=Aside0.mk (HR.out.drew)
   clear HR
   have HR:=q_
   clear q_
   clear hc7_gk_0 hc7_gk_1 hc7_gk_2 hc7_gk_3 hc7_go_0 hc7_go_1 hc7_go_2 hc7_go_3
   refine start_ (n:=9) (S:=fun w' => w'.cell? ⟨go,0,none⟩ = some (.int .i64 t.f0) ∧ w'.cell? ⟨go,1,none⟩ = some (.string t.f1) ∧ w'.cell? ⟨go,2,none⟩ = some (.int .i64 t.f2) ∧ w'.cell? ⟨go,3,none⟩ = some (.slice A_o ys.length c_o) ∧ w'.cell? ⟨gk,0,none⟩ = some (.int .i64 x.f0) ∧ w'.cell? ⟨gk,1,none⟩ = some (.string x.f1) ∧ w'.cell? ⟨gk,2,none⟩ = some (.int .i64 x.f2) ∧ w'.cell? ⟨gk,3,none⟩ = some (.slice A3 x.f3.length c3)) (ds:=[8]) #[false,false,false,false,false,false,false,false,false] (by kernel_rfl) rfl rfl ⟨HR.out.cell 2 rfl 0 rfl,HR.out.cell 2 rfl 1 rfl,HR.out.cell 2 rfl 2 rfl,HR.out.cell 2 rfl 3 rfl,HR.out.cell 0 rfl 0 rfl,HR.out.cell 0 rfl 1 rfl,HR.out.cell 0 rfl 2 rfl,HR.out.cell 0 rfl 3 rfl⟩ (fun hHeld => ?_);refine with_tabW rn8_tab rn8_bits (fun HT_ HW_ => ?_)
   generalize w17.drew = w18 at HR hHeld ⊢
   refine pure_ (i:=0) (N:=some 25) (v:=?_) (a':=?_) #[true,false,false,false,false,false,false,false,false] rfl rfl (any_of HT_.out (by kernel_rfl)) (fun _ _ _ h => h) (Or.inl ⟨by rfl,?_⟩) ?_ ?_
   rotate_left
   ·intro w'
    go_simp
    with_reducible rfl
   rotate_left
   ·simp only [Act.put,List.setIfInBounds_toArray,List.set_cons_zero,List.set_cons_succ,i64_w,i32_w]
    rfl
   refine pure_ (i:=3) (N:=some 28) (v:=?_) (a':=?_) #[true,false,false,true,false,false,false,false,false] rfl rfl (any_of HT_.out (by kernel_rfl)) (fun _ _ _ h => h) (Or.inl ⟨by rfl,?_⟩) ?_ ?_
   rotate_left
   ·intro w'
    go_simp
    with_reducible rfl
   rotate_left
   ·simp only [Act.put,List.setIfInBounds_toArray,List.set_cons_zero,List.set_cons_succ,i64_w,i32_w]
    rfl
   refine take_ (i:=1) (N:=some 26) (v:=?_) (a':=?_) #[true,true,false,true,false,false,false,false,false] rfl rfl (take_ofW HT_.out HW_.out (by kernel_rfl)) (fun _ _ _ h => h) (Or.inl ⟨by rfl,?_⟩) hHeld ?_ ?_
   rotate_left
   ·rintro w' ⟨s0,s1,s2,s3,s4,s5,s6,s7⟩
    go_simp
    with_reducible rfl
   rotate_left
   ·simp only [Act.put,List.setIfInBounds_toArray,List.set_cons_zero,List.set_cons_succ,i64_w,i32_w]
    rfl
   refine take_ (i:=2) (N:=some 27) (v:=?_) (a':=?_) #[true,true,true,true,false,false,false,false,false] rfl rfl (take_ofW HT_.out HW_.out (by kernel_rfl)) (fun _ _ _ h => h) (Or.inl ⟨by rfl,?_⟩) hHeld ?_ ?_
   rotate_left
   ·rintro w' ⟨s0,s1,s2,s3,s4,s5,s6,s7⟩
    go_simp
    with_reducible rfl
   rotate_left
   ·simp only [Act.put,List.setIfInBounds_toArray,List.set_cons_zero,List.set_cons_succ,i64_w,i32_w]
    rfl
   refine one_ (i:=4) (N:=some 29) #[true,true,true,true,true,false,false,false,false] rfl rfl (one_of HT_.out (by kernel_rfl)) (by decide) (fun K hK => ?_)
   refine goes_ Tryd.func104 (by kernel_rfl) rfl #[.agg #[.int .i64 x.f0,.string x.f1,.int .i64 x.f2,.slice A3 x.f3.length c3],.func (.func 105) #[] #[]] (by rfl) rfl rfl (by (try simp only [List.map_toArray,List.map_cons,List.map_nil]);first|done|rfl) ?_
   refine (IH.out x HX.out A3 c3 w18 (Kd.C_below HI3.out HR.out.bel) HL3.out).mono ?_
   rintro e w19 ⟨A4,c4,rfl,ho,hb⟩
   refine ⟨_,rfl,?_⟩
   have q_:=Aside0.mk (HR.out.push _ hb ho)
   clear HR
   have HR:=q_
   clear q_
   clear ho hb
   refine hK.out _ _ ⟨HR.out.cell 3 rfl 0 rfl,HR.out.cell 3 rfl 1 rfl,HR.out.cell 3 rfl 2 rfl,HR.out.cell 3 rfl 3 rfl,HR.out.cell 1 rfl 0 rfl,HR.out.cell 1 rfl 1 rfl,HR.out.cell 1 rfl 2 rfl,HR.out.cell 1 rfl 3 rfl⟩ (fun hHeld => ?_)
   clear hK K
   refine norm_ (a':=?_) ?_ ?_
   rotate_left
   ·show Act.put _ (some 29) _ = _
    simp only [Act.put,List.setIfInBounds_toArray,List.set_cons_zero,List.set_cons_succ,i64_w,i32_w]
    rfl
   refine one_ (i:=5) (N:=some 30) #[true,true,true,true,true,true,false,false,false] rfl rfl (one_of HT_.out (by kernel_rfl)) (by decide) (fun K hK => ?_)
   refine value_ (w1:=?_) (v:=?_) (by rfl) rfl ?_ ?_
   rotate_left 2
   ·go_simp
    constructor
    ·rfl
    ·rfl
   refine hK.out _ _ ⟨(blk_cell (blk_alloc (HR.out.has 3 rfl).2 _) 0).trans rfl,(blk_cell (blk_alloc (HR.out.has 3 rfl).2 _) 1).trans rfl,(blk_cell (blk_alloc (HR.out.has 3 rfl).2 _) 2).trans rfl,(blk_cell (blk_alloc (HR.out.has 3 rfl).2 _) 3).trans rfl,(blk_cell (blk_alloc (HR.out.has 1 rfl).2 _) 0).trans rfl,(blk_cell (blk_alloc (HR.out.has 1 rfl).2 _) 1).trans rfl,(blk_cell (blk_alloc (HR.out.has 1 rfl).2 _) 2).trans rfl,(blk_cell (blk_alloc (HR.out.has 1 rfl).2 _) 3).trans rfl⟩ (fun hHeld => ?_)
   clear hK K
   refine norm_ (a':=?_) ?_ ?_
   rotate_left
   ·show Act.put _ (some 30) _ = _
    simp only [Act.put,List.setIfInBounds_toArray,List.set_cons_zero,List.set_cons_succ,i64_w,i32_w]
    rfl
   refine one_ (i:=6) (N:=some 31) #[true,true,true,true,true,true,true,false,false] rfl rfl (one_of HT_.out (by kernel_rfl)) (by decide) (fun K hK => ?_)
   refine HR.out.appStep 2 0 kD29 rfl rfl (by decide) x [.int .i64 x.f0,.string x.f1,.int .i64 x.f2,.slice A4 x.f3.length c4] (fun okj hj_ => kD29_mkM _ _ _ x hj_) (by rfl) (.tmp 26) (.tmp 30) 27 (.agg #[(.int .i64 0),(.string ⟨#[]⟩),(.int .i64 0),(.slice none 0 0)]) 56 rfl Tryd.underlying27 info29 rfl (by decide) (by omega) rfl rfl (by have h1_:=HL.out;have h2_ : ys.length ≤ t.f3.length:=(by rw [HYS.out,List.length_take];omega);omega) ?_
   intro v_ w20 hq_
   obtain ⟨l_n,hz_⟩ : ∃ z_,z_ = (ys ++ [x]):=⟨_,rfl⟩
   rw [← hz_] at hq_
   have HZ_n:=Aside0.mk hz_
   clear hz_
   obtain ⟨A_n,c_n,rfl⟩:=Kd.S_slice (hq_.has 2 rfl)
   clear HR
   have HR:=Aside0.mk hq_
   clear hq_
   refine hK.out _ _ ⟨HR.out.cell 3 rfl 0 rfl,HR.out.cell 3 rfl 1 rfl,HR.out.cell 3 rfl 2 rfl,HR.out.cell 3 rfl 3 rfl,HR.out.cell 1 rfl 0 rfl,HR.out.cell 1 rfl 1 rfl,HR.out.cell 1 rfl 2 rfl,HR.out.cell 1 rfl 3 rfl⟩ (fun hHeld => ?_)
   clear hK K
   refine norm_ (a':=?_) ?_ ?_
   rotate_left
   ·show Act.put _ (some 31) _ = _
    simp only [Act.put,List.setIfInBounds_toArray,List.set_cons_zero,List.set_cons_succ,i64_w,i32_w]
    rfl
   refine pure_ (i:=7) (N:=some 32) (v:=?_) (a':=?_) #[true,true,true,true,true,true,true,true,false] rfl rfl (any_of HT_.out (by kernel_rfl)) (fun _ _ _ h => h) (Or.inl ⟨by rfl,?_⟩) ?_ ?_
   rotate_left
   ·intro w'
    go_simp
    with_reducible rfl
   rotate_left
   ·simp only [Act.put,List.setIfInBounds_toArray,List.set_cons_zero,List.set_cons_succ,i64_w,i32_w]
    rfl
   refine last_ (i:=8) (N:=none) #[true,true,true,true,true,true,true,true,true] rfl rfl (one_of HT_.out (by kernel_rfl)) (by decide) (fun K hK => ?_)
   have hz0_ : w20.cell? ⟨go,0,none⟩ = some (.int .i64 t.f0):=HR.out.cell 3 rfl 0 rfl
   have fz0_:=HR.out.free 3 rfl 0
   have hz1_ : w20.cell? ⟨go,1,none⟩ = some (.string t.f1):=HR.out.cell 3 rfl 1 rfl
   have fz1_:=HR.out.free 3 rfl 1
   have hz2_ : w20.cell? ⟨go,2,none⟩ = some (.int .i64 t.f2):=HR.out.cell 3 rfl 2 rfl
   have fz2_:=HR.out.free 3 rfl 2
   have hz3_ : w20.cell? ⟨go,3,none⟩ = some (.slice A_o ys.length c_o):=HR.out.cell 3 rfl 3 rfl
   have fz3_:=HR.out.free 3 rfl 3
   refine skip_ (w1:=w20.setCell ⟨go,3,none⟩ (.slice A_n l_n.length c_n)) (by rfl) rfl ?_ ?_
   ·first|(go_simp;done)|(go_simp;rfl)
   refine hK.out _ _ ?_
   clear hK K hz0_ fz0_ hz1_ fz1_ hz2_ fz2_ hz3_ fz3_
   have q_:=Aside0.mk (HR.out.set 3 rfl 3 (.slice A_n l_n.length c_n))
   clear HR
   have HR:=q_
   clear q_
   generalize w20.setCell ⟨go,3,none⟩ (.slice A_n l_n.length c_n) = w21 at HR ⊢
   refine done_ (done_of HT_.out (by kernel_rfl)) ?_
   try go_wp2
   go_roundg (t.f3.length - (i + 1))
   case measure => have:=hi.out;omega
   case rel => exact ⟨i + 1,A_n,c_n,l_n,by rw [next_i i _ hlt' HL.out],⟨by have:=hi.out;omega⟩,⟨HZ_n.out.trans HT.out.symm⟩,⟨HR.out.pick [2,3,4,5] (by decide)⟩⟩
  ·have c3b0 : decide ((i : Int) < (t.f3.length : Int)) = false:=decide_eq_false hlt
   have c3b1 : decide (i < t.f3.length) = false:=decide_eq_false (by omega)
   have he : ys = t.f3:=HYS.out.trans (List.take_of_length_le (by omega))
   rw [he] at HR
   clear he
   have hc8_go_0 : wr.cell? ⟨go,0,none⟩ = some (.int .i64 t.f0):=HR.out.cell 1 rfl 0 rfl
   have hc8_go_1 : wr.cell? ⟨go,1,none⟩ = some (.string t.f1):=HR.out.cell 1 rfl 1 rfl
   have hc8_go_2 : wr.cell? ⟨go,2,none⟩ = some (.int .i64 t.f2):=HR.out.cell 1 rfl 2 rfl
   have hc8_go_3 : wr.cell? ⟨go,3,none⟩ = some (.slice A_o t.f3.length c_o):=HR.out.cell 1 rfl 3 rfl
   have hc8_gr_0 : wr.cell? ⟨gr,0,none⟩ = some (.int .i64 0):=HR.out.cell 2 rfl 0 rfl
   have hc8_gr_1 : wr.cell? ⟨gr,1,none⟩ = some (.string (⟨#[]⟩ : ByteArray)):=HR.out.cell 2 rfl 1 rfl
   have hc8_gr_2 : wr.cell? ⟨gr,2,none⟩ = some (.int .i64 0):=HR.out.cell 2 rfl 2 rfl
   have hc8_gr_3 : wr.cell? ⟨gr,3,none⟩ = some (.slice none 0 0):=HR.out.cell 2 rfl 3 rfl
   have fc8_gr_0:=HR.out.free 2 rfl 0
   have fc8_gr_1:=HR.out.free 2 rfl 1
   have fc8_gr_2:=HR.out.free 2 rfl 2
   have fc8_gr_3:=HR.out.free 2 rfl 3
   go_wp2_with (first
    | ((with_reducible refine gate_store (t := 29) (p := 4) rfl ?_); refine store_event (t := 29) (p := 4) (v := ?vo32) (w1 := wr.setCells gr 0 [.int .i64 t.f0, .string t.f1, .int .i64 t.f2, .slice A_o t.f3.length c_o]) ?hgs32 ?hos32 ?hns32 ?hrs32 ?_; (case hos32 => rfl); (case hgs32 => rfl); (case hns32 => rfl); (case hrs32 => first | (go_simp; done) | (go_simp; rfl)); intro w32 hw; have q_ := Aside0.mk (hw ▸ HR.out.store 2 rfl [.int .i64 t.f0, .string t.f1, .int .i64 t.f2, .slice A_o t.f3.length c_o] rfl); clear HR; have HR := q_; clear q_; clear hw; clear hc8_go_0 hc8_go_1 hc8_go_2 hc8_go_3 hc8_gr_0 hc8_gr_1 hc8_gr_2 hc8_gr_3 fc8_gr_0 fc8_gr_1 fc8_gr_2 fc8_gr_3))
   refine bodyPost_ret (results_cell_row rfl _ _ gr 29 #[.int .i64 t.f0,.string t.f1,.int .i64 t.f2,.slice A_o t.f3.length c_o] (0,0) _ rfl (HR.out.has 2 rfl).2 Tryd.underlying29 rfl (by kernel_rfl)) rfl ?_
   exact ⟨_,_,rfl,As.mono _ (fun k hk => hk.elim False.elim id) (HR.out.one 0 rfl),HR.out.bel⟩
set_option maxHeartbeats 16000000 in
set_option maxRecDepth 100000 in
theorem rn_var (t : S29) (hk : (t.f0 == 1) = true) (hlen : t.f3.length ≤ 1048576) (ih : ∀ x ∈ t.f3,RnT x) : RnT t:=by
 intro A c w hC hc
 have HC:=Aside0.mk hC
 have HCC:=Aside0.mk hc
 have HL:=Aside0.mk hlen
 have IH:=Aside0.mk ih
 have HR:=Aside0.mk (run_law w)
 clear hC hc hlen ih
 go_enter Tryd.func104,Tryd.ntmps104
 go_wp2_with (first
  | ((with_reducible refine gate_dst (N := 2) rfl ?_); refine box_event ?hg2 (N := 2) ?hd2 (cs := #[.int .i64 t.f0, .string t.f1, .int .i64 t.f2, .slice A t.f3.length c]) (t := 29) ?hr2 ?_; (case hd2 => rfl); (case hg2 => rfl); (case hr2 => first | (go_simp; done) | (go_simp; rfl)); intro ga hg w1 hbox hb; have q_ := Aside0.mk (HR.out.box hg hb hbox); clear HR; have HR := q_; clear q_; clear hg hbox hb)
  | ((with_reducible refine gate_dst (N := 4) rfl ?_); refine box_event ?hg4 (N := 4) ?hd4 (cs := #[.int .i64 0, .string (⟨#[]⟩ : ByteArray), .int .i64 0, .slice none 0 0]) (t := 29) ?hr4 ?_; (case hd4 => rfl); (case hg4 => rfl); (case hr4 => first | (go_simp; done) | (go_simp; rfl)); intro gr hg w2 hbox hb; have q_ := Aside0.mk (HR.out.box hg hb hbox); clear HR; have HR := q_; clear q_; clear hg hbox hb; have hc2_ga_0 : w2.cell? ⟨ga, 0, none⟩ = some (.int .i64 t.f0) := HR.out.cell 1 rfl 0 rfl; have hc2_ga_1 : w2.cell? ⟨ga, 1, none⟩ = some (.string t.f1) := HR.out.cell 1 rfl 1 rfl; have hc2_ga_2 : w2.cell? ⟨ga, 2, none⟩ = some (.int .i64 t.f2) := HR.out.cell 1 rfl 2 rfl; have hc2_ga_3 : w2.cell? ⟨ga, 3, none⟩ = some (.slice A t.f3.length c) := HR.out.cell 1 rfl 3 rfl)
  | ((with_reducible refine gate_dst (N := 5) rfl ?_); refine box_event ?hg5 (N := 5) ?hd5 (cs := #[.int .i64 0, .string (⟨#[]⟩ : ByteArray), .int .i64 0, .slice none 0 0]) (t := 29) ?hr5 ?_; (case hd5 => rfl); (case hg5 => rfl); (case hr5 => first | (go_simp; done) | (go_simp; rfl)); intro go hg w3 hbox hb; have q_ := Aside0.mk (HR.out.box hg hb hbox); clear HR; have HR := q_; clear q_; clear hg hbox hb; clear hc2_ga_0 hc2_ga_1 hc2_ga_2 hc2_ga_3; have hc3_ga_0 : w3.cell? ⟨ga, 0, none⟩ = some (.int .i64 t.f0) := HR.out.cell 2 rfl 0 rfl; have hc3_ga_1 : w3.cell? ⟨ga, 1, none⟩ = some (.string t.f1) := HR.out.cell 2 rfl 1 rfl; have hc3_ga_2 : w3.cell? ⟨ga, 2, none⟩ = some (.int .i64 t.f2) := HR.out.cell 2 rfl 2 rfl; have hc3_ga_3 : w3.cell? ⟨ga, 3, none⟩ = some (.slice A t.f3.length c) := HR.out.cell 2 rfl 3 rfl; have hc3_go_0 : w3.cell? ⟨go, 0, none⟩ = some (.int .i64 0) := HR.out.cell 0 rfl 0 rfl; have hc3_go_1 : w3.cell? ⟨go, 1, none⟩ = some (.string (⟨#[]⟩ : ByteArray)) := HR.out.cell 0 rfl 1 rfl; have hc3_go_2 : w3.cell? ⟨go, 2, none⟩ = some (.int .i64 0) := HR.out.cell 0 rfl 2 rfl; have hc3_go_3 : w3.cell? ⟨go, 3, none⟩ = some (.slice none 0 0) := HR.out.cell 0 rfl 3 rfl; have fc3_go_0 := HR.out.free 0 rfl 0; have fc3_go_1 := HR.out.free 0 rfl 1; have fc3_go_2 := HR.out.free 0 rfl 2; have fc3_go_3 := HR.out.free 0 rfl 3)
  | ((with_reducible refine gate_store (t := 29) (p := 5) rfl ?_); refine store_event (t := 29) (p := 5) (v := ?vo4) (w1 := w3.setCells go 0 [.int .i64 t.f0, .string t.f1, .int .i64 t.f2, .slice A t.f3.length c]) ?hgs4 ?hos4 ?hns4 ?hrs4 ?_; (case hos4 => rfl); (case hgs4 => rfl); (case hns4 => rfl); (case hrs4 => first | (go_simp; done) | (go_simp; rfl)); intro w4 hw; have q_ := Aside0.mk (hw ▸ HR.out.store 0 rfl [.int .i64 t.f0, .string t.f1, .int .i64 t.f2, .slice A t.f3.length c] rfl); clear HR; have HR := q_; clear q_; clear hw; clear hc3_ga_0 hc3_ga_1 hc3_ga_2 hc3_ga_3 hc3_go_0 hc3_go_1 hc3_go_2 hc3_go_3 fc3_go_0 fc3_go_1 fc3_go_2 fc3_go_3; have hc4_ga_0 : w4.cell? ⟨ga, 0, none⟩ = some (.int .i64 t.f0) := HR.out.cell 2 rfl 0 rfl; have hc4_ga_1 : w4.cell? ⟨ga, 1, none⟩ = some (.string t.f1) := HR.out.cell 2 rfl 1 rfl; have hc4_ga_2 : w4.cell? ⟨ga, 2, none⟩ = some (.int .i64 t.f2) := HR.out.cell 2 rfl 2 rfl; have hc4_ga_3 : w4.cell? ⟨ga, 3, none⟩ = some (.slice A t.f3.length c) := HR.out.cell 2 rfl 3 rfl; have hc4_go_0 : w4.cell? ⟨go, 0, none⟩ = some (.int .i64 t.f0) := HR.out.cell 0 rfl 0 rfl; have hc4_go_1 : w4.cell? ⟨go, 1, none⟩ = some (.string t.f1) := HR.out.cell 0 rfl 1 rfl; have hc4_go_2 : w4.cell? ⟨go, 2, none⟩ = some (.int .i64 t.f2) := HR.out.cell 0 rfl 2 rfl; have hc4_go_3 : w4.cell? ⟨go, 3, none⟩ = some (.slice A t.f3.length c) := HR.out.cell 0 rfl 3 rfl; have fc4_go_0 := HR.out.free 0 rfl 0; have fc4_go_1 := HR.out.free 0 rfl 1; have fc4_go_2 := HR.out.free 0 rfl 2; have fc4_go_3 := HR.out.free 0 rfl 3)
  | ((with_reducible refine gate_store (t := 27) (p := 9) rfl ?_); refine store_event (t := 27) (p := 9) (v := ?vo5) (w1 := w4.setCell ⟨go, 3, none⟩ (.slice none 0 0)) ?hgs5 ?hos5 ?hns5 ?hrs5 ?_; (case hos5 => rfl); (case hgs5 => rfl); (case hns5 => rfl); (case hrs5 => first | (go_simp; done) | (go_simp; rfl)); intro w5 hw; have q_ := Aside0.mk (hw ▸ HR.out.set 0 rfl 3 (.slice none 0 0)); clear HR; have HR := q_; clear q_; clear hw; clear hc4_ga_0 hc4_ga_1 hc4_ga_2 hc4_ga_3 hc4_go_0 hc4_go_1 hc4_go_2 hc4_go_3 fc4_go_0 fc4_go_1 fc4_go_2 fc4_go_3; have hc5_ga_0 : w5.cell? ⟨ga, 0, none⟩ = some (.int .i64 t.f0) := HR.out.cell 2 rfl 0 rfl; have hc5_ga_1 : w5.cell? ⟨ga, 1, none⟩ = some (.string t.f1) := HR.out.cell 2 rfl 1 rfl; have hc5_ga_2 : w5.cell? ⟨ga, 2, none⟩ = some (.int .i64 t.f2) := HR.out.cell 2 rfl 2 rfl; have hc5_ga_3 : w5.cell? ⟨ga, 3, none⟩ = some (.slice A t.f3.length c) := HR.out.cell 2 rfl 3 rfl; have hc5_go_0 : w5.cell? ⟨go, 0, none⟩ = some (.int .i64 t.f0) := HR.out.cell 0 rfl 0 rfl; have hc5_go_1 : w5.cell? ⟨go, 1, none⟩ = some (.string t.f1) := HR.out.cell 0 rfl 1 rfl; have hc5_go_2 : w5.cell? ⟨go, 2, none⟩ = some (.int .i64 t.f2) := HR.out.cell 0 rfl 2 rfl; have hc5_go_3 : w5.cell? ⟨go, 3, none⟩ = some (.slice none 0 0) := HR.out.cell 0 rfl 3 rfl; have fc5_go_0 := HR.out.free 0 rfl 0; have fc5_go_1 := HR.out.free 0 rfl 1; have fc5_go_2 := HR.out.free 0 rfl 2; have fc5_go_3 := HR.out.free 0 rfl 3)
  | (go_at_call 105; refine (id_calls t.f2 w5).mono ?_; rintro e w6 ⟨rfl, hb⟩; have q_ := Aside0.mk (HR.out.step hb); clear HR; have HR := q_; clear q_; clear hb; clear hc5_ga_0 hc5_ga_1 hc5_ga_2 hc5_ga_3 hc5_go_0 hc5_go_1 hc5_go_2 hc5_go_3 fc5_go_0 fc5_go_1 fc5_go_2 fc5_go_3; have hc6_ga_0 : w6.cell? ⟨ga, 0, none⟩ = some (.int .i64 t.f0) := HR.out.cell 2 rfl 0 rfl; have hc6_ga_1 : w6.cell? ⟨ga, 1, none⟩ = some (.string t.f1) := HR.out.cell 2 rfl 1 rfl; have hc6_ga_2 : w6.cell? ⟨ga, 2, none⟩ = some (.int .i64 t.f2) := HR.out.cell 2 rfl 2 rfl; have hc6_ga_3 : w6.cell? ⟨ga, 3, none⟩ = some (.slice A t.f3.length c) := HR.out.cell 2 rfl 3 rfl; have hc6_go_0 : w6.cell? ⟨go, 0, none⟩ = some (.int .i64 t.f0) := HR.out.cell 0 rfl 0 rfl; have hc6_go_1 : w6.cell? ⟨go, 1, none⟩ = some (.string t.f1) := HR.out.cell 0 rfl 1 rfl; have hc6_go_2 : w6.cell? ⟨go, 2, none⟩ = some (.int .i64 t.f2) := HR.out.cell 0 rfl 2 rfl; have hc6_go_3 : w6.cell? ⟨go, 3, none⟩ = some (.slice none 0 0) := HR.out.cell 0 rfl 3 rfl; have fc6_go_0 := HR.out.free 0 rfl 0; have fc6_go_1 := HR.out.free 0 rfl 1; have fc6_go_2 := HR.out.free 0 rfl 2; have fc6_go_3 := HR.out.free 0 rfl 3)
  | ((with_reducible refine gate_store (t := 3) (p := 17) rfl ?_); refine store_event (t := 3) (p := 17) (v := ?vo7) (w1 := w6.setCell ⟨go, 2, none⟩ (.int .i64 t.f2)) ?hgs7 ?hos7 ?hns7 ?hrs7 ?_; (case hos7 => rfl); (case hgs7 => rfl); (case hns7 => rfl); (case hrs7 => first | (go_simp; done) | (go_simp; rfl)); intro w7 hw; have q_ := Aside0.mk (hw ▸ HR.out.set 0 rfl 2 (.int .i64 t.f2)); clear HR; have HR := q_; clear q_; clear hw; clear hc6_ga_0 hc6_ga_1 hc6_ga_2 hc6_ga_3 hc6_go_0 hc6_go_1 hc6_go_2 hc6_go_3 fc6_go_0 fc6_go_1 fc6_go_2 fc6_go_3; have hc7_ga_0 : w7.cell? ⟨ga, 0, none⟩ = some (.int .i64 t.f0) := HR.out.cell 2 rfl 0 rfl; have hc7_ga_1 : w7.cell? ⟨ga, 1, none⟩ = some (.string t.f1) := HR.out.cell 2 rfl 1 rfl; have hc7_ga_2 : w7.cell? ⟨ga, 2, none⟩ = some (.int .i64 t.f2) := HR.out.cell 2 rfl 2 rfl; have hc7_ga_3 : w7.cell? ⟨ga, 3, none⟩ = some (.slice A t.f3.length c) := HR.out.cell 2 rfl 3 rfl; have hc7_go_0 : w7.cell? ⟨go, 0, none⟩ = some (.int .i64 t.f0) := HR.out.cell 0 rfl 0 rfl; have hc7_go_1 : w7.cell? ⟨go, 1, none⟩ = some (.string t.f1) := HR.out.cell 0 rfl 1 rfl; have hc7_go_2 : w7.cell? ⟨go, 2, none⟩ = some (.int .i64 t.f2) := HR.out.cell 0 rfl 2 rfl; have hc7_go_3 : w7.cell? ⟨go, 3, none⟩ = some (.slice none 0 0) := HR.out.cell 0 rfl 3 rfl; have fc7_go_0 := HR.out.free 0 rfl 0; have fc7_go_1 := HR.out.free 0 rfl 1; have fc7_go_2 := HR.out.free 0 rfl 2; have fc7_go_3 := HR.out.free 0 rfl 3))
 go_loopg [21] t.f3.length (fun m v21 w' => ∃ (i : Nat) (A_o : Option Addr) (c_o : Nat) (ys : List S29),v21 = .int .i64 i ∧ Aside0 (m + i = t.f3.length) ∧ Aside0 (ys = t.f3.take i) ∧ Aside0 (Run w w (fun _ => False) [As.row kD29 29 (.slice A_o ys.length c_o) ys,As.box go 29 #[.int .i64 t.f0,.string t.f1,.int .i64 t.f2,.slice A_o ys.length c_o],As.box gr 29 #[.int .i64 0,.string (⟨#[]⟩ : ByteArray),.int .i64 0,.slice none 0 0],As.box ga 29 #[.int .i64 t.f0,.string t.f1,.int .i64 t.f2,.slice A t.f3.length c]] w'))
 case atStart => exact ⟨0,none,0,[],rfl,⟨by omega⟩,⟨rfl⟩,⟨HR.out.push (As.row kD29 29 (.slice none 0 0) []) (Below.refl _ _) (Kd.S_nil _ _ _ _ _)⟩⟩
 case round =>
  clear HR hc7_ga_0 hc7_ga_1 hc7_ga_2 hc7_ga_3 hc7_go_0 hc7_go_1 hc7_go_2 hc7_go_3 fc7_go_0 fc7_go_1 fc7_go_2 fc7_go_3
  obtain ⟨i,A_o,c_o,ys,rfl,hi,HYS,HR⟩:=hrel
  by_cases hlt : (i : Int) < (t.f3.length : Int)
  ·have c3b0 : decide ((i : Int) < (t.f3.length : Int)) = true:=decide_eq_true hlt
   have hlt' : i < t.f3.length:=by omega
   have c3b1 : decide (i < t.f3.length) = true:=decide_eq_true hlt'
   obtain ⟨ad,A3,c3,e1,hx0,hx1,hx2,hx3,hl3,hi3⟩:=at_T29 HC.out (i : Int) (by omega) hlt
   cases e1
   obtain ⟨x,hx⟩ : ∃ x,x = t.f3[i]:=⟨_,rfl⟩
   rw [rd29_at _ i hlt',← hx] at hx0 hx1 hx2 hx3 hl3 hi3
   simp only [Int.toNat_natCast] at hx0 hx1 hx2 hx3
   have HX:=Aside0.mk (show x ∈ t.f3 by rw [hx];exact List.getElem_mem hlt')
   have HT:=Aside0.mk (show t.f3.take (i + 1) = ys ++ [x] by rw [hx,HYS.out];exact List.take_succ_eq_append_getElem hlt')
   have HI3:=Aside0.mk hi3
   have HL3:=Aside0.mk hl3
   clear hi3 hl3 hx
   replace hx0:=(HR.out.bel.cell (World.block_lt_of_cell? w _ hx0)).trans hx0
   replace hx1:=(HR.out.bel.cell (World.block_lt_of_cell? w _ hx1)).trans hx1
   replace hx2:=(HR.out.bel.cell (World.block_lt_of_cell? w _ hx2)).trans hx2
   replace hx3:=(HR.out.bel.cell (World.block_lt_of_cell? w _ hx3)).trans hx3
   go_wp2_with (first
    | ((with_reducible refine gate_dst (N := 7) rfl ?_); refine box_event ?hg7 (N := 7) ?hd7 (cs := #[.int .i64 0, .string (⟨#[]⟩ : ByteArray), .int .i64 0, .slice none 0 0]) (t := 29) ?hr7 ?_; (case hd7 => rfl); (case hg7 => rfl); (case hr7 => first | (go_simp; done) | (go_simp; rfl)); intro gk hg w18 hbox hb; have q_ := Aside0.mk (HR.out.box hg hb hbox); clear HR; have HR := q_; clear q_; clear hg hbox hb; have hc8_gk_0 : w18.cell? ⟨gk, 0, none⟩ = some (.int .i64 0) := HR.out.cell 0 rfl 0 rfl; have hc8_gk_1 : w18.cell? ⟨gk, 1, none⟩ = some (.string (⟨#[]⟩ : ByteArray)) := HR.out.cell 0 rfl 1 rfl; have hc8_gk_2 : w18.cell? ⟨gk, 2, none⟩ = some (.int .i64 0) := HR.out.cell 0 rfl 2 rfl; have hc8_gk_3 : w18.cell? ⟨gk, 3, none⟩ = some (.slice none 0 0) := HR.out.cell 0 rfl 3 rfl; have fc8_gk_0 := HR.out.free 0 rfl 0; have fc8_gk_1 := HR.out.free 0 rfl 1; have fc8_gk_2 := HR.out.free 0 rfl 2; have fc8_gk_3 := HR.out.free 0 rfl 3)
    | ((with_reducible refine gate_store (t := 29) (p := 7) rfl ?_); refine store_event (t := 29) (p := 7) (v := ?vo19) (w1 := w18.setCells gk 0 [.int .i64 x.f0, .string x.f1, .int .i64 x.f2, .slice A3 x.f3.length c3]) ?hgs19 ?hos19 ?hns19 ?hrs19 ?_; (case hos19 => rfl); (case hgs19 => rfl); (case hns19 => rfl); (case hrs19 => first | (go_simp; done) | (go_simp; rfl)); intro w19 hw; have q_ := Aside0.mk (hw ▸ HR.out.store 0 rfl [.int .i64 x.f0, .string x.f1, .int .i64 x.f2, .slice A3 x.f3.length c3] rfl); clear HR; have HR := q_; clear q_; clear hw; clear hc8_gk_0 hc8_gk_1 hc8_gk_2 hc8_gk_3 fc8_gk_0 fc8_gk_1 fc8_gk_2 fc8_gk_3; have hc9_gk_0 : w19.cell? ⟨gk, 0, none⟩ = some (.int .i64 x.f0) := HR.out.cell 0 rfl 0 rfl; have hc9_gk_1 : w19.cell? ⟨gk, 1, none⟩ = some (.string x.f1) := HR.out.cell 0 rfl 1 rfl; have hc9_gk_2 : w19.cell? ⟨gk, 2, none⟩ = some (.int .i64 x.f2) := HR.out.cell 0 rfl 2 rfl; have hc9_gk_3 : w19.cell? ⟨gk, 3, none⟩ = some (.slice A3 x.f3.length c3) := HR.out.cell 0 rfl 3 rfl; have hc9_go_0 : w19.cell? ⟨go, 0, none⟩ = some (.int .i64 t.f0) := HR.out.cell 2 rfl 0 rfl; have hc9_go_1 : w19.cell? ⟨go, 1, none⟩ = some (.string t.f1) := HR.out.cell 2 rfl 1 rfl; have hc9_go_2 : w19.cell? ⟨go, 2, none⟩ = some (.int .i64 t.f2) := HR.out.cell 2 rfl 2 rfl; have hc9_go_3 : w19.cell? ⟨go, 3, none⟩ = some (.slice A_o ys.length c_o) := HR.out.cell 2 rfl 3 rfl))
   have q_:=Aside0.mk (HR.out.drew)
   clear HR
   have HR:=q_
   clear q_
   clear hc9_gk_0 hc9_gk_1 hc9_gk_2 hc9_gk_3 hc9_go_0 hc9_go_1 hc9_go_2 hc9_go_3
   refine start_ (n:=9) (S:=fun w' => w'.cell? ⟨go,0,none⟩ = some (.int .i64 t.f0) ∧ w'.cell? ⟨go,1,none⟩ = some (.string t.f1) ∧ w'.cell? ⟨go,2,none⟩ = some (.int .i64 t.f2) ∧ w'.cell? ⟨go,3,none⟩ = some (.slice A_o ys.length c_o) ∧ w'.cell? ⟨gk,0,none⟩ = some (.int .i64 x.f0) ∧ w'.cell? ⟨gk,1,none⟩ = some (.string x.f1) ∧ w'.cell? ⟨gk,2,none⟩ = some (.int .i64 x.f2) ∧ w'.cell? ⟨gk,3,none⟩ = some (.slice A3 x.f3.length c3)) (ds:=[8]) #[false,false,false,false,false,false,false,false,false] (by kernel_rfl) rfl rfl ⟨HR.out.cell 2 rfl 0 rfl,HR.out.cell 2 rfl 1 rfl,HR.out.cell 2 rfl 2 rfl,HR.out.cell 2 rfl 3 rfl,HR.out.cell 0 rfl 0 rfl,HR.out.cell 0 rfl 1 rfl,HR.out.cell 0 rfl 2 rfl,HR.out.cell 0 rfl 3 rfl⟩ (fun hHeld => ?_);refine with_tabW rn8_tab rn8_bits (fun HT_ HW_ => ?_)
   generalize w19.drew = w20 at HR hHeld ⊢
   refine pure_ (i:=0) (N:=some 25) (v:=?_) (a':=?_) #[true,false,false,false,false,false,false,false,false] rfl rfl (any_of HT_.out (by kernel_rfl)) (fun _ _ _ h => h) (Or.inl ⟨by rfl,?_⟩) ?_ ?_
   rotate_left
   ·intro w'
    go_simp
    with_reducible rfl
   rotate_left
   ·simp only [Act.put,List.setIfInBounds_toArray,List.set_cons_zero,List.set_cons_succ,i64_w,i32_w]
    rfl
   refine pure_ (i:=3) (N:=some 28) (v:=?_) (a':=?_) #[true,false,false,true,false,false,false,false,false] rfl rfl (any_of HT_.out (by kernel_rfl)) (fun _ _ _ h => h) (Or.inl ⟨by rfl,?_⟩) ?_ ?_
   rotate_left
   ·intro w'
    go_simp
    with_reducible rfl
   rotate_left
   ·simp only [Act.put,List.setIfInBounds_toArray,List.set_cons_zero,List.set_cons_succ,i64_w,i32_w]
    rfl
   refine take_ (i:=1) (N:=some 26) (v:=?_) (a':=?_) #[true,true,false,true,false,false,false,false,false] rfl rfl (take_ofW HT_.out HW_.out (by kernel_rfl)) (fun _ _ _ h => h) (Or.inl ⟨by rfl,?_⟩) hHeld ?_ ?_
   rotate_left
   ·rintro w' ⟨s0,s1,s2,s3,s4,s5,s6,s7⟩
    go_simp
    with_reducible rfl
   rotate_left
   ·simp only [Act.put,List.setIfInBounds_toArray,List.set_cons_zero,List.set_cons_succ,i64_w,i32_w]
    rfl
   refine take_ (i:=2) (N:=some 27) (v:=?_) (a':=?_) #[true,true,true,true,false,false,false,false,false] rfl rfl (take_ofW HT_.out HW_.out (by kernel_rfl)) (fun _ _ _ h => h) (Or.inl ⟨by rfl,?_⟩) hHeld ?_ ?_
   rotate_left
   ·rintro w' ⟨s0,s1,s2,s3,s4,s5,s6,s7⟩
    go_simp
    with_reducible rfl
   rotate_left
   ·simp only [Act.put,List.setIfInBounds_toArray,List.set_cons_zero,List.set_cons_succ,i64_w,i32_w]
    rfl
   refine one_ (i:=4) (N:=some 29) #[true,true,true,true,true,false,false,false,false] rfl rfl (one_of HT_.out (by kernel_rfl)) (by decide) (fun K hK => ?_)
   refine goes_ Tryd.func104 (by kernel_rfl) rfl #[.agg #[.int .i64 x.f0,.string x.f1,.int .i64 x.f2,.slice A3 x.f3.length c3],.func (.func 105) #[] #[]] (by rfl) rfl rfl (by (try simp only [List.map_toArray,List.map_cons,List.map_nil]);first|done|rfl) ?_
   refine (IH.out x HX.out A3 c3 w20 (Kd.C_below HI3.out HR.out.bel) HL3.out).mono ?_
   rintro e w21 ⟨A4,c4,rfl,ho,hb⟩
   refine ⟨_,rfl,?_⟩
   have q_:=Aside0.mk (HR.out.push _ hb ho)
   clear HR
   have HR:=q_
   clear q_
   clear ho hb
   refine hK.out _ _ ⟨HR.out.cell 3 rfl 0 rfl,HR.out.cell 3 rfl 1 rfl,HR.out.cell 3 rfl 2 rfl,HR.out.cell 3 rfl 3 rfl,HR.out.cell 1 rfl 0 rfl,HR.out.cell 1 rfl 1 rfl,HR.out.cell 1 rfl 2 rfl,HR.out.cell 1 rfl 3 rfl⟩ (fun hHeld => ?_)
   clear hK K
   refine norm_ (a':=?_) ?_ ?_
   rotate_left
   ·show Act.put _ (some 29) _ = _
    simp only [Act.put,List.setIfInBounds_toArray,List.set_cons_zero,List.set_cons_succ,i64_w,i32_w]
    rfl
   refine one_ (i:=5) (N:=some 30) #[true,true,true,true,true,true,false,false,false] rfl rfl (one_of HT_.out (by kernel_rfl)) (by decide) (fun K hK => ?_)
   refine value_ (w1:=?_) (v:=?_) (by rfl) rfl ?_ ?_
   rotate_left 2
   ·go_simp
    constructor
    ·rfl
    ·rfl
   refine hK.out _ _ ⟨(blk_cell (blk_alloc (HR.out.has 3 rfl).2 _) 0).trans rfl,(blk_cell (blk_alloc (HR.out.has 3 rfl).2 _) 1).trans rfl,(blk_cell (blk_alloc (HR.out.has 3 rfl).2 _) 2).trans rfl,(blk_cell (blk_alloc (HR.out.has 3 rfl).2 _) 3).trans rfl,(blk_cell (blk_alloc (HR.out.has 1 rfl).2 _) 0).trans rfl,(blk_cell (blk_alloc (HR.out.has 1 rfl).2 _) 1).trans rfl,(blk_cell (blk_alloc (HR.out.has 1 rfl).2 _) 2).trans rfl,(blk_cell (blk_alloc (HR.out.has 1 rfl).2 _) 3).trans rfl⟩ (fun hHeld => ?_)
   clear hK K
   refine norm_ (a':=?_) ?_ ?_
   rotate_left
   ·show Act.put _ (some 30) _ = _
    simp only [Act.put,List.setIfInBounds_toArray,List.set_cons_zero,List.set_cons_succ,i64_w,i32_w]
    rfl
   refine one_ (i:=6) (N:=some 31) #[true,true,true,true,true,true,true,false,false] rfl rfl (one_of HT_.out (by kernel_rfl)) (by decide) (fun K hK => ?_)
   refine HR.out.appStep 2 0 kD29 rfl rfl (by decide) x [.int .i64 x.f0,.string x.f1,.int .i64 x.f2,.slice A4 x.f3.length c4] (fun okj hj_ => kD29_mkM _ _ _ x hj_) (by rfl) (.tmp 26) (.tmp 30) 27 (.agg #[(.int .i64 0),(.string ⟨#[]⟩),(.int .i64 0),(.slice none 0 0)]) 56 rfl Tryd.underlying27 info29 rfl (by decide) (by omega) rfl rfl (by have h1_:=HL.out;have h2_ : ys.length ≤ t.f3.length:=(by rw [HYS.out,List.length_take];omega);omega) ?_
   intro v_ w22 hq_
   obtain ⟨l_n,hz_⟩ : ∃ z_,z_ = (ys ++ [x]):=⟨_,rfl⟩
   rw [← hz_] at hq_
   have HZ_n:=Aside0.mk hz_
   clear hz_
   obtain ⟨A_n,c_n,rfl⟩:=Kd.S_slice (hq_.has 2 rfl)
   clear HR
   have HR:=Aside0.mk hq_
   clear hq_
   refine hK.out _ _ ⟨HR.out.cell 3 rfl 0 rfl,HR.out.cell 3 rfl 1 rfl,HR.out.cell 3 rfl 2 rfl,HR.out.cell 3 rfl 3 rfl,HR.out.cell 1 rfl 0 rfl,HR.out.cell 1 rfl 1 rfl,HR.out.cell 1 rfl 2 rfl,HR.out.cell 1 rfl 3 rfl⟩ (fun hHeld => ?_)
   clear hK K
   refine norm_ (a':=?_) ?_ ?_
   rotate_left
   ·show Act.put _ (some 31) _ = _
    simp only [Act.put,List.setIfInBounds_toArray,List.set_cons_zero,List.set_cons_succ,i64_w,i32_w]
    rfl
   refine pure_ (i:=7) (N:=some 32) (v:=?_) (a':=?_) #[true,true,true,true,true,true,true,true,false] rfl rfl (any_of HT_.out (by kernel_rfl)) (fun _ _ _ h => h) (Or.inl ⟨by rfl,?_⟩) ?_ ?_
   rotate_left
   ·intro w'
    go_simp
    with_reducible rfl
   rotate_left
   ·simp only [Act.put,List.setIfInBounds_toArray,List.set_cons_zero,List.set_cons_succ,i64_w,i32_w]
    rfl
   refine last_ (i:=8) (N:=none) #[true,true,true,true,true,true,true,true,true] rfl rfl (one_of HT_.out (by kernel_rfl)) (by decide) (fun K hK => ?_)
   have hz0_ : w22.cell? ⟨go,0,none⟩ = some (.int .i64 t.f0):=HR.out.cell 3 rfl 0 rfl
   have fz0_:=HR.out.free 3 rfl 0
   have hz1_ : w22.cell? ⟨go,1,none⟩ = some (.string t.f1):=HR.out.cell 3 rfl 1 rfl
   have fz1_:=HR.out.free 3 rfl 1
   have hz2_ : w22.cell? ⟨go,2,none⟩ = some (.int .i64 t.f2):=HR.out.cell 3 rfl 2 rfl
   have fz2_:=HR.out.free 3 rfl 2
   have hz3_ : w22.cell? ⟨go,3,none⟩ = some (.slice A_o ys.length c_o):=HR.out.cell 3 rfl 3 rfl
   have fz3_:=HR.out.free 3 rfl 3
   refine skip_ (w1:=w22.setCell ⟨go,3,none⟩ (.slice A_n l_n.length c_n)) (by rfl) rfl ?_ ?_
   ·first|(go_simp;done)|(go_simp;rfl)
   refine hK.out _ _ ?_
   clear hK K hz0_ fz0_ hz1_ fz1_ hz2_ fz2_ hz3_ fz3_
   have q_:=Aside0.mk (HR.out.set 3 rfl 3 (.slice A_n l_n.length c_n))
   clear HR
   have HR:=q_
   clear q_
   generalize w22.setCell ⟨go,3,none⟩ (.slice A_n l_n.length c_n) = w23 at HR ⊢
   refine done_ (done_of HT_.out (by kernel_rfl)) ?_
   try go_wp2
   go_roundg (t.f3.length - (i + 1))
   case measure => have:=hi.out;omega
   case rel => exact ⟨i + 1,A_n,c_n,l_n,by rw [next_i i _ hlt' HL.out],⟨by have:=hi.out;omega⟩,⟨HZ_n.out.trans HT.out.symm⟩,⟨HR.out.pick [2,3,4,5] (by decide)⟩⟩
  ·have c3b0 : decide ((i : Int) < (t.f3.length : Int)) = false:=decide_eq_false hlt
   have c3b1 : decide (i < t.f3.length) = false:=decide_eq_false (by omega)
   have he : ys = t.f3:=HYS.out.trans (List.take_of_length_le (by omega))
   rw [he] at HR
   clear he
   have hc10_go_0 : wr.cell? ⟨go,0,none⟩ = some (.int .i64 t.f0):=HR.out.cell 1 rfl 0 rfl
   have hc10_go_1 : wr.cell? ⟨go,1,none⟩ = some (.string t.f1):=HR.out.cell 1 rfl 1 rfl
   have hc10_go_2 : wr.cell? ⟨go,2,none⟩ = some (.int .i64 t.f2):=HR.out.cell 1 rfl 2 rfl
   have hc10_go_3 : wr.cell? ⟨go,3,none⟩ = some (.slice A_o t.f3.length c_o):=HR.out.cell 1 rfl 3 rfl
   have hc10_gr_0 : wr.cell? ⟨gr,0,none⟩ = some (.int .i64 0):=HR.out.cell 2 rfl 0 rfl
   have hc10_gr_1 : wr.cell? ⟨gr,1,none⟩ = some (.string (⟨#[]⟩ : ByteArray)):=HR.out.cell 2 rfl 1 rfl
   have hc10_gr_2 : wr.cell? ⟨gr,2,none⟩ = some (.int .i64 0):=HR.out.cell 2 rfl 2 rfl
   have hc10_gr_3 : wr.cell? ⟨gr,3,none⟩ = some (.slice none 0 0):=HR.out.cell 2 rfl 3 rfl
   have fc10_gr_0:=HR.out.free 2 rfl 0
   have fc10_gr_1:=HR.out.free 2 rfl 1
   have fc10_gr_2:=HR.out.free 2 rfl 2
   have fc10_gr_3:=HR.out.free 2 rfl 3
   go_wp2_with (first
    | ((with_reducible refine gate_store (t := 29) (p := 4) rfl ?_); refine store_event (t := 29) (p := 4) (v := ?vo34) (w1 := wr.setCells gr 0 [.int .i64 t.f0, .string t.f1, .int .i64 t.f2, .slice A_o t.f3.length c_o]) ?hgs34 ?hos34 ?hns34 ?hrs34 ?_; (case hos34 => rfl); (case hgs34 => rfl); (case hns34 => rfl); (case hrs34 => first | (go_simp; done) | (go_simp; rfl)); intro w34 hw; have q_ := Aside0.mk (hw ▸ HR.out.store 2 rfl [.int .i64 t.f0, .string t.f1, .int .i64 t.f2, .slice A_o t.f3.length c_o] rfl); clear HR; have HR := q_; clear q_; clear hw; clear hc10_go_0 hc10_go_1 hc10_go_2 hc10_go_3 hc10_gr_0 hc10_gr_1 hc10_gr_2 hc10_gr_3 fc10_gr_0 fc10_gr_1 fc10_gr_2 fc10_gr_3))
   refine bodyPost_ret (results_cell_row rfl _ _ gr 29 #[.int .i64 t.f0,.string t.f1,.int .i64 t.f2,.slice A_o t.f3.length c_o] (0,0) _ rfl (HR.out.has 2 rfl).2 Tryd.underlying29 rfl (by kernel_rfl)) rfl ?_
   exact ⟨_,_,rfl,As.mono _ (fun k hk => hk.elim False.elim id) (HR.out.one 0 rfl),HR.out.bel⟩
theorem rn_all (n : Nat) : ∀ t : S29,ht29 t ≤ n → cns29 t.f3 ≤ 1048576 → RnT t:=by
 induction n with
 | zero => intro t h; have := ht29_eq t; omega
 | succ n ih =>
  intro t h hc
  have h1:=cns29_len t.f3
  have h2 : ∀ x ∈ t.f3,RnT x:=fun x hx => ih x (by have:=hts29_mem hx;have:=ht29_eq t;omega) (by have:=cns29_mem hx;have:=cn29_eq x;omega)
  by_cases hk : (t.f0 == 1) = true
  ·exact rn_var t hk (by omega) h2
  ·exact rn_other t (by simpa using hk) (by omega) h2
set_option maxHeartbeats 16000000 in
set_option maxRecDepth 100000 in
theorem cp_all (t : S29) (hn : RnT t) : CpT t:=by
 intro A c w hC hc
 have HC:=Aside0.mk hC
 have HCC:=Aside0.mk hc
 have HN:=Aside0.mk hn
 have HR:=Aside0.mk (run_law w)
 clear hC hc hn
 go_enter Tryd.func81,Tryd.ntmps81
 go_wp2_with (first
  | ((with_reducible refine gate_dst (N := 1) rfl ?_); refine box_event ?hg1 (N := 1) ?hd1 (cs := #[.int .i64 t.f0, .string t.f1, .int .i64 t.f2, .slice A t.f3.length c]) (t := 29) ?hr1 ?_; (case hd1 => rfl); (case hg1 => rfl); (case hr1 => first | (go_simp; done) | (go_simp; rfl)); intro ga hg w1 hbox hb; have q_ := Aside0.mk (HR.out.box hg hb hbox); clear HR; have HR := q_; clear q_; clear hg hbox hb)
  | ((with_reducible refine gate_dst (N := 2) rfl ?_); refine box_event ?hg2 (N := 2) ?hd2 (cs := #[.int .i64 0, .string (⟨#[]⟩ : ByteArray), .int .i64 0, .slice none 0 0]) (t := 29) ?hr2 ?_; (case hd2 => rfl); (case hg2 => rfl); (case hr2 => first | (go_simp; done) | (go_simp; rfl)); intro gr hg w2 hbox hb; have q_ := Aside0.mk (HR.out.box hg hb hbox); clear HR; have HR := q_; clear q_; clear hg hbox hb; have hc2_ga_0 : w2.cell? ⟨ga, 0, none⟩ = some (.int .i64 t.f0) := HR.out.cell 1 rfl 0 rfl; have hc2_ga_1 : w2.cell? ⟨ga, 1, none⟩ = some (.string t.f1) := HR.out.cell 1 rfl 1 rfl; have hc2_ga_2 : w2.cell? ⟨ga, 2, none⟩ = some (.int .i64 t.f2) := HR.out.cell 1 rfl 2 rfl; have hc2_ga_3 : w2.cell? ⟨ga, 3, none⟩ = some (.slice A t.f3.length c) := HR.out.cell 1 rfl 3 rfl)
  | (go_at_call 104; refine (HN.out A c w2 (Kd.C_below HC.out HR.out.bel) HCC.out).mono ?_; rintro e w3 ⟨A4, c4, rfl, ho, hb⟩; have q_ := Aside0.mk (HR.out.push _ hb ho); clear HR; have HR := q_; clear q_; clear hb ho; clear hc2_ga_0 hc2_ga_1 hc2_ga_2 hc2_ga_3; have hc3_gr_0 : w3.cell? ⟨gr, 0, none⟩ = some (.int .i64 0) := HR.out.cell 1 rfl 0 rfl; have hc3_gr_1 : w3.cell? ⟨gr, 1, none⟩ = some (.string (⟨#[]⟩ : ByteArray)) := HR.out.cell 1 rfl 1 rfl; have hc3_gr_2 : w3.cell? ⟨gr, 2, none⟩ = some (.int .i64 0) := HR.out.cell 1 rfl 2 rfl; have hc3_gr_3 : w3.cell? ⟨gr, 3, none⟩ = some (.slice none 0 0) := HR.out.cell 1 rfl 3 rfl; have fc3_gr_0 := HR.out.free 1 rfl 0; have fc3_gr_1 := HR.out.free 1 rfl 1; have fc3_gr_2 := HR.out.free 1 rfl 2; have fc3_gr_3 := HR.out.free 1 rfl 3)
  | ((with_reducible refine gate_store (t := 29) (p := 2) rfl ?_); refine store_event (t := 29) (p := 2) (v := ?vo4) (w1 := w3.setCells gr 0 [.int .i64 t.f0, .string t.f1, .int .i64 t.f2, .slice A4 t.f3.length c4]) ?hgs4 ?hos4 ?hns4 ?hrs4 ?_; (case hos4 => rfl); (case hgs4 => rfl); (case hns4 => rfl); (case hrs4 => first | (go_simp; done) | (go_simp; rfl)); intro w4 hw; have q_ := Aside0.mk (hw ▸ HR.out.store 1 rfl [.int .i64 t.f0, .string t.f1, .int .i64 t.f2, .slice A4 t.f3.length c4] rfl); clear HR; have HR := q_; clear q_; clear hw; clear hc3_gr_0 hc3_gr_1 hc3_gr_2 hc3_gr_3 fc3_gr_0 fc3_gr_1 fc3_gr_2 fc3_gr_3))
 refine bodyPost_ret (results_cell_row rfl _ _ gr 29 #[.int .i64 t.f0,.string t.f1,.int .i64 t.f2,.slice A4 t.f3.length c4] (0,0) _ rfl (HR.out.has 1 rfl).2 Tryd.underlying29 rfl (by kernel_rfl)) rfl ?_
 exact ⟨_,_,rfl,As.mono _ (fun k hk => hk.elim False.elim id) (HR.out.one 0 rfl),HR.out.bel⟩
end
/-! #### copies of clauses and Dbs -/
section
set_option linter.unusedSectionVars false
variable [fk_laws_szTerm] [fk_laws_eqTerm] [fk_spec_l34Term] [fk_strconv_Itoa]
def ac (x : S48) (v v' : Value) : As:=As.star (As.row kD29 29 v x.f0.f3) (As.row kD29 29 v' x.f1.f3)
def MadeC (x : S48) (W : World) (e : Ending) (W' : World) : Prop:=∃ A c B d,e = .returned (.agg #[.int .i64 x.f0.f0,.string x.f0.f1,.int .i64 x.f0.f2,.slice A x.f0.f3.length c,.int .i64 x.f1.f0,.string x.f1.f1,.int .i64 x.f1.f2,.slice B x.f1.f3.length d,.string x.f2]) ∧ (ac x (.slice A x.f0.f3.length c) (.slice B x.f1.f3.length d)).M W.heap.size W' (fun k => W.heap.size ≤ k) ∧ Below W.heap.size W W'
def CpCl (x : S48) : Prop:=∀ (A : Option Addr) (c : Nat) (B : Option Addr) (d : Nat) (W : World),Kd.C k29 W A x.f0.f3.length x.f0.f3 → x.f0.f3.length ≤ c → Kd.C k29 W B x.f1.f3.length x.f1.f3 → x.f1.f3.length ≤ d → Calls Tryd.prog 63 #[.agg #[.int .i64 x.f0.f0,.string x.f0.f1,.int .i64 x.f0.f2,.slice A x.f0.f3.length c,.int .i64 x.f1.f0,.string x.f1.f1,.int .i64 x.f1.f2,.slice B x.f1.f3.length d,.string x.f2]] W fun e W' => MadeC x W e W'
def cc1_T : Bool × List (List Nat × List Nat):=(true,[([],[]),([0],[0]),([1],[1]),([],[]),([3],[3]),([4,2],[4]),([],[]),([6],[6]),([2,5,7],[2,5,7]),([8,5,0,1,2,3,4,5,6,7,8],[8])])
def cc1_B : List Nat:=[0,1,3,0,8,31,0,64,255,511]
theorem cc1_tab : rtab .any (opsOf Tryd.f63 1) = cc1_T:=by kernel_rfl
theorem cc1_bits : waitsOk cc1_T.2 cc1_B = true:=by kernel_rfl
set_option maxHeartbeats 16000000 in
set_option maxRecDepth 100000 in
theorem cpCl (x : S48) (h1 : CpT x.f0) (h2 : CpT x.f1) : CpCl x:=by
 intro A c B d w hC hc hD hd
 have HC:=Aside0.mk hC
 have HCC:=Aside0.mk hc
 have HD:=Aside0.mk hD
 have HDD:=Aside0.mk hd
 have H1:=Aside0.mk h1
 have H2:=Aside0.mk h2
 have HR:=Aside0.mk (run_law w)
 clear hC hc hD hd h1 h2
 go_enter Tryd.func63,Tryd.ntmps63
 go_wp2_with (first
  | ((with_reducible refine gate_dst (N := 1) rfl ?_); refine box_event ?hg1 (N := 1) ?hd1 (cs := #[.int .i64 x.f0.f0, .string x.f0.f1, .int .i64 x.f0.f2, .slice A x.f0.f3.length c, .int .i64 x.f1.f0, .string x.f1.f1, .int .i64 x.f1.f2, .slice B x.f1.f3.length d, .string x.f2]) (t := 48) ?hr1 ?_; (case hd1 => rfl); (case hg1 => rfl); (case hr1 => first | (go_simp; done) | (go_simp; rfl)); intro ga hg w1 hbox hb; have q_ := Aside0.mk (HR.out.box hg hb hbox); clear HR; have HR := q_; clear q_; clear hg hbox hb)
  | ((with_reducible refine gate_dst (N := 2) rfl ?_); refine box_event ?hg2 (N := 2) ?hd2 (cs := #[.int .i64 0, .string (⟨#[]⟩ : ByteArray), .int .i64 0, .slice none 0 0, .int .i64 0, .string (⟨#[]⟩ : ByteArray), .int .i64 0, .slice none 0 0, .string (⟨#[]⟩ : ByteArray)]) (t := 48) ?hr2 ?_; (case hd2 => rfl); (case hg2 => rfl); (case hr2 => first | (go_simp; done) | (go_simp; rfl)); intro gr hg w2 hbox hb; have q_ := Aside0.mk (HR.out.box hg hb hbox); clear HR; have HR := q_; clear q_; clear hg hbox hb))
 have q_:=Aside0.mk (HR.out.drew)
 clear HR
 have HR:=q_
 clear q_
 refine start_ (n:=10) (S:=fun w' => w'.cell? ⟨ga,0,none⟩ = some (.int .i64 x.f0.f0) ∧ w'.cell? ⟨ga,1,none⟩ = some (.string x.f0.f1) ∧ w'.cell? ⟨ga,2,none⟩ = some (.int .i64 x.f0.f2) ∧ w'.cell? ⟨ga,3,none⟩ = some (.slice A x.f0.f3.length c) ∧ w'.cell? ⟨ga,4,none⟩ = some (.int .i64 x.f1.f0) ∧ w'.cell? ⟨ga,5,none⟩ = some (.string x.f1.f1) ∧ w'.cell? ⟨ga,6,none⟩ = some (.int .i64 x.f1.f2) ∧ w'.cell? ⟨ga,7,none⟩ = some (.slice B x.f1.f3.length d) ∧ w'.cell? ⟨ga,8,none⟩ = some (.string x.f2)) (ds:=[9]) #[false,false,false,false,false,false,false,false,false,false] (by kernel_rfl) rfl rfl ⟨HR.out.cell 1 rfl 0 rfl,HR.out.cell 1 rfl 1 rfl,HR.out.cell 1 rfl 2 rfl,HR.out.cell 1 rfl 3 rfl,HR.out.cell 1 rfl 4 rfl,HR.out.cell 1 rfl 5 rfl,HR.out.cell 1 rfl 6 rfl,HR.out.cell 1 rfl 7 rfl,HR.out.cell 1 rfl 8 rfl⟩ (fun hHeld => ?_);refine with_tabW cc1_tab cc1_bits (fun HT_ HW_ => ?_)
 generalize w2.drew = w3 at HR hHeld ⊢
 refine pure_ (i:=0) (N:=some 3) (v:=?_) (a':=?_) #[true,false,false,false,false,false,false,false,false,false] rfl rfl (any_of HT_.out (by kernel_rfl)) (fun _ _ _ h => h) (Or.inl ⟨by rfl,?_⟩) ?_ ?_
 rotate_left
 ·intro w'
  go_simp
  with_reducible rfl
 rotate_left
 ·simp only [Act.put,List.setIfInBounds_toArray,List.set_cons_zero,List.set_cons_succ,i64_w,i32_w]
  rfl
 refine pure_ (i:=3) (N:=some 6) (v:=?_) (a':=?_) #[true,false,false,true,false,false,false,false,false,false] rfl rfl (any_of HT_.out (by kernel_rfl)) (fun _ _ _ h => h) (Or.inl ⟨by rfl,?_⟩) ?_ ?_
 rotate_left
 ·intro w'
  go_simp
  with_reducible rfl
 rotate_left
 ·simp only [Act.put,List.setIfInBounds_toArray,List.set_cons_zero,List.set_cons_succ,i64_w,i32_w]
  rfl
 refine pure_ (i:=6) (N:=some 9) (v:=?_) (a':=?_) #[true,false,false,true,false,false,true,false,false,false] rfl rfl (any_of HT_.out (by kernel_rfl)) (fun _ _ _ h => h) (Or.inl ⟨by rfl,?_⟩) ?_ ?_
 rotate_left
 ·intro w'
  go_simp
  with_reducible rfl
 rotate_left
 ·simp only [Act.put,List.setIfInBounds_toArray,List.set_cons_zero,List.set_cons_succ,i64_w,i32_w]
  rfl
 refine take_ (i:=1) (N:=some 4) (v:=?_) (a':=?_) #[true,true,false,true,false,false,true,false,false,false] rfl rfl (take_ofW HT_.out HW_.out (by kernel_rfl)) (fun _ _ _ h => h) (Or.inl ⟨by rfl,?_⟩) hHeld ?_ ?_
 rotate_left
 ·rintro w' ⟨s0,s1,s2,s3,s4,s5,s6,s7,s8⟩
  go_simp
  with_reducible rfl
 rotate_left
 ·simp only [Act.put,List.setIfInBounds_toArray,List.set_cons_zero,List.set_cons_succ,i64_w,i32_w]
  rfl
 refine take_ (i:=4) (N:=some 7) (v:=?_) (a':=?_) #[true,true,false,true,true,false,true,false,false,false] rfl rfl (take_ofW HT_.out HW_.out (by kernel_rfl)) (fun _ _ _ h => h) (Or.inl ⟨by rfl,?_⟩) hHeld ?_ ?_
 rotate_left
 ·rintro w' ⟨s0,s1,s2,s3,s4,s5,s6,s7,s8⟩
  go_simp
  with_reducible rfl
 rotate_left
 ·simp only [Act.put,List.setIfInBounds_toArray,List.set_cons_zero,List.set_cons_succ,i64_w,i32_w]
  rfl
 refine take_ (i:=7) (N:=some 10) (v:=?_) (a':=?_) #[true,true,false,true,true,false,true,true,false,false] rfl rfl (take_ofW HT_.out HW_.out (by kernel_rfl)) (fun _ _ _ h => h) (Or.inl ⟨by rfl,?_⟩) hHeld ?_ ?_
 rotate_left
 ·rintro w' ⟨s0,s1,s2,s3,s4,s5,s6,s7,s8⟩
  go_simp
  with_reducible rfl
 rotate_left
 ·simp only [Act.put,List.setIfInBounds_toArray,List.set_cons_zero,List.set_cons_succ,i64_w,i32_w]
  rfl
 refine one_ (i:=2) (N:=some 5) #[true,true,true,true,true,false,true,true,false,false] rfl rfl (one_of HT_.out (by kernel_rfl)) (by decide) (fun K hK => ?_)
 refine goes_ Tryd.func81 (by kernel_rfl) rfl #[.agg #[.int .i64 x.f0.f0,.string x.f0.f1,.int .i64 x.f0.f2,.slice A x.f0.f3.length c]] (by rfl) rfl rfl (by (try simp only [List.map_toArray,List.map_cons,List.map_nil]);first|done|rfl) ?_
 refine (H1.out A c w3 (Kd.C_below HC.out HR.out.bel) HCC.out).mono ?_
 rintro e w4 ⟨A1,c1,rfl,ho,hb⟩
 refine ⟨_,rfl,?_⟩
 have q_:=Aside0.mk (HR.out.push _ hb ho)
 clear HR
 have HR:=q_
 clear q_
 clear ho hb
 refine hK.out _ _ ⟨HR.out.cell 2 rfl 0 rfl,HR.out.cell 2 rfl 1 rfl,HR.out.cell 2 rfl 2 rfl,HR.out.cell 2 rfl 3 rfl,HR.out.cell 2 rfl 4 rfl,HR.out.cell 2 rfl 5 rfl,HR.out.cell 2 rfl 6 rfl,HR.out.cell 2 rfl 7 rfl,HR.out.cell 2 rfl 8 rfl⟩ (fun hHeld => ?_)
 clear hK K
 refine norm_ (a':=?_) ?_ ?_
 rotate_left
 ·show Act.put _ (some 5) _ = _
  simp only [Act.put,List.setIfInBounds_toArray,List.set_cons_zero,List.set_cons_succ,i64_w,i32_w]
  rfl
 refine one_ (i:=5) (N:=some 8) #[true,true,true,true,true,true,true,true,false,false] rfl rfl (one_of HT_.out (by kernel_rfl)) (by decide) (fun K hK => ?_)
 refine goes_ Tryd.func81 (by kernel_rfl) rfl #[.agg #[.int .i64 x.f1.f0,.string x.f1.f1,.int .i64 x.f1.f2,.slice B x.f1.f3.length d]] (by rfl) rfl rfl (by (try simp only [List.map_toArray,List.map_cons,List.map_nil]);first|done|rfl) ?_
 refine (H2.out B d w4 (Kd.C_below HD.out HR.out.bel) HDD.out).mono ?_
 rintro e w5 ⟨A2,c2,rfl,ho,hb⟩
 refine ⟨_,rfl,?_⟩
 have q_:=Aside0.mk (HR.out.push _ hb ho)
 clear HR
 have HR:=q_
 clear q_
 clear ho hb
 refine hK.out _ _ ⟨HR.out.cell 3 rfl 0 rfl,HR.out.cell 3 rfl 1 rfl,HR.out.cell 3 rfl 2 rfl,HR.out.cell 3 rfl 3 rfl,HR.out.cell 3 rfl 4 rfl,HR.out.cell 3 rfl 5 rfl,HR.out.cell 3 rfl 6 rfl,HR.out.cell 3 rfl 7 rfl,HR.out.cell 3 rfl 8 rfl⟩ (fun hHeld => ?_)
 clear hK K
 refine norm_ (a':=?_) ?_ ?_
 rotate_left
 ·show Act.put _ (some 8) _ = _
  simp only [Act.put,List.setIfInBounds_toArray,List.set_cons_zero,List.set_cons_succ,i64_w,i32_w]
  rfl
 refine pure_ (i:=8) (N:=some 11) (v:=?_) (a':=?_) #[true,true,true,true,true,true,true,true,true,false] rfl rfl (any_of HT_.out (by kernel_rfl)) (fun _ _ _ h => h) (Or.inl ⟨by rfl,?_⟩) ?_ ?_
 rotate_left
 ·intro w'
  go_simp
  with_reducible rfl
 rotate_left
 ·simp only [Act.put,List.setIfInBounds_toArray,List.set_cons_zero,List.set_cons_succ,i64_w,i32_w]
  rfl
 refine last_ (i:=9) (N:=none) #[true,true,true,true,true,true,true,true,true,true] rfl rfl (one_of HT_.out (by kernel_rfl)) (by decide) (fun K hK => ?_)
 have hz0_ : w5.cell? ⟨gr,0,none⟩ = some (.int .i64 0):=HR.out.cell 2 rfl 0 rfl
 have fz0_:=HR.out.free 2 rfl 0
 have hz1_ : w5.cell? ⟨gr,1,none⟩ = some (.string (⟨#[]⟩ : ByteArray)):=HR.out.cell 2 rfl 1 rfl
 have fz1_:=HR.out.free 2 rfl 1
 have hz2_ : w5.cell? ⟨gr,2,none⟩ = some (.int .i64 0):=HR.out.cell 2 rfl 2 rfl
 have fz2_:=HR.out.free 2 rfl 2
 have hz3_ : w5.cell? ⟨gr,3,none⟩ = some (.slice none 0 0):=HR.out.cell 2 rfl 3 rfl
 have fz3_:=HR.out.free 2 rfl 3
 have hz4_ : w5.cell? ⟨gr,4,none⟩ = some (.int .i64 0):=HR.out.cell 2 rfl 4 rfl
 have fz4_:=HR.out.free 2 rfl 4
 have hz5_ : w5.cell? ⟨gr,5,none⟩ = some (.string (⟨#[]⟩ : ByteArray)):=HR.out.cell 2 rfl 5 rfl
 have fz5_:=HR.out.free 2 rfl 5
 have hz6_ : w5.cell? ⟨gr,6,none⟩ = some (.int .i64 0):=HR.out.cell 2 rfl 6 rfl
 have fz6_:=HR.out.free 2 rfl 6
 have hz7_ : w5.cell? ⟨gr,7,none⟩ = some (.slice none 0 0):=HR.out.cell 2 rfl 7 rfl
 have fz7_:=HR.out.free 2 rfl 7
 have hz8_ : w5.cell? ⟨gr,8,none⟩ = some (.string (⟨#[]⟩ : ByteArray)):=HR.out.cell 2 rfl 8 rfl
 have fz8_:=HR.out.free 2 rfl 8
 refine skip_ (w1:=w5.setCells gr 0 [.int .i64 x.f0.f0,.string x.f0.f1,.int .i64 x.f0.f2,.slice A1 x.f0.f3.length c1,.int .i64 x.f1.f0,.string x.f1.f1,.int .i64 x.f1.f2,.slice A2 x.f1.f3.length c2,.string x.f2]) (by rfl) rfl ?_ ?_
 ·first|(go_simp;done)|(go_simp;rfl)
 refine hK.out _ _ ?_
 clear hK K hz0_ fz0_ hz1_ fz1_ hz2_ fz2_ hz3_ fz3_ hz4_ fz4_ hz5_ fz5_ hz6_ fz6_ hz7_ fz7_ hz8_ fz8_
 have q_:=Aside0.mk (HR.out.store 2 rfl [.int .i64 x.f0.f0,.string x.f0.f1,.int .i64 x.f0.f2,.slice A1 x.f0.f3.length c1,.int .i64 x.f1.f0,.string x.f1.f1,.int .i64 x.f1.f2,.slice A2 x.f1.f3.length c2,.string x.f2] rfl)
 clear HR
 have HR:=q_
 clear q_
 generalize w5.setCells gr 0 [.int .i64 x.f0.f0,.string x.f0.f1,.int .i64 x.f0.f2,.slice A1 x.f0.f3.length c1,.int .i64 x.f1.f0,.string x.f1.f1,.int .i64 x.f1.f2,.slice A2 x.f1.f3.length c2,.string x.f2] = w6 at HR ⊢
 refine done_ (done_of HT_.out (by kernel_rfl)) ?_
 try go_wp2
 refine bodyPost_ret (results_cell_row rfl _ _ gr 48 #[.int .i64 x.f0.f0,.string x.f0.f1,.int .i64 x.f0.f2,.slice A1 x.f0.f3.length c1,.int .i64 x.f1.f0,.string x.f1.f1,.int .i64 x.f1.f2,.slice A2 x.f1.f3.length c2,.string x.f2] (0,0) _ rfl (HR.out.has 2 rfl).2 Tryd.underlying48 rfl (by kernel_rfl)) rfl ?_
 exact ⟨_,_,_,_,rfl,As.mono _ (fun k hk => hk.elim False.elim id) (HR.out.two 1 0 rfl rfl (by decide)),HR.out.bel⟩
def MadeCs (xs : List S48) (W : World) (e : Ending) (W' : World) : Prop:=∃ A c,e = .returned (.slice A xs.length c) ∧ (As.row kD59 48 (.slice A xs.length c) xs).M W.heap.size W' (fun k => W.heap.size ≤ k) ∧ Below W.heap.size W W'
end
/-! #### impl.ClausesOf -/
section
set_option linter.unusedSectionVars false
variable [fk_laws_szTerm] [fk_laws_eqTerm] [fk_spec_l34Term] [fk_strconv_Itoa]
set_option maxHeartbeats 16000000 in
set_option maxRecDepth 100000 in
theorem csOf (xs : List S48) (os : List ByteArray) (pred : ByteArray) (pd : S48 → List UInt8) (hlen : xs.length ≤ 1048576) (ih : ∀ x ∈ xs, CpCl x ∧ ∃ k r, impl_PredOf.f k x.f0.f0 x.f0.f1 x.f0.f2 x.f0.f3 = some r ∧ r.toList = pd x) (A : Option Addr) (c : Nat) (B : Option Addr) (d : Nat) (w : World) (hT : Lib.TabBelow Tryd.prog w.heap.size w "internal/strconv.uint64pow10" .u64 Lib.pow10Tab) (hC : Kd.C k48 w A xs.length xs) (hc : xs.length ≤ c) :
  Calls Tryd.prog 29 #[.agg #[.slice A xs.length c,.slice B os.length d],.string pred] w fun e w' => MadeCs (xs.filter (fun x => pd x == pred.toList)) w e w':=by
 have HC:=Aside0.mk hC
 have HCC:=Aside0.mk hc
 have HL:=Aside0.mk hlen
 have IH:=Aside0.mk ih
 have HTAB:=Aside0.mk hT
 have HR:=Aside0.mk (run_law w)
 clear hC hc hlen ih hT
 go_enter Tryd.func29,Tryd.ntmps29
 go_wp2_with (first
  | ((with_reducible refine gate_dst (N := 2) rfl ?_); refine box_event ?hg2 (N := 2) ?hd2 (cs := #[.slice A xs.length c, .slice B os.length d]) (t := 41) ?hr2 ?_; (case hd2 => rfl); (case hg2 => rfl); (case hr2 => first | (go_simp; done) | (go_simp; rfl)); intro ga hg w1 hbox hb; have q_ := Aside0.mk (HR.out.box hg hb hbox); clear HR; have HR := q_; clear q_; clear hg hbox hb; have hc1_ga_0 : w1.cell? ⟨ga, 0, none⟩ = some (.slice A xs.length c) := HR.out.cell 0 rfl 0 rfl; have hc1_ga_1 : w1.cell? ⟨ga, 1, none⟩ = some (.slice B os.length d) := HR.out.cell 0 rfl 1 rfl))
 go_loopg [5,11] xs.length (fun m v5 v11 w' => ∃ (i : Nat) (A_o : Option Addr) (c_o : Nat) (ys : List S48),v11 = .int .i64 i ∧ v5 = .slice A_o ys.length c_o ∧ Aside0 (m + i = xs.length) ∧ Aside0 (ys = ((xs.take i).filter (fun x => pd x == pred.toList))) ∧ Aside0 (Run w w (fun _ => False) [As.row kD59 48 (.slice A_o ys.length c_o) ys] w'))
 case atStart => exact ⟨0,none,0,[],rfl,rfl,⟨by omega⟩,⟨by simp⟩,⟨(HR.out.push (As.row kD59 48 (.slice none 0 0) []) (Below.refl _ _) (Kd.S_nil _ _ _ _ _)).pick [0] (by decide)⟩⟩
 case round =>
  clear HR hc1_ga_0 hc1_ga_1
  obtain ⟨i,A_o,c_o,ys,rfl,rfl,hi,HYS,HR⟩:=hrel
  by_cases hlt : (i : Int) < (xs.length : Int)
  ·have c3b0 : decide ((i : Int) < (xs.length : Int)) = true:=decide_eq_true hlt
   have hlt' : i < xs.length:=by omega
   have c3b1 : decide (i < xs.length) = true:=decide_eq_true hlt'
   obtain ⟨ad,A3,c3,A7,c7,e1,hx0,hx1,hx2,hx3,hx4,hx5,hx6,hx7,hx8,hl3,hi3,hl7,hi7⟩:=at_T48 HC.out (i : Int) (by omega) hlt
   cases e1
   obtain ⟨x,hx⟩ : ∃ x,x = xs[i]:=⟨_,rfl⟩
   rw [show rd_T48 xs (i : Int) = x by rw [hx];unfold rd_T48;simp [List.getD,hlt']] at hx0 hx1 hx2 hx3 hx4 hx5 hx6 hx7 hx8 hl3 hi3 hl7 hi7
   simp only [Int.toNat_natCast] at hx0 hx1 hx2 hx3 hx4 hx5 hx6 hx7 hx8
   have hih:=IH.out x (by rw [hx];exact List.getElem_mem hlt')
   obtain ⟨hcp,kp,rp,hpf,hpd⟩:=hih
   unfold CpCl at hcp
   have HCP:=Aside0.mk hcp
   have HPF:=Aside0.mk hpf
   have HT:=Aside0.mk (show xs.take (i + 1) = xs.take i ++ [x] by rw [hx];exact List.take_succ_eq_append_getElem hlt')
   have HYL:=Aside0.mk (show ys.length ≤ i by rw [HYS.out];exact Nat.le_trans (List.length_filter_le _ _) (by rw [List.length_take];omega))
   have HI3:=Aside0.mk hi3
   have HL3:=Aside0.mk hl3
   have HI7:=Aside0.mk hi7
   have HL7:=Aside0.mk hl7
   clear hi3 hl3 hi7 hl7 hx hcp hpf
   replace hx0:=(HR.out.bel.cell (World.block_lt_of_cell? w _ hx0)).trans hx0
   replace hx1:=(HR.out.bel.cell (World.block_lt_of_cell? w _ hx1)).trans hx1
   replace hx2:=(HR.out.bel.cell (World.block_lt_of_cell? w _ hx2)).trans hx2
   replace hx3:=(HR.out.bel.cell (World.block_lt_of_cell? w _ hx3)).trans hx3
   replace hx4:=(HR.out.bel.cell (World.block_lt_of_cell? w _ hx4)).trans hx4
   replace hx5:=(HR.out.bel.cell (World.block_lt_of_cell? w _ hx5)).trans hx5
   replace hx6:=(HR.out.bel.cell (World.block_lt_of_cell? w _ hx6)).trans hx6
   replace hx7:=(HR.out.bel.cell (World.block_lt_of_cell? w _ hx7)).trans hx7
   replace hx8:=(HR.out.bel.cell (World.block_lt_of_cell? w _ hx8)).trans hx8
   by_cases hq : rp.toList = pred.toList
   ·have c9b0 : (rp.toList == pred.toList) = true:=beq_iff_eq.mpr hq
    have HFX:=Aside0.mk (show [x].filter (fun x => pd x == pred.toList) = [x] by simp [← hpd,hq])
    clear hq hpd
    go_wp2_with (first
     | ((with_reducible refine gate_dst (N := 7) rfl ?_); refine box_event ?hg7 (N := 7) ?hd7 (cs := #[.int .i64 0, .string (⟨#[]⟩ : ByteArray), .int .i64 0, .slice none 0 0, .int .i64 0, .string (⟨#[]⟩ : ByteArray), .int .i64 0, .slice none 0 0, .string (⟨#[]⟩ : ByteArray)]) (t := 48) ?hr7 ?_; (case hd7 => rfl); (case hg7 => rfl); (case hr7 => first | (go_simp; done) | (go_simp; rfl)); intro gk hg w11 hbox hb; have q_ := Aside0.mk (HR.out.box hg hb hbox); clear HR; have HR := q_; clear q_; clear hg hbox hb; have hc1_gk_0 : w11.cell? ⟨gk, 0, none⟩ = some (.int .i64 0) := HR.out.cell 0 rfl 0 rfl; have hc1_gk_1 : w11.cell? ⟨gk, 1, none⟩ = some (.string (⟨#[]⟩ : ByteArray)) := HR.out.cell 0 rfl 1 rfl; have hc1_gk_2 : w11.cell? ⟨gk, 2, none⟩ = some (.int .i64 0) := HR.out.cell 0 rfl 2 rfl; have hc1_gk_3 : w11.cell? ⟨gk, 3, none⟩ = some (.slice none 0 0) := HR.out.cell 0 rfl 3 rfl; have hc1_gk_4 : w11.cell? ⟨gk, 4, none⟩ = some (.int .i64 0) := HR.out.cell 0 rfl 4 rfl; have hc1_gk_5 : w11.cell? ⟨gk, 5, none⟩ = some (.string (⟨#[]⟩ : ByteArray)) := HR.out.cell 0 rfl 5 rfl; have hc1_gk_6 : w11.cell? ⟨gk, 6, none⟩ = some (.int .i64 0) := HR.out.cell 0 rfl 6 rfl; have hc1_gk_7 : w11.cell? ⟨gk, 7, none⟩ = some (.slice none 0 0) := HR.out.cell 0 rfl 7 rfl; have hc1_gk_8 : w11.cell? ⟨gk, 8, none⟩ = some (.string (⟨#[]⟩ : ByteArray)) := HR.out.cell 0 rfl 8 rfl; have fc1_gk_0 := HR.out.free 0 rfl 0; have fc1_gk_1 := HR.out.free 0 rfl 1; have fc1_gk_2 := HR.out.free 0 rfl 2; have fc1_gk_3 := HR.out.free 0 rfl 3; have fc1_gk_4 := HR.out.free 0 rfl 4; have fc1_gk_5 := HR.out.free 0 rfl 5; have fc1_gk_6 := HR.out.free 0 rfl 6; have fc1_gk_7 := HR.out.free 0 rfl 7; have fc1_gk_8 := HR.out.free 0 rfl 8)
     | ((with_reducible refine gate_store (t := 48) (p := 7) rfl ?_); refine store_event (t := 48) (p := 7) (v := ?vo12) (w1 := w11.setCells gk 0 [.int .i64 x.f0.f0, .string x.f0.f1, .int .i64 x.f0.f2, .slice A3 x.f0.f3.length c3, .int .i64 x.f1.f0, .string x.f1.f1, .int .i64 x.f1.f2, .slice A7 x.f1.f3.length c7, .string x.f2]) ?hgs12 ?hos12 ?hns12 ?hrs12 ?_; (case hos12 => rfl); (case hgs12 => rfl); (case hns12 => rfl); (case hrs12 => first | (go_simp; done) | (go_simp; rfl)); intro w12 hw; have q_ := Aside0.mk (hw ▸ HR.out.store 0 rfl [.int .i64 x.f0.f0, .string x.f0.f1, .int .i64 x.f0.f2, .slice A3 x.f0.f3.length c3, .int .i64 x.f1.f0, .string x.f1.f1, .int .i64 x.f1.f2, .slice A7 x.f1.f3.length c7, .string x.f2] rfl); clear HR; have HR := q_; clear q_; clear hw; clear hc1_gk_0 hc1_gk_1 hc1_gk_2 hc1_gk_3 hc1_gk_4 hc1_gk_5 hc1_gk_6 hc1_gk_7 hc1_gk_8 fc1_gk_0 fc1_gk_1 fc1_gk_2 fc1_gk_3 fc1_gk_4 fc1_gk_5 fc1_gk_6 fc1_gk_7 fc1_gk_8; have hc2_gk_0 : w12.cell? ⟨gk, 0, none⟩ = some (.int .i64 x.f0.f0) := HR.out.cell 0 rfl 0 rfl; have hc2_gk_1 : w12.cell? ⟨gk, 1, none⟩ = some (.string x.f0.f1) := HR.out.cell 0 rfl 1 rfl; have hc2_gk_2 : w12.cell? ⟨gk, 2, none⟩ = some (.int .i64 x.f0.f2) := HR.out.cell 0 rfl 2 rfl; have hc2_gk_3 : w12.cell? ⟨gk, 3, none⟩ = some (.slice A3 x.f0.f3.length c3) := HR.out.cell 0 rfl 3 rfl; have hc2_gk_4 : w12.cell? ⟨gk, 4, none⟩ = some (.int .i64 x.f1.f0) := HR.out.cell 0 rfl 4 rfl; have hc2_gk_5 : w12.cell? ⟨gk, 5, none⟩ = some (.string x.f1.f1) := HR.out.cell 0 rfl 5 rfl; have hc2_gk_6 : w12.cell? ⟨gk, 6, none⟩ = some (.int .i64 x.f1.f2) := HR.out.cell 0 rfl 6 rfl; have hc2_gk_7 : w12.cell? ⟨gk, 7, none⟩ = some (.slice A7 x.f1.f3.length c7) := HR.out.cell 0 rfl 7 rfl; have hc2_gk_8 : w12.cell? ⟨gk, 8, none⟩ = some (.string x.f2) := HR.out.cell 0 rfl 8 rfl)
     | (go_at_call 13; refine (impl_PredOf.calls kp x.f0.f0 x.f0.f1 x.f0.f2 A3 c3 x.f0.f3 rp w12 (tab_at HTAB.out HR.out.bel) (Kd.C_below HI3.out HR.out.bel) HL3.out HPF.out).mono ?_; rintro e w13 ⟨rfl, hb⟩; have q_ := Aside0.mk (HR.out.step hb); clear HR; have HR := q_; clear q_; clear hb; clear hc2_gk_0 hc2_gk_1 hc2_gk_2 hc2_gk_3 hc2_gk_4 hc2_gk_5 hc2_gk_6 hc2_gk_7 hc2_gk_8; have hc3_gk_0 : w13.cell? ⟨gk, 0, none⟩ = some (.int .i64 x.f0.f0) := HR.out.cell 0 rfl 0 rfl; have hc3_gk_1 : w13.cell? ⟨gk, 1, none⟩ = some (.string x.f0.f1) := HR.out.cell 0 rfl 1 rfl; have hc3_gk_2 : w13.cell? ⟨gk, 2, none⟩ = some (.int .i64 x.f0.f2) := HR.out.cell 0 rfl 2 rfl; have hc3_gk_3 : w13.cell? ⟨gk, 3, none⟩ = some (.slice A3 x.f0.f3.length c3) := HR.out.cell 0 rfl 3 rfl; have hc3_gk_4 : w13.cell? ⟨gk, 4, none⟩ = some (.int .i64 x.f1.f0) := HR.out.cell 0 rfl 4 rfl; have hc3_gk_5 : w13.cell? ⟨gk, 5, none⟩ = some (.string x.f1.f1) := HR.out.cell 0 rfl 5 rfl; have hc3_gk_6 : w13.cell? ⟨gk, 6, none⟩ = some (.int .i64 x.f1.f2) := HR.out.cell 0 rfl 6 rfl; have hc3_gk_7 : w13.cell? ⟨gk, 7, none⟩ = some (.slice A7 x.f1.f3.length c7) := HR.out.cell 0 rfl 7 rfl; have hc3_gk_8 : w13.cell? ⟨gk, 8, none⟩ = some (.string x.f2) := HR.out.cell 0 rfl 8 rfl)
     | (go_at_call 63; refine (HCP.out A3 c3 A7 c7 w13 (Kd.C_below HI3.out HR.out.bel) HL3.out (Kd.C_below HI7.out HR.out.bel) HL7.out).mono ?_; rintro e w14 ⟨A4, c4, A8, c8, rfl, ho, hb⟩; have q_ := Aside0.mk (HR.out.push _ hb ho); clear HR; have HR := q_; clear q_; clear hb ho; clear hc3_gk_0 hc3_gk_1 hc3_gk_2 hc3_gk_3 hc3_gk_4 hc3_gk_5 hc3_gk_6 hc3_gk_7 hc3_gk_8)
     | ((with_reducible refine gate_builtin (b := .append) (xs := #[.tmp 20, .tmp 23]) rfl ?_); at_builtin; refine HR.out.app 2 0 kD59 rfl rfl (by decide) x [.int .i64 x.f0.f0, .string x.f0.f1, .int .i64 x.f0.f2, .slice A4 x.f0.f3.length c4, .int .i64 x.f1.f0, .string x.f1.f1, .int .i64 x.f1.f2, .slice A8 x.f1.f3.length c8, .string x.f2] (fun okj hj_ => hj_.elim fun p h => kD59_mkM _ _ _ p x h.1 h.2) rfl (.tmp 20) (.tmp 23) 39 (.agg #[(.int .i64 0), (.string ⟨#[]⟩), (.int .i64 0), (.slice none 0 0), (.int .i64 0), (.string ⟨#[]⟩), (.int .i64 0), (.slice none 0 0), (.string ⟨#[]⟩)]) 128 rfl Tryd.underlying39 info48 rfl (by decide) (by omega) rfl rfl (by have h1_ := HL.out; have h2_ := HYL.out; omega) ?_; intro v_ w15 hq_; obtain ⟨l_n, hz_⟩ : ∃ z_, z_ = (ys ++ [x]) := ⟨_, rfl⟩; rw [← hz_] at hq_; have HZ_n := Aside0.mk hz_; clear hz_; obtain ⟨A_n, c_n, rfl⟩ := Kd.S_slice (hq_.has 2 rfl); clear HR; have HR := Aside0.mk hq_; clear hq_))
    go_roundg (xs.length - (i + 1))
    case measure => have:=hi.out;omega
    case rel => exact ⟨i + 1,A_n,c_n,l_n,by rw [next_i i _ hlt' HL.out],rfl,⟨by have:=hi.out;omega⟩,⟨by rw [HZ_n.out,HT.out,List.filter_append,← HYS.out,HFX.out]⟩,⟨HR.out.pick [2] (by decide)⟩⟩
   ·have c9b0 : (rp.toList == pred.toList) = false:=by simpa using hq
    have HFX:=Aside0.mk (show [x].filter (fun x => pd x == pred.toList) = [] by simp [← hpd,hq])
    clear hq hpd
    go_wp2_with (first
     | ((with_reducible refine gate_dst (N := 7) rfl ?_); refine box_event ?hg7 (N := 7) ?hd7 (cs := #[.int .i64 0, .string (⟨#[]⟩ : ByteArray), .int .i64 0, .slice none 0 0, .int .i64 0, .string (⟨#[]⟩ : ByteArray), .int .i64 0, .slice none 0 0, .string (⟨#[]⟩ : ByteArray)]) (t := 48) ?hr7 ?_; (case hd7 => rfl); (case hg7 => rfl); (case hr7 => first | (go_simp; done) | (go_simp; rfl)); intro gk hg w31 hbox hb; have q_ := Aside0.mk (HR.out.box hg hb hbox); clear HR; have HR := q_; clear q_; clear hg hbox hb; have hc1_gk_0 : w31.cell? ⟨gk, 0, none⟩ = some (.int .i64 0) := HR.out.cell 0 rfl 0 rfl; have hc1_gk_1 : w31.cell? ⟨gk, 1, none⟩ = some (.string (⟨#[]⟩ : ByteArray)) := HR.out.cell 0 rfl 1 rfl; have hc1_gk_2 : w31.cell? ⟨gk, 2, none⟩ = some (.int .i64 0) := HR.out.cell 0 rfl 2 rfl; have hc1_gk_3 : w31.cell? ⟨gk, 3, none⟩ = some (.slice none 0 0) := HR.out.cell 0 rfl 3 rfl; have hc1_gk_4 : w31.cell? ⟨gk, 4, none⟩ = some (.int .i64 0) := HR.out.cell 0 rfl 4 rfl; have hc1_gk_5 : w31.cell? ⟨gk, 5, none⟩ = some (.string (⟨#[]⟩ : ByteArray)) := HR.out.cell 0 rfl 5 rfl; have hc1_gk_6 : w31.cell? ⟨gk, 6, none⟩ = some (.int .i64 0) := HR.out.cell 0 rfl 6 rfl; have hc1_gk_7 : w31.cell? ⟨gk, 7, none⟩ = some (.slice none 0 0) := HR.out.cell 0 rfl 7 rfl; have hc1_gk_8 : w31.cell? ⟨gk, 8, none⟩ = some (.string (⟨#[]⟩ : ByteArray)) := HR.out.cell 0 rfl 8 rfl; have fc1_gk_0 := HR.out.free 0 rfl 0; have fc1_gk_1 := HR.out.free 0 rfl 1; have fc1_gk_2 := HR.out.free 0 rfl 2; have fc1_gk_3 := HR.out.free 0 rfl 3; have fc1_gk_4 := HR.out.free 0 rfl 4; have fc1_gk_5 := HR.out.free 0 rfl 5; have fc1_gk_6 := HR.out.free 0 rfl 6; have fc1_gk_7 := HR.out.free 0 rfl 7; have fc1_gk_8 := HR.out.free 0 rfl 8)
     | ((with_reducible refine gate_store (t := 48) (p := 7) rfl ?_); refine store_event (t := 48) (p := 7) (v := ?vo32) (w1 := w31.setCells gk 0 [.int .i64 x.f0.f0, .string x.f0.f1, .int .i64 x.f0.f2, .slice A3 x.f0.f3.length c3, .int .i64 x.f1.f0, .string x.f1.f1, .int .i64 x.f1.f2, .slice A7 x.f1.f3.length c7, .string x.f2]) ?hgs32 ?hos32 ?hns32 ?hrs32 ?_; (case hos32 => rfl); (case hgs32 => rfl); (case hns32 => rfl); (case hrs32 => first | (go_simp; done) | (go_simp; rfl)); intro w32 hw; have q_ := Aside0.mk (hw ▸ HR.out.store 0 rfl [.int .i64 x.f0.f0, .string x.f0.f1, .int .i64 x.f0.f2, .slice A3 x.f0.f3.length c3, .int .i64 x.f1.f0, .string x.f1.f1, .int .i64 x.f1.f2, .slice A7 x.f1.f3.length c7, .string x.f2] rfl); clear HR; have HR := q_; clear q_; clear hw; clear hc1_gk_0 hc1_gk_1 hc1_gk_2 hc1_gk_3 hc1_gk_4 hc1_gk_5 hc1_gk_6 hc1_gk_7 hc1_gk_8 fc1_gk_0 fc1_gk_1 fc1_gk_2 fc1_gk_3 fc1_gk_4 fc1_gk_5 fc1_gk_6 fc1_gk_7 fc1_gk_8; have hc2_gk_0 : w32.cell? ⟨gk, 0, none⟩ = some (.int .i64 x.f0.f0) := HR.out.cell 0 rfl 0 rfl; have hc2_gk_1 : w32.cell? ⟨gk, 1, none⟩ = some (.string x.f0.f1) := HR.out.cell 0 rfl 1 rfl; have hc2_gk_2 : w32.cell? ⟨gk, 2, none⟩ = some (.int .i64 x.f0.f2) := HR.out.cell 0 rfl 2 rfl; have hc2_gk_3 : w32.cell? ⟨gk, 3, none⟩ = some (.slice A3 x.f0.f3.length c3) := HR.out.cell 0 rfl 3 rfl; have hc2_gk_4 : w32.cell? ⟨gk, 4, none⟩ = some (.int .i64 x.f1.f0) := HR.out.cell 0 rfl 4 rfl; have hc2_gk_5 : w32.cell? ⟨gk, 5, none⟩ = some (.string x.f1.f1) := HR.out.cell 0 rfl 5 rfl; have hc2_gk_6 : w32.cell? ⟨gk, 6, none⟩ = some (.int .i64 x.f1.f2) := HR.out.cell 0 rfl 6 rfl; have hc2_gk_7 : w32.cell? ⟨gk, 7, none⟩ = some (.slice A7 x.f1.f3.length c7) := HR.out.cell 0 rfl 7 rfl; have hc2_gk_8 : w32.cell? ⟨gk, 8, none⟩ = some (.string x.f2) := HR.out.cell 0 rfl 8 rfl)
     | (go_at_call 13; refine (impl_PredOf.calls kp x.f0.f0 x.f0.f1 x.f0.f2 A3 c3 x.f0.f3 rp w32 (tab_at HTAB.out HR.out.bel) (Kd.C_below HI3.out HR.out.bel) HL3.out HPF.out).mono ?_; rintro e w33 ⟨rfl, hb⟩; have q_ := Aside0.mk (HR.out.step hb); clear HR; have HR := q_; clear q_; clear hb; clear hc2_gk_0 hc2_gk_1 hc2_gk_2 hc2_gk_3 hc2_gk_4 hc2_gk_5 hc2_gk_6 hc2_gk_7 hc2_gk_8))
    go_roundg (xs.length - (i + 1))
    case measure => have:=hi.out;omega
    case rel => exact ⟨i + 1,A_o,c_o,ys,by rw [next_i i _ hlt' HL.out],rfl,⟨by have:=hi.out;omega⟩,⟨by rw [HT.out,List.filter_append,← HYS.out,HFX.out,List.append_nil]⟩,⟨HR.out.pick [1] (by decide)⟩⟩
  ·have c3b0 : decide ((i : Int) < (xs.length : Int)) = false:=decide_eq_false hlt
   have c3b1 : decide (i < xs.length) = false:=decide_eq_false (by omega)
   have he : ys = (xs.filter (fun x => pd x == pred.toList)):=by rw [HYS.out,List.take_of_length_le (by omega)]
   have HE:=Aside0.mk he
   clear he
   go_wp2
   go_ret
   rw [← HE.out]
   exact ⟨_,_,rfl,As.mono _ (fun k hk => hk.elim False.elim id) (HR.out.one 0 rfl),HR.out.bel⟩
end
/-! #### rows of strings: marked, held -/
def mkS (mt : Int → ByteArray) : List ByteArray → Int → List ByteArray
 | [], _ => []
 | _ :: l, k => mt k :: mkS mt l (k + 1)
theorem mkS_length (mt : Int → ByteArray) : ∀ (l : List ByteArray) (k : Int),(mkS mt l k).length = l.length
 | [], _ => rfl
 | _ :: l, k => by rw [mkS, List.length_cons, List.length_cons, mkS_length mt l]
theorem mkS_append (mt : Int → ByteArray) : ∀ (l m : List ByteArray) (k : Int),mkS mt (l ++ m) k = mkS mt l k ++ mkS mt m (k + l.length)
 | [], m, k => by rw [mkS, List.nil_append, List.nil_append, List.length_nil]; congr 1; omega
 | _ :: l, m, k => by rw [List.cons_append, mkS, mkS, List.cons_append, mkS_append mt l m, List.length_cons]; congr 3; push_cast; omega
theorem mkS_set (mt : Int → ByteArray) (xs : List ByteArray) (k : Int) (i : Nat) (h : i < xs.length) : (mkS mt (xs.take i) k ++ xs.drop i).set i (mt (k + i)) = mkS mt (xs.take (i + 1)) k ++ xs.drop (i + 1):=by
 have hl : (mkS mt (xs.take i) k).length = i:=by rw [mkS_length,List.length_take];omega
 rw [List.set_append_right _ _ (by omega),hl,Nat.sub_self,List.drop_eq_getElem_cons h,List.set_cons_zero,List.take_succ_eq_append_getElem h,mkS_append,mkS,mkS,List.append_assoc,List.length_take,Nat.min_eq_left (by omega)]
 rfl
theorem mkS_get (mt : Int → ByteArray) : ∀ (l : List ByteArray) (k : Int) (i : Nat) (h : i < l.length),(mkS mt l k)[i]'(by rw [mkS_length];exact h) = mt (k + i)
 | _ :: l, k, 0, _ => by simp [mkS]
 | _ :: l, k, i + 1, h => by
  simp only [mkS,List.getElem_cons_succ]
  rw [mkS_get mt l _ i (by simpa using h)]
  congr 1
  push_cast;omega
section
set_option linter.unusedSectionVars false
variable [fk_laws_szTerm] [fk_laws_eqTerm] [fk_spec_l34Term] [fk_strconv_Itoa]
set_option maxHeartbeats 8000000 in
set_option maxRecDepth 100000 in
theorem markS_calls (mt : Int → ByteArray) (kt : Nat) (hmt : ∀ n : Int,0 < n → n ≤ 1000000000 → laws_markText.f kt n = some (mt n)) (xs : List ByteArray) (k : Int) (hk : 0 < k) (hx : k + (xs.length : Int) ≤ 1000000000) (A : Option Addr) (c : Nat) (w : World) (base : Nat) (ok : Nat → Prop) (hbs : base ≤ w.heap.size) (hR : Kd.R Kd.string 9 w base ok (.slice A xs.length c) xs) :
  Calls Tryd.prog 67 #[.slice A xs.length c,.int .i64 k] w fun e w' => e = .returned (.int .i64 (k + (xs.length : Int))) ∧ Kd.R Kd.string 9 w' base ok (.slice A xs.length c) (mkS mt xs k) ∧ Below base w w' ∧ Kept w w' ok:=by
 have HR:=Aside0.mk hR
 have HX:=Aside0.mk hx
 have HBS:=Aside0.mk hbs
 clear hR hx hbs
 go_enter Tryd.func67,Tryd.ntmps67
 go_wp2
 go_loopg [1,5] xs.length (fun m v1 v5 w' => ∃ i : Nat,v5 = .int .i64 i ∧ v1 = .int .i64 (k + (i : Int)) ∧ Aside0 (m + i = xs.length) ∧ Aside0 (Kd.R Kd.string 9 w' base ok (.slice A xs.length c) (mkS mt (xs.take i) k ++ xs.drop i)) ∧ Aside0 (Below base w w') ∧ Aside0 (Kept w w' ok))
 case atStart => exact ⟨0,rfl,by simp,⟨by omega⟩,⟨by simpa [mkS] using HR.out⟩,⟨Below.refl _ _⟩,⟨Kept.refl _ _⟩⟩
 case round =>
  clear HR
  obtain ⟨i,rfl,rfl,hi,HR,HB,HK⟩:=hrel
  by_cases hlt : (i : Int) < (xs.length : Int)
  ·have c3b0 : decide ((i : Int) < (xs.length : Int)) = true:=decide_eq_true hlt
   have hlt' : i < xs.length:=by omega
   have c3b1 : decide (i < xs.length) = true:=decide_eq_true hlt'
   have hlen : (mkS mt (xs.take i) k ++ xs.drop i).length = xs.length:=by rw [List.length_append,mkS_length,List.length_take,List.length_drop];omega
   obtain ⟨g,hA,hgb⟩ : ∃ g,A = some ⟨g,0,none⟩ ∧ base ≤ g:=by
    obtain ⟨g,cap,e,hb,_⟩:=Kd.R_form HR.out (by omega)
    injection e with e1
    exact ⟨g,e1,hb⟩
   subst hA
   have HG:=Aside0.mk hgb
   have HT:=Aside0.mk (hmt (k + (i : Int)) (by omega) (by have:=HX.out;omega))
   have HS:=Aside0.mk (mkS_set mt xs k i hlt')
   clear hgb hlen
   go_wp2_with (first
    | (go_at_call 68; refine (laws_markText.calls kt (k + (i : Int)) (mt (k + (i : Int))) _ HT.out).mono ?_; rintro e w6 ⟨rfl, hb⟩; have n0_ := Aside0.mk (Kd.R_below HR.out hb); have n1_ := Aside0.mk (below_then HB.out (Nat.le_trans HBS.out HK.out.1) hb); have n2_ := Aside0.mk (HK.out.below hb); clear HR HB HK hb; have HR := n0_; have HB := n1_; have HK := n2_; clear n0_ n1_ n2_; have hcn := Kd.R_celln ByteArray.empty HR.out (i : Int) (by omega) hlt; rw [Int.toNat_natCast] at hcn; have hx0 := hcn.1; have hf0 := hcn.2; have HP := Aside0.mk (Kd.R_putg HR.out (i : Int) (mt (k + (i : Int)))); rw [Int.toNat_natCast, HS.out] at HP; clear hcn)
    | ((with_reducible refine gate_store (t := 9) (p := 16) rfl ?_); refine store_event (t := 9) (p := 16) (v := ?vo) (w1 := (w6.setCell ⟨g, i, none⟩ (.string (mt (k + (i : Int)))))) ?hg ?ho ?hn ?hr ?_; (case ho => rfl); (case hg => rfl); (case hn => rfl); (case hr => first | (go_simp; done) | (go_simp; rfl)); intro w8 hw; subst hw))
   go_roundg (xs.length - (i + 1))
   case measure => have:=hi.out;omega
   case rel => exact ⟨i + 1,by rw [show wrap64 ((i : Int) + 1) = ((i + 1 : Nat) : Int) by rw [t_wrap (by omega) (by have:=HX.out;omega)];omega],by rw [t_wrap (by omega) (by have:=HX.out;omega)];congr 1;push_cast;omega,⟨by have:=hi.out;omega⟩,⟨HP.out.1⟩,⟨HB.out.setCell HG.out _⟩,⟨Kept.of_grown HP.out.2 HK.out (fun k_ e_ => .inl (HR.out.1 k_ e_))⟩⟩
  ·have c3b0 : decide ((i : Int) < (xs.length : Int)) = false:=decide_eq_false hlt
   have c3b1 : decide (i < xs.length) = false:=decide_eq_false (by omega)
   have hie : i = xs.length:=by have:=hi.out;omega
   subst hie
   have HZ:=HR.out
   rw [List.take_length,List.drop_length,List.append_nil] at HZ
   have HY:=Aside0.mk HZ
   clear HZ
   go_wp2
   go_ret
   exact ⟨rfl,HY.out,HB.out,HK.out⟩
end
/-! #### clauses: what a mark leaves -/
def cn59 (x : S48) : Nat:=3 * cn29 x.f0 + 3 * cn29 x.f1 + 1
def cns59 : List S48 → Nat
 | [] => 0
 | x :: xs => cn59 x + cns59 xs
def mk59 (mt : Int → ByteArray) (x : S48) (k : Int) : S48:=⟨mk29 mt x.f0 k,mk29 mt x.f1 (k + 3 * (cn29 x.f0 : Int)),mt (k + 3 * (cn29 x.f0 : Int) + 3 * (cn29 x.f1 : Int))⟩
def mks59 (mt : Int → ByteArray) : List S48 → Int → List S48
 | [], _ => []
 | x :: xs, k => mk59 mt x k :: mks59 mt xs (k + (cn59 x : Int))
theorem mks59_length (mt : Int → ByteArray) : ∀ (ts : List S48) (k : Int),(mks59 mt ts k).length = ts.length
 | [], _ => by rw [mks59]
 | t :: ts, k => by rw [mks59, List.length_cons, List.length_cons, mks59_length mt ts]
theorem mks59_append (mt : Int → ByteArray) : ∀ (ts us : List S48) (k : Int),mks59 mt (ts ++ us) k = mks59 mt ts k ++ mks59 mt us (k + (cns59 ts : Int))
 | [], us, k => by rw [mks59, cns59, List.nil_append, List.nil_append]; simp
 | t :: ts, us, k => by
  rw [List.cons_append,mks59,mks59,cns59,List.cons_append,mks59_append mt ts us]
  congr 3
  push_cast
  omega
theorem cns59_append : ∀ (ts us : List S48),cns59 (ts ++ us) = cns59 ts + cns59 us
 | [], us => by rw [List.nil_append, cns59]; omega
 | t :: ts, us => by rw [List.cons_append, cns59, cns59, cns59_append ts us]; omega
theorem cns59_take (xs : List S48) (i : Nat) (h : i < xs.length) : cns59 (xs.take (i + 1)) = cns59 (xs.take i) + cn59 xs[i]:=by
 rw [List.take_succ_eq_append_getElem h,cns59_append,cns59,cns59];omega
theorem cns59_take_le (xs : List S48) (i : Nat) : cns59 (xs.take i) ≤ cns59 xs:=by
 have:=cns59_append (xs.take i) (xs.drop i)
 rw [List.take_append_drop] at this
 omega
theorem mks59_set (mt : Int → ByteArray) (xs : List S48) (k : Int) (i : Nat) (h : i < xs.length) : (mks59 mt (xs.take i) k ++ xs.drop i).set i (mk59 mt xs[i] (k + (cns59 (xs.take i) : Int))) = mks59 mt (xs.take (i + 1)) k ++ xs.drop (i + 1):=by
 have hl : (mks59 mt (xs.take i) k).length = i:=by rw [mks59_length,List.length_take];omega
 rw [List.set_append_right _ _ (by omega),hl,Nat.sub_self,List.drop_eq_getElem_cons h,List.set_cons_zero,List.take_succ_eq_append_getElem h,mks59_append,mks59,mks59,List.append_assoc]
 rfl
theorem mks59_get (mt : Int → ByteArray) : ∀ (xs : List S48) (k : Int) (i : Nat) (h : i < xs.length),(mks59 mt xs k)[i]'(by rw [mks59_length];exact h) = mk59 mt xs[i] (k + (cns59 (xs.take i) : Int))
 | t :: ts, k, 0, _ => by simp only [mks59, List.getElem_cons_zero, List.take_zero, cns59]; congr 1; omega
 | t :: ts, k, i + 1, h => by
  simp only [mks59,List.getElem_cons_succ,List.take_succ_cons,cns59]
  rw [mks59_get mt ts _ i (by simpa using h)]
  congr 1
  push_cast
  omega
theorem cns59_mem {ts : List S48} {t : S48} (h : t ∈ ts) : cn59 t ≤ cns59 ts:=by
 induction ts with
 | nil => simp at h
 | cons a l ih =>
  rw [cns59]
  rcases List.mem_cons.1 h with rfl|h
  ·omega
  ·have:=ih h;omega
theorem cns59_len (ts : List S48) : ts.length ≤ cns59 ts:=by
 induction ts with
 | nil => simp
 | cons a l ih => rw [cns59, List.length_cons]; unfold cn59; omega
/-! #### one clause of a row is being marked -/
structure MC (base : Nat) (ok : Nat → Prop) (g n cap : Nat) (xs : List S48) (i : Nat) (oki ok3 ok7 : Nat → Prop) (A3 : Option Addr) (c3 : Nat) (ks : List S29) (A7 : Option Addr) (c7 : Nat) (js : List S29) (w W : World) (c : List Value) : Prop where
 hi : i < n
 hH : Kd.H kD59 48 W base ok (.slice (some ⟨g,0,none⟩) n cap) xs (i : Int) oki c
 h3 : Kd.S kD29 29 W base ok3 (.slice A3 ks.length c3) ks
 h7 : Kd.S kD29 29 W base ok7 (.slice A7 js.length c7) js
 s3 : ∀ k,ok3 k → oki k
 s7 : ∀ k,ok7 k → oki k
 ap : ∀ k,ok3 k → ¬ ok7 k
 hg : ∀ k,oki k → k ≠ g
 hok : ok g
 hb : base ≤ g
 hl : c.length = 9
 below : Below base w W
 hbs : base ≤ W.heap.size
 kept : Kept w W ok
section
variable {base : Nat} {ok : Nat → Prop} {g n cap : Nat} {xs : List S48} {i : Nat} {oki ok3 ok7 : Nat → Prop} {A3 : Option Addr} {c3 : Nat} {ks : List S29} {A7 : Option Addr} {c7 : Nat} {js : List S29} {w W W1 : World} {c : List Value}
theorem MC.at_ (h : MC base ok g n cap xs i oki ok3 ok7 A3 c3 ks A7 c7 js w W c) : (∀ j u,c[j]? = some u → W.cell? ⟨g,i * 9 + j,none⟩ = some u) ∧ ∀ j,W.frozen? ⟨g,i * 9 + j,none⟩ = false:=by
 have hi:=h.hi
 obtain ⟨h1,h2⟩:=Kd.H_at h.hH (by omega) (by omega)
 rw [Int.toNat_natCast] at h1 h2
 exact ⟨h1,h2⟩
theorem MC.put (h : MC base ok g n cap xs i oki ok3 ok7 A3 c3 ks A7 c7 js w W c) (j : Nat) (v : Value) (c' : List Value) (hc' : c.take j ++ [v] ++ c.drop (j + 1) = c') (hj : j < 9) (h1 : v.oneCell' = true) :
  MC base ok g n cap xs i oki ok3 ok7 A3 c3 ks A7 c7 js w (W.setCell ⟨g,i * 9 + j,none⟩ v) c':=by
 subst hc'
 have hi:=h.hi
 have hl:=h.hl
 obtain ⟨h2,h3⟩:=Kd.H_seg h.hH (by omega) (by omega) (seg:=[v]) (j:=j) (show j + 1 ≤ 9 by omega) (fun q hq => by rw [List.mem_singleton.1 hq];exact h1)
 rw [Int.toNat_natCast] at h2
 exact ⟨hi,h2,Kd.S_far h.h3 (p:=⟨g,i * 9 + j,none⟩) (fun k hk => h.hg k (h.s3 k hk)) v,Kd.S_far h.h7 (p:=⟨g,i * 9 + j,none⟩) (fun k hk => h.hg k (h.s7 k hk)) v,h.s3,h.s7,h.ap,h.hg,h.hok,h.hb,by simp only [List.length_append,List.length_take,List.length_drop,List.length_singleton];omega,
  h.below.setCell h.hb _,by have:=h.hbs;simpa [World.setCell] using this,Kept.setCell h.kept (.inl h.hok) _⟩
theorem MC.step (h : MC base ok g n cap xs i oki ok3 ok7 A3 c3 ks A7 c7 js w W c) (hb : Below W.heap.size W W1) : MC base ok g n cap xs i oki ok3 ok7 A3 c3 ks A7 c7 js w W1 c :=
 ⟨h.hi,Kd.H_below h.hH hb,Kd.S_below h.h3 hb,Kd.S_below h.h7 hb,h.s3,h.s7,h.ap,h.hg,h.hok,h.hb,h.hl,below_then h.below h.hbs hb,Nat.le_trans h.hbs hb.size,h.kept.below hb⟩
theorem MC.mark3 (h : MC base ok g n cap xs i oki ok3 ok7 A3 c3 ks A7 c7 js w W c) (hB : Below base W W1) {ks' : List S29} (e : ks'.length = ks.length) (hS : Kd.S kD29 29 W1 base ok3 (.slice A3 ks.length c3) ks') (hk : Kept W W1 ok3) : MC base ok g n cap xs i oki ok3 ok7 A3 c3 ks' A7 c7 js w W1 c:=by
 have hH:=Kd.H_kept h.hH hk (fun k _ hn h2 => hn (h.s3 k h2))
 exact ⟨h.hi,hH,by rw [e];exact hS,Kd.S_kept h.h7 hk (fun k h2 h3 => h.ap k h3 h2),h.s3,h.s7,h.ap,h.hg,h.hok,h.hb,h.hl,h.below.trans hB,Nat.le_trans h.hbs hk.1,h.kept.then_ hk (fun k hk2 => .inl (h.hH.1 k (h.s3 k hk2)))⟩
theorem MC.mark7 (h : MC base ok g n cap xs i oki ok3 ok7 A3 c3 ks A7 c7 js w W c) (hB : Below base W W1) {js' : List S29} (e : js'.length = js.length) (hS : Kd.S kD29 29 W1 base ok7 (.slice A7 js.length c7) js') (hk : Kept W W1 ok7) : MC base ok g n cap xs i oki ok3 ok7 A3 c3 ks A7 c7 js' w W1 c:=by
 have hH:=Kd.H_kept h.hH hk (fun k _ hn h2 => hn (h.s7 k h2))
 exact ⟨h.hi,hH,Kd.S_kept h.h3 hk (fun k h2 h3 => h.ap k h2 h3),by rw [e];exact hS,h.s3,h.s7,h.ap,h.hg,h.hok,h.hb,h.hl,h.below.trans hB,Nat.le_trans h.hbs hk.1,h.kept.then_ hk (fun k hk2 => .inl (h.hH.1 k (h.s7 k hk2)))⟩
theorem MC.done (h : MC base ok g n cap xs i oki ok3 ok7 A3 c3 ks A7 c7 js w W c) {x : S48} (hks : x.f0.f3 = ks) (hjs : x.f1.f3 = js) (hc : c = [.int .i64 x.f0.f0,.string x.f0.f1,.int .i64 x.f0.f2,.slice A3 ks.length c3,.int .i64 x.f1.f0,.string x.f1.f1,.int .i64 x.f1.f2,.slice A7 js.length c7,.string x.f2]) :
  Kd.S kD59 48 W base ok (.slice (some ⟨g,0,none⟩) n cap) (xs.set i x):=by
 subst hc
 have:=Kd.H_back h.hH (x':=x) (okp:=oki) (kD59_mkM W base oki (fun k => ok3 k) x (by rw [hks];exact Kd.S_mono h.h3 (fun k hk => ⟨h.s3 k hk,hk⟩)) (by rw [hjs];exact Kd.S_mono h.h7 (fun k hk => ⟨h.s7 k hk,fun h2 => h.ap k h2 hk⟩))) (fun _ hk => hk)
 rw [Int.toNat_natCast] at this
 exact this
end
theorem mc_new {base : Nat} {ok : Nat → Prop} {g n cap : Nat} {xs : List S48} {i : Nat} {w W : World} (hS : Kd.S kD59 48 W base ok (.slice (some ⟨g,0,none⟩) n cap) xs) (hi : i < n) (hB : Below base w W) (hk : Kept w W ok) (hbs : base ≤ W.heap.size) (x : S48) (hx : xs.getD i z48 = x) :
  ∃ (oki ok3 ok7 : Nat → Prop) (A3 : Option Addr) (c3 : Nat) (A7 : Option Addr) (c7 : Nat),MC base ok g n cap xs i oki ok3 ok7 A3 c3 x.f0.f3 A7 c7 x.f1.f3 w W [.int .i64 x.f0.f0,.string x.f0.f1,.int .i64 x.f0.f2,.slice A3 x.f0.f3.length c3,.int .i64 x.f1.f0,.string x.f1.f1,.int .i64 x.f1.f2,.slice A7 x.f1.f3.length c7,.string x.f2]:=by
 obtain ⟨oki,ce,hcl,hM,hcc,hfr,hoki,hH⟩:=Kd.S_elem hS z48 (i : Int) (by omega) (by omega)
 rw [Int.toNat_natCast,hx] at hM
 obtain ⟨p,v3,v7,rfl,hK3,hK7⟩:=kD59_openM hM
 obtain ⟨A3,c3,rfl⟩:=Kd.S_slice hK3
 obtain ⟨A7,c7,rfl⟩:=Kd.S_slice hK7
 have hR:=Kd.S_R hS
 exact ⟨oki,_,_,A3,c3,A7,c7,hi,hH,hK3,hK7,fun k hk => hk.1,fun k hk => hk.1,fun k hk h2 => h2.2 hk.2,fun k hk => (hoki k hk).2,hR.1 g (by simp [Value.ownBlock]),Kd.S_base hS g (by simp [Value.ownBlock]),hcl,hB,hbs,hk⟩
end Go.Proofs.YtojedbogbodkiaaDoor.KCs
