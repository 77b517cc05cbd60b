/- An interpreter for Go's texts over plain data, and its proof: what it answers is what the model does. My own work. -/
import Derived.Tactics
import Derived.Orders
import Derived.Below
import Derived.Laws.CopyRow
import Derived.Laws.Cells
namespace Vm
section
open Go
set_option linter.unusedSimpArgs false

/-- Pure data, one cell each: a scalar; a slice (tag 0: read only, 1: own, 2: lent) with what is seen of it and what is known behind; a pointer to cells; a function value. -/
inductive D where
  | v (x : Value)
  | s (t z : Nat) (rows spare : List (List D))
  | p (t : Nat) (cells : List D) (off : Nat)
  | f (fn : FuncId) (first caps : List D)
  deriving Inhabited

/-- A value without an address, of one cell. -/
def plain : Value → Bool
  | .bool _ | .int _ _ | .float _ _ | .complex _ _ _ | .string _ | .pointer none | .slice none 0 0 | .nilFunc | .nilIface | .map none | .chan none => true
  | _ => false

/-- v reads as d in w, all blocks met being of G. -/
inductive DR (w : World) (G : Nat → Prop) : Value → D → Prop
  | v (x : Value) : plain x = true → DR w G x (.v x)
  | e (a : Option Addr) (t z cap : Nat) : DR w G (.slice a 0 cap) (.s t z [] [])
  | s (t : Nat) (rows spare : List (List D)) (b off cap sz : Nat) (vs : Nat → Nat → Value) : G b → (∀ r ∈ rows ++ spare, r.length = sz) → rows.length + spare.length ≤ cap →
      (∀ i j, i < rows.length + spare.length → j < sz → w.cell? ⟨b, off + (i * sz + j), none⟩ = some (vs i j)) →
      (∀ i j r d, (rows ++ spare)[i]? = some r → r[j]? = some d → DR w G (vs i j) d) →
      DR w G (.slice (some ⟨b, off, none⟩) rows.length cap) (.s t sz rows spare)
  | p (t : Nat) (cells : List D) (b o off : Nat) (vs : Nat → Value) : G b → (∀ j, j < cells.length → w.cell? ⟨b, o + j, none⟩ = some (vs j)) →
      (∀ j d, cells[j]? = some d → DR w G (vs j) d) → DR w G (.pointer (some ⟨b, o + off, none⟩)) (.p t cells off)
  | f (fn : FuncId) (first caps : List D) (fv cv : Array Value) : fv.size = first.length → cv.size = caps.length →
      (∀ i d, first[i]? = some d → DR w G (fv.getD i undef) d) → (∀ i d, caps[i]? = some d → DR w G (cv.getD i undef) d) →
      DR w G (.func (.func fn) fv cv) (.f fn first caps)

/-- The blocks of G are in w' as in w. -/
def Same (G : Nat → Prop) (w w' : World) : Prop := ∀ b, G b → w'.heap[b]? = w.heap[b]?

theorem Same.refl (G : Nat → Prop) (w : World) : Same G w w := fun _ _ => rfl
theorem Same.trans {G : Nat → Prop} {w w' w'' : World} (h : Same G w w') (h' : Same G w' w'') : Same G w w'' := fun b hb => (h' b hb).trans (h b hb)
theorem Same.mono {G G' : Nat → Prop} {w w' : World} (h : Same G w w') (hg : ∀ b, G' b → G b) : Same G' w w' := fun b hb => h b (hg b hb)

theorem cell_of_block {w w' : World} {a : Addr} (h : w'.heap[a.block]? = w.heap[a.block]?) : w'.cell? a = w.cell? a := by
  simp only [World.cell?, h]

theorem DR.mono {w w' : World} {G G' : Nat → Prop} (hg : ∀ b, G b → G' b) (hs : Same G w w') {v : Value} {d : D} (h : DR w G v d) : DR w' G' v d := by
  induction h with
  | v x hx => exact .v x hx
  | e a t z cap => exact .e a t z cap
  | s t rows spare b off cap sz vs hb hr hl hc _ ih =>
    exact .s t rows spare b off cap sz vs (hg b hb) hr hl (fun i j hi hj => by rw [cell_of_block (hs b hb)]; exact hc i j hi hj) ih
  | p t cells b o off vs hb hc _ ih =>
    exact .p t cells b o off vs (hg b hb) (fun j hj => by rw [cell_of_block (hs b hb)]; exact hc j hj) ih
  | f fn first caps fv cv h1 h2 _ _ ih1 ih2 => exact .f fn first caps fv cv h1 h2 ih1 ih2

/-- v is d in w: what is own of it lies in S alone, and nothing else leads there; the rest is read, in G. -/
inductive OD (w : World) (G : Nat → Prop) : Value → D → (Nat → Prop) → Prop
  | r (v : Value) (d : D) (S : Nat → Prop) : (∀ z rows spare, d ≠ .s 1 z rows spare) → DR w G v d → OD w G v d S
  | n (a : Option Addr) (z : Nat) (S : Nat → Prop) : OD w G (.slice a 0 0) (.s 1 z [] []) S
  | s (rows spare : List (List D)) (b cap sz : Nat) (arr : Array Value) (E : TypeId) (S : Nat → Prop) (sub : Nat → Nat → Nat → Prop) : S b → w.heap[b]? = some (.cells arr E (0, 0)) →
      (∀ r ∈ rows ++ spare, r.length = sz) → rows.length + spare.length ≤ cap → cap * sz ≤ arr.size →
      (∀ i j r d, (rows ++ spare)[i]? = some r → r[j]? = some d → OD w G (arr.getD (i * sz + j) undef) d (sub i j)) →
      (∀ i j c, sub i j c → S c ∧ c ≠ b) → (∀ i j i' j' c, sub i j c → sub i' j' c → i = i' ∧ j = j') →
      OD w G (.slice (some ⟨b, 0, none⟩) rows.length cap) (.s 1 sz rows spare) S

theorem OD.mono {w w' : World} {G G' : Nat → Prop} (hg : ∀ b, G b → G' b) (hs : Same G w w') {v : Value} {d : D} {S : Nat → Prop} (h : OD w G v d S) :
    Same S w w' → OD w' G' v d S := by
  induction h with
  | r v d S hd h => exact fun _ => .r v d S hd (h.mono hg hs)
  | n a z S => exact fun _ => .n a z S
  | s rows spare b cap sz arr E S sub hb ha hr hl hc _ hsub hdis ih =>
    intro hS
    exact .s rows spare b cap sz arr E S sub hb (by rw [hS b hb]; exact ha) hr hl hc
      (fun i j r d h1 h2 => ih i j r d h1 h2 (hS.mono fun c hc => (hsub i j c hc).1)) hsub hdis

theorem OD.wider {w : World} {G : Nat → Prop} {v : Value} {d : D} {S S' : Nat → Prop} (h : OD w G v d S) (hS : ∀ b, S b → S' b) : OD w G v d S' := by
  cases h with
  | r v d S hd h => exact .r v d S' hd h
  | n a z S => exact .n a z S'
  | s rows spare b cap sz arr E S sub hb ha hr hl hc hn hsub hdis =>
    exact .s rows spare b cap sz arr E S' sub (hS b hb) ha hr hl hc hn (fun i j c h => ⟨hS c (hsub i j c h).1, (hsub i j c h).2⟩) hdis

theorem row_lt {i j n sz : Nat} (hi : i < n) (hj : j < sz) : i * sz + j < n * sz := by
  have : (i + 1) * sz ≤ n * sz := Nat.mul_le_mul_right sz hi
  have : (i + 1) * sz = i * sz + sz := by rw [Nat.succ_mul]
  omega

/-- What is own can be read. -/
theorem OD.read {w : World} {G G' : Nat → Prop} {v : Value} {d : D} {S : Nat → Prop} (h : OD w G v d S) (hg : ∀ b, G b → G' b) : (∀ b, S b → G' b) → DR w G' v d := by
  induction h with
  | r v d S hd h => exact fun _ => h.mono hg (Same.refl _ _)
  | n a z S => exact fun _ => .e _ _ _ _
  | s rows spare b cap sz arr E S sub hb ha hr hl hc _ hsub hdis ih =>
    intro hS
    refine .s 1 rows spare b 0 cap sz (fun i j => arr.getD (i * sz + j) undef) (hS b hb) hr hl (fun i j hi hj => ?_) (fun i j r d h1 h2 => ih i j r d h1 h2 fun c hc => hS c (hsub i j c hc).1)
    have hlt : i * sz + j < arr.size := Nat.lt_of_lt_of_le (row_lt (by omega : i < cap) hj) hc
    simp [World.cell?, ha, hlt]

mutual
/-- All tags 0: read only. -/
def D.ro : D → D
  | .v x => .v x
  | .s _ z rows spare => .s 0 z (roLL rows) (roLL spare)
  | .p _ cells off => .p 0 (roL cells) off
  | .f fn first caps => .f fn (roL first) (roL caps)
def roL : List D → List D
  | [] => []
  | d :: l => D.ro d :: roL l
def roLL : List (List D) → List (List D)
  | [] => []
  | r :: l => roL r :: roLL l
end
theorem roL_map : ∀ l : List D, roL l = l.map D.ro
  | [] => by simp [roL]
  | d :: l => by simp [roL, roL_map l]
theorem roLL_map : ∀ l : List (List D), roLL l = l.map fun r => r.map D.ro
  | [] => by simp [roLL]
  | d :: l => by simp [roLL, roLL_map l, roL_map]

theorem DR.ro {w : World} {G : Nat → Prop} {v : Value} {d : D} (h : DR w G v d) : DR w G v d.ro := by
  induction h with
  | v x hx => simp only [D.ro]; exact .v x hx
  | e a t z cap => simp only [D.ro, roLL]; exact .e a 0 z cap
  | s t rows spare b off cap sz vs hb hr hl hc _ ih =>
    simp only [D.ro, roL_map, roLL_map]
    have hlen : rows.length = (rows.map fun r => r.map D.ro).length := by simp
    rw [hlen]
    refine .s 0 _ _ b off cap sz vs hb ?_ (by simpa using hl) (by simpa using hc) ?_
    · rw [← List.map_append]
      intro r hm
      obtain ⟨r0, h0, rfl⟩ := List.mem_map.1 hm
      simpa using hr r0 h0
    · rw [← List.map_append]
      intro i j r d h1 h2
      rw [List.getElem?_map] at h1
      obtain ⟨r0, h0, rfl⟩ := Option.map_eq_some_iff.1 h1
      rw [List.getElem?_map] at h2
      obtain ⟨d0, hd0, rfl⟩ := Option.map_eq_some_iff.1 h2
      exact ih i j r0 d0 h0 hd0
  | p t cells b o off vs hb hc _ ih =>
    simp only [D.ro, roL_map, roLL_map]
    refine .p 0 _ b o off vs hb (by simpa using hc) ?_
    intro j d h1
    rw [List.getElem?_map] at h1
    obtain ⟨d0, hd0, rfl⟩ := Option.map_eq_some_iff.1 h1
    exact ih j d0 hd0
  | f fn first caps fv cv h1 h2 _ _ ih1 ih2 =>
    simp only [D.ro, roL_map, roLL_map]
    refine .f fn _ _ fv cv (by simpa using h1) (by simpa using h2) ?_ ?_
    · intro i d h
      rw [List.getElem?_map] at h
      obtain ⟨d0, hd0, rfl⟩ := Option.map_eq_some_iff.1 h
      exact ih1 i d0 hd0
    · intro i d h
      rw [List.getElem?_map] at h
      obtain ⟨d0, hd0, rfl⟩ := Option.map_eq_some_iff.1 h
      exact ih2 i d0 hd0
end

section
open Go
set_option linter.unusedSimpArgs false

/-- A cell of an activation: data; a slice over a row of its own; a pointer into memory of its own; a function value that holds such; nothing that is known. -/
inductive C where
  | d (x : D)
  | rs (k g wd lo len kn : Nat)
  | rp (k g wd i j : Nat)
  | cf (fn : FuncId) (first caps : List C)
  | non
  deriving Inhabited
inductive A where
  | dead
  | c (x : C)
  | agg (xs : List C)
  | tup (xs : List A)
  | bb (q : Bool)
  | rx (k g wd lo len cap : Nat)
  deriving Inhabited

structure Root where
  tag : Nat
  box : Bool
  wd : Nat
  rows : List (List C)

structure St where
  n : Nat
  lvl : Nat
  tmps : Nat → A
  store : Nat → Option Root
  gen : Nat → Nat

structure Gh where
  β : Nat → Nat → Option Nat
  F : Nat → Prop
  FP : Nat → Nat → Nat → Nat → Prop
  gen : Nat → Nat
  F0 : Nat → Prop

def Gh.G (γ : Gh) (b : Nat) : Prop := γ.F b ∨ ∃ k i j, γ.FP k i j b

/-- Read only at its head: then all of it lies in what never turns. -/
def D.top0 : D → Bool
  | .v _ => true
  | .s t _ _ _ => t == 0
  | .p t _ _ => t == 0
  | .f _ _ _ => true

def Gh.at (γ : Gh) (b : Bool) : Nat → Prop := if b then γ.F else γ.G

theorem Gh.at_G (γ : Gh) (b : Bool) (c : Nat) (h : γ.at b c) : γ.G c := by
  cases b
  · exact h
  · exact .inl h

inductive CR (γ : Gh) (w : World) : Value → C → Prop
  | d (v : Value) (x : D) : DR w (γ.at x.top0) v x → CR γ w v (.d x)
  | rs (k g wd lo len kn cap b : Nat) (E : TypeId) (n : Nat) : g ≤ γ.gen k → γ.β k g = some b → w.shape? b = some (E, n) → (lo + cap) * wd ≤ n → len ≤ cap → kn ≤ cap →
      CR γ w (.slice (some ⟨b, lo * wd, none⟩) len cap) (.rs k g wd lo len kn)
  | rn (a : Option Addr) (k g wd : Nat) : g ≤ γ.gen k → γ.β k g = none → CR γ w (.slice a 0 0) (.rs k g wd 0 0 0)
  | rp (k g wd i j b : Nat) : g ≤ γ.gen k → γ.β k g = some b → CR γ w (.pointer (some ⟨b, i * wd + j, none⟩)) (.rp k g wd i j)
  | cf (fn : FuncId) (first caps : List C) (fv cv : Array Value) : fv.size = first.length → cv.size = caps.length →
      (∀ i c, first[i]? = some c → CR γ w (fv.getD i undef) c) → (∀ i c, caps[i]? = some c → CR γ w (cv.getD i undef) c) →
      CR γ w (.func (.func fn) fv cv) (.cf fn first caps)
  | non (v : Value) : CR γ w v .non

inductive AR (γ : Gh) (w : World) : Value → A → Prop
  | dead (v : Value) : AR γ w v .dead
  | c (v : Value) (x : C) : CR γ w v x → AR γ w v (.c x)
  | agg (vs : Array Value) (xs : List C) : vs.size = xs.length → (∀ i c, xs[i]? = some c → CR γ w (vs.getD i undef) c) → AR γ w (.agg vs) (.agg xs)
  | tup (vs : Array Value) (xs : List A) : vs.size = xs.length → (∀ i c, xs[i]? = some c → AR γ w (vs.getD i undef) c) → AR γ w (.tuple vs) (.tup xs)
  | bb (b q : Bool) : (b = true → q = true) → AR γ w (.bool b) (.bb q)
  | rx (k g wd lo len cap b : Nat) (E : TypeId) (n : Nat) : g ≤ γ.gen k → γ.β k g = some b → w.shape? b = some (E, n) → (lo + cap) * wd ≤ n → len ≤ cap → AR γ w (.slice (some ⟨b, lo * wd, none⟩) len cap) (.rx k g wd lo len cap)

/-- What stands in a cell of a root. -/
def SR (γ : Gh) (w : World) (v : Value) (c : C) (S : Nat → Prop) : Prop :=
  match c with
  | .d (.s 1 z rows spare) => OD w γ.F v (.s 1 z rows spare) S
  | c => CR γ w v c

def RootOK (γ : Gh) (w : World) (k : Nat) (R : Root) : Prop :=
  match γ.β k R.tag with
  | none => R.rows = []
  | some b => ∃ arr E, w.heap[b]? = some (.cells arr E (0, 0)) ∧ (∀ r ∈ R.rows, r.length = R.wd) ∧ R.rows.length * R.wd ≤ arr.size ∧
      ∀ i j r c, R.rows[i]? = some r → r[j]? = some c → SR γ w (arr.getD (i * R.wd + j) undef) c (γ.FP k i j)

def Shapes (w w' : World) : Prop := ∀ b s, w.shape? b = some s → w'.shape? b = some s
theorem Shapes.refl (w : World) : Shapes w w := fun _ _ h => h
/-- What an activation may turn: its own blocks; all else is as at its beginning. -/
structure Env (w0 : World) (own : Nat → Prop) (w : World) : Prop where
  os : w.os = w0.os
  tape : w.tape = w0.tape
  output : w.output = w0.output
  size : w0.heap.size ≤ w.heap.size
  block : ∀ b, b < w0.heap.size → ¬ own b → w.heap[b]? = w0.heap[b]?
  shapes : Shapes w0 w

structure Rel (w0 : World) (own : Nat → Prop) (γ : Gh) (st : St) (a : Act) (w : World) : Prop where
  env : Env w0 own w
  size : a.tmps.size = st.n
  defers : a.defers = []
  tmps : ∀ i, AR γ w (a.tmps.getD i undef) (st.tmps i)
  gen : γ.gen = st.gen
  tag : ∀ k R, st.store k = some R → R.tag ≤ st.gen k
  mem : ∀ k R, st.store k = some R → RootOK γ w k R
  inj : ∀ k R k' R' b, st.store k = some R → st.store k' = some R' → γ.β k R.tag = some b → γ.β k' R'.tag = some b → k = k'
  rootF : ∀ k R b, st.store k = some R → γ.β k R.tag = some b → ¬ γ.F b ∧ (∀ k' i j, ¬ γ.FP k' i j b) ∧ (own b ∨ w0.heap.size ≤ b)
  fpF : ∀ k i j b, γ.FP k i j b → ¬ γ.F b ∧ (own b ∨ w0.heap.size ≤ b)
  fpD : ∀ k i j k' i' j' b, γ.FP k i j b → γ.FP k' i' j' b → k = k' ∧ i = i' ∧ j = j'
  fs : ∀ b, γ.F b → γ.F0 b ∨ own b ∨ w0.heap.size ≤ b
  lt : ∀ b, γ.G b → b < w.heap.size
  ltβ : ∀ k g b, g ≤ γ.gen k → γ.β k g = some b → b < w.heap.size

/-! ### Going on -/
structure Gh.le (γ γ' : Gh) : Prop where
  gen : ∀ k, γ.gen k ≤ γ'.gen k
  β : ∀ k g, g ≤ γ.gen k → γ'.β k g = γ.β k g
  F : ∀ b, γ.F b → γ'.F b
  G : ∀ b, γ.G b → γ'.G b
  F0 : γ'.F0 = γ.F0
theorem Gh.le_refl (γ : Gh) : γ.le γ := ⟨fun _ => Nat.le_refl _, fun _ _ _ => rfl, fun _ h => h, fun _ h => h, rfl⟩
theorem Gh.le_trans {γ γ' γ'' : Gh} (h : γ.le γ') (h' : γ'.le γ'') : γ.le γ'' :=
  ⟨fun k => Nat.le_trans (h.gen k) (h'.gen k), fun k g hg => (h'.β k g (Nat.le_trans hg (h.gen k))).trans (h.β k g hg), fun b hb => h'.F b (h.F b hb), fun b hb => h'.G b (h.G b hb), h'.F0.trans h.F0⟩
theorem Gh.le.at {γ γ' : Gh} (h : γ.le γ') (t : Bool) : ∀ b, γ.at t b → γ'.at t b := by
  cases t
  · exact h.G
  · exact h.F


theorem Same.at {γ : Gh} {w w' : World} (h : Same γ.G w w') (t : Bool) : Same (γ.at t) w w' := h.mono (γ.at_G t)

theorem CR.mono {γ γ' : Gh} {w w' : World} (hg : γ.le γ') (hs : Same γ.G w w') (hz : Shapes w w') {v : Value} {c : C} (h : CR γ w v c) : CR γ' w' v c := by
  induction h with
  | d v x h => exact .d v x (h.mono (hg.at _) (hs.at _))
  | rs k g wd lo len kn cap b E n h1 h2 h3 h4 h5 h6 => exact .rs k g wd lo len kn cap b E n (Nat.le_trans h1 (hg.gen k)) ((hg.β k g h1).trans h2) (hz _ _ h3) h4 h5 h6
  | rn a k g wd h1 h2 => exact .rn a k g wd (Nat.le_trans h1 (hg.gen k)) ((hg.β k g h1).trans h2)
  | rp k g wd i j b h1 h2 => exact .rp k g wd i j b (Nat.le_trans h1 (hg.gen k)) ((hg.β k g h1).trans h2)
  | cf fn first caps fv cv h1 h2 _ _ i1 i2 => exact .cf fn first caps fv cv h1 h2 i1 i2
  | non v => exact .non v

theorem AR.mono {γ γ' : Gh} {w w' : World} (hg : γ.le γ') (hs : Same γ.G w w') (hz : Shapes w w') {v : Value} {c : A} (h : AR γ w v c) : AR γ' w' v c := by
  induction h with
  | dead v => exact .dead v
  | c v x h => exact .c v x (h.mono hg hs hz)
  | agg vs xs h1 h2 => exact .agg vs xs h1 fun i c hc => (h2 i c hc).mono hg hs hz
  | tup vs xs h1 _ ih => exact .tup vs xs h1 ih
  | bb b q h => exact .bb b q h
  | rx k g wd lo len cap b E n h1 h2 h3 h4 h5 => exact .rx k g wd lo len cap b E n (Nat.le_trans h1 (hg.gen k)) ((hg.β k g h1).trans h2) (hz _ _ h3) h4 h5

/-- An exact slice, told less exactly. -/
def A.wk : A → A
  | .rx k g wd lo len _ => .c (.rs k g wd lo len len)
  | y => y
theorem AR.wk {γ : Gh} {w : World} {v : Value} {y : A} (h : AR γ w v y) : AR γ w v y.wk := by
  cases h with
  | dead => exact .dead _
  | c _ _ h => exact .c _ _ h
  | agg _ _ h1 h2 => exact .agg _ _ h1 h2
  | tup _ _ h1 h2 => exact .tup _ _ h1 h2
  | bb _ _ h => exact .bb _ _ h
  | rx k g wd lo len cap b E n h1 h2 h3 h4 h5 => exact .c _ _ (.rs k g wd lo len len cap b E n h1 h2 h3 h4 h5 h5)
end

section
open Go
set_option linter.unusedSimpArgs false
set_option linter.unusedVariables false

def St.put (st : St) (d : Option Nat) (x : A) : St :=
  match d with
  | none => st
  | some d => { st with tmps := fun i => if i = d then x else st.tmps i }

def St.fits (st : St) : Option Nat → Bool
  | none => true
  | some d => d < st.n

/-- A cell that is no slice of its own. -/
def C.flat : C → Bool
  | .d (.s 1 _ _ _) => false
  | _ => true

theorem SR.of_CR {γ : Gh} {w : World} {v : Value} {c : C} {S : Nat → Prop} (h : CR γ w v c) (hf : c.flat = true) : SR γ w v c S := by
  unfold SR
  split
  · simp [C.flat] at hf
  · exact h

theorem SR.mono {γ γ' : Gh} {w w' : World} {v : Value} {c : C} {S : Nat → Prop} (hg : γ.le γ') (hs : Same γ.G w w') (hz : Shapes w w') (hS : Same S w w') (h : SR γ w v c S) : SR γ' w' v c S := by
  unfold SR at *
  split
  · rename_i z rows spare; exact OD.mono hg.F (hs.at true) h hS
  · rename_i hne
    cases c with
    | d x => cases x with
      | s t z rows spare =>
        match t with
        | 1 => exact (hne z rows spare rfl).elim
        | 0 => exact CR.mono hg hs hz h
        | (t + 2) => exact CR.mono hg hs hz h
      | _ => exact CR.mono hg hs hz h
    | _ => exact CR.mono hg hs hz h

variable {w0 : World} {own : Nat → Prop} {γ : Gh} {st : St} {a : Act} {w : World}

theorem Rel.put (h : Rel w0 own γ st a w) {d : Option Nat} {v : Value} {x : A} (hx : AR γ w v x) (hd : st.fits d = true) : Rel w0 own γ (st.put d x) (a.put d v) w := by
  cases d with
  | none => exact h
  | some d =>
    have hd' : d < st.n := by simpa [St.fits] using hd
    exact { h with
      size := by simpa [Act.put, St.put] using h.size
      defers := h.defers
      tmps := fun i => by
        have hs := h.size
        by_cases hi : i = d
        · subst hi
          simp [Act.put, St.put, Array.getD_eq_getD_getElem?, hs, hd']
          exact hx
        · have := h.tmps i
          simp only [Act.put, St.put, hi, if_false]
          rw [Array.getD_eq_getD_getElem?, Array.getElem?_setIfInBounds_ne (fun e => hi e.symm), ← Array.getD_eq_getD_getElem?]
          exact this
      gen := h.gen, tag := h.tag, mem := h.mem, inj := h.inj, rootF := h.rootF, fs := h.fs }

theorem Env.refl (w : World) (own : Nat → Prop) : Env w own w := ⟨rfl, rfl, rfl, Nat.le_refl _, fun _ _ _ => rfl, .refl _⟩

/-- What blocks an activation leans on. -/
def Gh.live (γ : Gh) (st : St) (b : Nat) : Prop := γ.G b ∨ ∃ k R, st.store k = some R ∧ γ.β k R.tag = some b

theorem RootOK.mono {γ' : Gh} {w' : World} {k : Nat} {R : Root} (hg : γ.le γ') (hs : Same γ.G w w') (hz : Shapes w w') (ht : R.tag ≤ γ.gen k) (hb : ∀ b, γ.β k R.tag = some b → w'.heap[b]? = w.heap[b]?)
    (hfp : ∀ i j r c, R.rows[i]? = some r → r[j]? = some c → ∀ b, γ.FP k i j b ↔ γ'.FP k i j b) (h : RootOK γ w k R) : RootOK γ' w' k R := by
  unfold RootOK at *
  rw [hg.β k R.tag ht]
  split
  · rename_i hn; rw [hn] at h; exact h
  · rename_i b hn
    rw [hn] at h
    obtain ⟨arr, E, h1, h2, h3, h4⟩ := h
    refine ⟨arr, E, by rw [hb b hn]; exact h1, h2, h3, fun i j r c hr hc => ?_⟩
    have e : γ'.FP k i j = γ.FP k i j := funext fun b => propext (hfp i j r c hr hc b).symm
    rw [e]
    exact (h4 i j r c hr hc).mono hg hs hz (hs.mono fun b hb => .inr ⟨k, i, j, hb⟩)

/-- The world goes on; what the activation leans on stays. -/
theorem Rel.world {w' : World} (h : Rel w0 own γ st a w) (hb : ∀ b, b < w.heap.size → w'.heap[b]? = w.heap[b]?) (hs : w.heap.size ≤ w'.heap.size) (ho : w'.os = w.os) (ht : w'.tape = w.tape) (hp : w'.output = w.output) :
    Rel w0 own γ st a w' := by
  have hS : Same γ.G w w' := fun b hG => hb b (h.lt b hG)
  have hz : Shapes w w' := fun b s e => by
    have hlt : b < w.heap.size := by
      rcases Nat.lt_or_ge b w.heap.size with h' | h'
      · exact h'
      · simp [World.shape?, Array.getElem?_eq_none h'] at e
    simpa [World.shape?, hb b hlt] using e
  exact {
    env := ⟨ho.trans h.env.os, ht.trans h.env.tape, hp.trans h.env.output, Nat.le_trans h.env.size hs, fun b hb' hn => (hb b (Nat.lt_of_lt_of_le hb' h.env.size)).trans (h.env.block b hb' hn), fun b s e => hz b s (h.env.shapes b s e)⟩
    size := h.size, defers := h.defers
    tmps := fun i => (h.tmps i).mono γ.le_refl hS hz
    gen := h.gen, tag := h.tag
    mem := fun k R hk => (h.mem k R hk).mono γ.le_refl hS hz (by rw [h.gen]; exact h.tag k R hk) (fun b hβ => hb b (h.ltβ k R.tag b (by rw [h.gen]; exact h.tag k R hk) hβ)) (fun _ _ _ _ _ _ _ => Iff.rfl)
    inj := h.inj, rootF := h.rootF, fpF := h.fpF, fpD := h.fpD, fs := h.fs
    lt := fun b hG => Nat.lt_of_lt_of_le (h.lt b hG) hs
    ltβ := fun k g b hg hβ => Nat.lt_of_lt_of_le (h.ltβ k g b hg hβ) hs }

theorem Rel.drew (h : Rel w0 own γ st a w) : Rel w0 own γ st a { w with drawn := w.drawn + 1 } :=
  h.world (fun _ _ => rfl) (Nat.le_refl _) rfl rfl rfl

/-- Behind a new root at key k. -/
def Gh.fresh (γ : Gh) (k : Nat) (b : Option Nat) : Gh :=
  { β := fun k' g => if k' = k ∧ g = γ.gen k + 1 then b else γ.β k' g
    F := fun c => γ.F c ∨ ∃ i j, γ.FP k i j c
    FP := fun k' i j c => k' ≠ k ∧ γ.FP k' i j c
    gen := fun k' => if k' = k then γ.gen k + 1 else γ.gen k'
    F0 := γ.F0 }

theorem Gh.fresh_G (γ : Gh) (k : Nat) (b : Option Nat) (c : Nat) : (γ.fresh k b).G c ↔ γ.G c := by
  constructor
  · rintro ((h | ⟨i, j, h⟩) | ⟨k', i, j, hk, h⟩)
    · exact .inl h
    · exact .inr ⟨k, i, j, h⟩
    · exact .inr ⟨k', i, j, h⟩
  · rintro (h | ⟨k', i, j, h⟩)
    · exact .inl (.inl h)
    · by_cases hk : k' = k
      · subst hk; exact .inl (.inr ⟨i, j, h⟩)
      · exact .inr ⟨k', i, j, hk, h⟩

theorem Gh.fresh_le (γ : Gh) (k : Nat) (b : Option Nat) : γ.le (γ.fresh k b) :=
  { gen := fun k' => by
      show γ.gen k' ≤ if k' = k then γ.gen k + 1 else γ.gen k'
      split
      · rename_i e; subst e; omega
      · exact Nat.le_refl _
    β := fun k' g hg => by
      show (if k' = k ∧ g = γ.gen k + 1 then b else γ.β k' g) = γ.β k' g
      rw [if_neg]
      rintro ⟨rfl, rfl⟩
      omega
    F := fun c hc => .inl hc
    G := fun c hc => (γ.fresh_G k b c).2 hc
    F0 := rfl }

theorem Gh.fresh_new (γ : Gh) (k : Nat) (b : Option Nat) : (γ.fresh k b).β k (γ.gen k + 1) = b := by simp [Gh.fresh]
theorem Gh.fresh_gen (γ : Gh) (k : Nat) (b : Option Nat) : (γ.fresh k b).gen k = γ.gen k + 1 := by simp [Gh.fresh]

def St.root (st : St) (k : Nat) (box : Bool) (wd : Nat) (rows : List (List C)) : St :=
  { st with store := fun i => if i = k then some ⟨st.gen k + 1, box, wd, rows⟩ else st.store i, gen := fun i => if i = k then st.gen k + 1 else st.gen i }

theorem Same.alloc (G : Nat → Prop) (w : World) (o : Obj) (hG : ∀ b, G b → b < w.heap.size) : Same G w (w.alloc o) := fun b hb => RowKit.Below.heap_alloc w o b (hG b hb)
theorem Shapes.alloc (w : World) (o : Obj) : Shapes w (w.alloc o) := fun b s e => by
  have hlt : b < w.heap.size := by
    rcases Nat.lt_or_ge b w.heap.size with h' | h'
    · exact h'
    · simp [World.shape?, Array.getElem?_eq_none h'] at e
  simpa [World.shape?, RowKit.Below.heap_alloc w o b hlt] using e

/-- A new block of cells: a root. -/
theorem Rel.alloc (h : Rel w0 own γ st a w) (k : Nat) (box : Bool) (wd : Nat) (rows : List (List C)) (arr : Array Value) (E : TypeId) (hrows : ∀ r ∈ rows, r.length = wd) (hsz : rows.length * wd ≤ arr.size)
    (hc : ∀ i j r c, rows[i]? = some r → r[j]? = some c → CR γ w (arr.getD (i * wd + j) undef) c ∧ c.flat = true) :
    Rel w0 own (γ.fresh k (some w.heap.size)) (st.root k box wd rows) a (w.alloc (.cells arr E)) := by
  have hle := γ.fresh_le k (some w.heap.size)
  have hS : Same γ.G w (w.alloc (.cells arr E)) := .alloc _ _ _ h.lt
  have hz := Shapes.alloc w (.cells arr E)
  have hgk : γ.gen k = st.gen k := congrFun h.gen k
  have hold : ∀ k' R, k' ≠ k → st.store k' = some R → (γ.fresh k (some w.heap.size)).β k' R.tag = γ.β k' R.tag := fun k' R hk hst => by simp [Gh.fresh, hk]
  have hlt : ∀ k' R b, st.store k' = some R → γ.β k' R.tag = some b → b < w.heap.size := fun k' R b hst hβ => h.ltβ k' R.tag b (by rw [h.gen]; exact h.tag k' R hst) hβ
  refine { env := ?_, size := h.size, defers := h.defers, tmps := fun i => (h.tmps i).mono hle hS hz, gen := ?_, tag := ?_, mem := ?_, inj := ?_, rootF := ?_, fpF := ?_, fpD := ?_, fs := fun b hF => hF.elim (h.fs b) fun ⟨i, j, hf⟩ => .inr (h.fpF _ _ _ _ hf).2, lt := ?_, ltβ := ?_ }
  · exact ⟨h.env.os, h.env.tape, h.env.output, by have := h.env.size; simp; omega, fun b hb hn => (RowKit.Below.heap_alloc _ _ _ (Nat.lt_of_lt_of_le hb h.env.size)).trans (h.env.block b hb hn), fun b s e => hz b s (h.env.shapes b s e)⟩
  · funext k'; simp only [Gh.fresh, St.root]; split
    · rw [hgk]
    · exact congrFun h.gen k'
  · intro k' R hst
    simp only [St.root] at hst ⊢
    split at hst
    · cases hst; rename_i e; simp [e]
    · rename_i e; simp [e]; exact h.tag k' R hst
  · intro k' R hst
    simp only [St.root] at hst
    split at hst
    · rename_i e
      subst e
      cases hst
      unfold RootOK
      simp only [← hgk, Gh.fresh_new]
      refine ⟨arr, E, (by show (w.heap.push _)[w.heap.size]? = _; simp), hrows, hsz, fun i j r c hr hcc => ?_⟩
      obtain ⟨h1, h2⟩ := hc i j r c hr hcc
      exact SR.of_CR (h1.mono hle hS hz) h2
    · rename_i e
      refine (h.mem k' R hst).mono hle hS hz (by rw [h.gen]; exact h.tag k' R hst) (fun b hβ => RowKit.Below.heap_alloc _ _ _ (hlt k' R b hst hβ)) (fun i j r c _ _ b => ?_)
      simp [Gh.fresh, e]
  · intro k1 R1 k2 R2 b h1 h2 h3 h4
    simp only [St.root] at h1 h2
    by_cases e1 : k1 = k <;> by_cases e2 : k2 = k
    · rw [e1, e2]
    · subst e1
      simp at h1; subst h1
      simp only [← hgk, Gh.fresh_new] at h3
      cases h3
      simp [e2] at h2
      rw [hold k2 R2 e2 h2] at h4
      have := hlt k2 R2 _ h2 h4
      omega
    · subst e2
      simp at h2; subst h2
      simp only [← hgk, Gh.fresh_new] at h4
      cases h4
      simp [e1] at h1
      rw [hold k1 R1 e1 h1] at h3
      have := hlt k1 R1 _ h1 h3
      omega
    · simp [e1] at h1
      simp [e2] at h2
      rw [hold k1 R1 e1 h1] at h3
      rw [hold k2 R2 e2 h2] at h4
      exact h.inj k1 R1 k2 R2 b h1 h2 h3 h4
  · intro k1 R1 b h1 h3
    simp only [St.root] at h1
    by_cases e1 : k1 = k
    · subst e1
      simp at h1; subst h1
      simp only [← hgk, Gh.fresh_new] at h3
      cases h3
      refine ⟨fun hF => ?_, fun k' i j hFP => ?_, .inr h.env.size⟩
      · have := h.lt _ ((γ.fresh_G k1 (some w.heap.size) _).1 (.inl hF)); omega
      · have := h.lt _ ((γ.fresh_G k1 (some w.heap.size) _).1 (.inr ⟨k', i, j, hFP⟩)); omega
    · simp [e1] at h1
      rw [hold k1 R1 e1 h1] at h3
      obtain ⟨q1, q2, q3⟩ := h.rootF k1 R1 b h1 h3
      exact ⟨fun hF => hF.elim q1 fun ⟨i, j, hf⟩ => q2 _ _ _ hf, fun k' i j hf => q2 k' i j hf.2, q3⟩
  · rintro k1 i j b ⟨hne, hf⟩
    obtain ⟨q1, q2⟩ := h.fpF k1 i j b hf
    exact ⟨fun hF => hF.elim q1 fun ⟨i', j', hf'⟩ => hne (h.fpD _ _ _ _ _ _ _ hf hf').1, q2⟩
  · rintro k1 i j k2 i2 j2 b ⟨_, hf⟩ ⟨_, hf2⟩
    exact h.fpD _ _ _ _ _ _ _ hf hf2
  · intro b hG
    have := h.lt b ((γ.fresh_G k _ b).1 hG)
    simp; omega
  · intro k1 g b hg hβ
    simp only [Gh.fresh] at hg hβ
    by_cases e : k1 = k ∧ g = γ.gen k + 1
    · rw [if_pos e] at hβ; cases hβ; simp
    · rw [if_neg e] at hβ
      have hg' : g ≤ γ.gen k1 := by
        by_cases e1 : k1 = k
        · subst e1
          simp at hg e
          omega
        · simpa [e1] using hg
      have := h.ltβ k1 g b hg' hβ
      simp; omega
end

section
open Go
set_option linter.unusedSimpArgs false
set_option linter.unusedVariables false

def splice {α : Type} (r : List α) (j : Nat) (cs : List α) : List α := r.take j ++ cs ++ r.drop (j + cs.length)

theorem splice_length {α : Type} (r : List α) (j : Nat) (cs : List α) (h : j + cs.length ≤ r.length) : (splice r j cs).length = r.length := by
  simp [splice]; omega

theorem splice_get {α : Type} (r : List α) (j : Nat) (cs : List α) (h : j + cs.length ≤ r.length) (i : Nat) :
    (splice r j cs)[i]? = if j ≤ i ∧ i < j + cs.length then cs[i - j]? else r[i]? := by
  have h1 : (r.take j).length = j := by simp; omega
  simp only [splice, List.getElem?_append, List.length_append, h1]
  by_cases a : i < j
  · rw [if_pos (by omega), if_pos a, if_neg (by omega), List.getElem?_take, if_pos a]
  · by_cases b : i < j + cs.length
    · rw [if_pos b, if_neg a, if_pos ⟨by omega, b⟩]
    · rw [if_neg b, if_neg (by omega), List.getElem?_drop]
      congr 1; omega

def Gh.drop (γ : Gh) (k i0 j0 n : Nat) : Gh :=
  { γ with
    F := fun c => γ.F c ∨ ∃ j, j0 ≤ j ∧ j < j0 + n ∧ γ.FP k i0 j c
    FP := fun k' i j c => γ.FP k' i j c ∧ ¬ (k' = k ∧ i = i0 ∧ j0 ≤ j ∧ j < j0 + n) }

theorem Gh.drop_G (γ : Gh) (k i0 j0 n : Nat) (c : Nat) : (γ.drop k i0 j0 n).G c ↔ γ.G c := by
  constructor
  · rintro ((h | ⟨j, _, _, h⟩) | ⟨k', i, j, h, _⟩)
    · exact .inl h
    · exact .inr ⟨k, i0, j, h⟩
    · exact .inr ⟨k', i, j, h⟩
  · rintro (h | ⟨k', i, j, h⟩)
    · exact .inl (.inl h)
    · by_cases hk : k' = k ∧ i = i0 ∧ j0 ≤ j ∧ j < j0 + n
      · obtain ⟨rfl, rfl, h1, h2⟩ := hk
        exact .inl (.inr ⟨j, h1, h2, h⟩)
      · exact .inr ⟨k', i, j, h, hk⟩

theorem Gh.drop_le (γ : Gh) (k i0 j0 n : Nat) : γ.le (γ.drop k i0 j0 n) :=
  { gen := fun _ => Nat.le_refl _, β := fun _ _ _ => rfl, F := fun c hc => .inl hc, G := fun c hc => (γ.drop_G k i0 j0 n c).2 hc, F0 := rfl }

def St.set (st : St) (k : Nat) (R : Root) : St := { st with store := fun i => if i = k then some R else st.store i }

def poke (arr : Array Value) (p : Nat) (vs : List Value) : Array Value := (arr.toList.take p ++ vs ++ arr.toList.drop (p + vs.length)).toArray

theorem poke_size (arr : Array Value) (p : Nat) (vs : List Value) (h : p + vs.length ≤ arr.size) : (poke arr p vs).size = arr.size := by
  simp [poke]; omega

theorem poke_get (arr : Array Value) (p : Nat) (vs : List Value) (h : p + vs.length ≤ arr.size) (i : Nat) :
    (poke arr p vs).getD i undef = if p ≤ i ∧ i < p + vs.length then vs.getD (i - p) undef else arr.getD i undef := by
  have := splice_get arr.toList p vs (by simpa using h) i
  rw [Array.getD_eq_getD_getElem?]
  have e : (poke arr p vs)[i]? = (splice arr.toList p vs)[i]? := by simp [poke, splice]
  rw [e, this]
  split
  · simp [List.getD]
  · rw [Array.getD_eq_getD_getElem?]; simp

theorem Same.setRow {G : Nat → Prop} {w : World} {b : Nat} {cs : Array Value} (h : ¬ G b) : Same G w (w.setRow b cs) := fun c hc => setRow_other w b c cs (fun e => h (e ▸ hc))
theorem Shapes.setRow {w : World} {b : Nat} {arr cs : Array Value} {E : TypeId} {fr : Nat × Nat} (hb : w.heap[b]? = some (.cells arr E fr)) (hs : cs.size = arr.size) : Shapes w (w.setRow b cs) := fun c s e => by
  by_cases hc : c = b
  · subst hc
    simp [World.shape?, hb] at e
    simp [World.shape?, setRow_heap w c arr cs E fr hb, hs, e]
  · simpa [World.shape?, setRow_other w b c cs hc] using e

variable {w0 : World} {own : Nat → Prop} {γ : Gh} {st : St} {a : Act} {w : World}

/-- Cells of a root are written over. -/
theorem Rel.write (h : Rel w0 own γ st a w) {k : Nat} {R : Root} {b i0 j0 : Nat} {arr : Array Value} {E : TypeId} {r : List C} {cs : List C} {vs : List Value} (hst : st.store k = some R) (hβ : γ.β k R.tag = some b)
    (harr : w.heap[b]? = some (.cells arr E (0, 0))) (hr : R.rows[i0]? = some r) (hj : j0 + cs.length ≤ R.wd) (hvs : vs.length = cs.length)
    (hc : ∀ j c, cs[j]? = some c → CR γ w (vs.getD j undef) c ∧ c.flat = true) :
    Rel w0 own (γ.drop k i0 j0 cs.length) (st.set k { R with rows := R.rows.set i0 (splice r j0 cs) }) a (w.setRow b (poke arr (i0 * R.wd + j0) vs)) := by
  obtain ⟨qF, qP, qo⟩ := h.rootF k R b hst hβ
  have hm := h.mem k R hst
  unfold RootOK at hm
  rw [hβ] at hm
  obtain ⟨arr', E', ha', hw, hsz, hcell⟩ := hm
  rw [harr] at ha'
  cases ha'
  have hi0 : i0 < R.rows.length := (List.getElem?_eq_some_iff.1 hr).1
  have hrl : r.length = R.wd := hw r (List.mem_of_getElem? hr)
  have hfit : i0 * R.wd + j0 + vs.length ≤ arr.size := by
    have : (i0 + 1) * R.wd ≤ R.rows.length * R.wd := Nat.mul_le_mul_right _ hi0
    have : (i0 + 1) * R.wd = i0 * R.wd + R.wd := Nat.succ_mul _ _
    omega
  have hG : ¬ γ.G b := fun hG => hG.elim qF fun ⟨k', i, j, hf⟩ => qP k' i j hf
  have hS : Same γ.G w (w.setRow b (poke arr (i0 * R.wd + j0) vs)) := .setRow hG
  have hz : Shapes w (w.setRow b (poke arr (i0 * R.wd + j0) vs)) := .setRow harr (poke_size _ _ _ hfit)
  have hle := γ.drop_le k i0 j0 cs.length
  refine { env := ?_, size := h.size, defers := h.defers, tmps := fun i => (h.tmps i).mono hle hS hz, gen := h.gen, tag := ?_, mem := ?_, inj := ?_, rootF := ?_, fpF := ?_, fpD := ?_, fs := fun b hF => hF.elim (h.fs b) fun ⟨j, _, _, hf⟩ => .inr (h.fpF _ _ _ _ hf).2, lt := ?_, ltβ := ?_ }
  · exact ⟨h.env.os, h.env.tape, h.env.output, by simpa using h.env.size, fun c hc hn => by
      have hcb : c ≠ b := fun e => by subst e; rcases qo with q | q; exact hn q; omega
      rw [setRow_other _ _ _ _ hcb]; exact h.env.block c hc hn, fun b s e => hz b s (h.env.shapes b s e)⟩
  · intro k' R' hs'
    simp only [St.set] at hs' ⊢
    split at hs'
    · rename_i e; cases hs'; subst e; exact h.tag k' R hst
    · exact h.tag k' R' hs'
  · intro k' R' hs'
    simp only [St.set] at hs'
    split at hs'
    · rename_i e
      subst e
      cases hs'
      unfold RootOK
      have : (γ.drop k' i0 j0 cs.length).β k' R.tag = some b := hβ
      simp only [this]
      refine ⟨poke arr (i0 * R.wd + j0) vs, E, setRow_heap _ _ _ _ _ _ harr, ?_, ?_, ?_⟩
      · intro x hx
        rcases List.mem_or_eq_of_mem_set hx with hx | hx
        · exact hw x hx
        · subst hx; rw [splice_length _ _ _ (by omega)]; exact hrl
      · rw [poke_size _ _ _ hfit]; simpa using hsz
      · intro i j r' c hr' hc'
        rw [poke_get _ _ _ hfit]
        by_cases hi : i = i0
        · subst hi
          simp only [List.getElem?_set, hi0, if_true] at hr'
          simp at hr'
          subst hr'
          rw [splice_get _ _ _ (by omega)] at hc'
          by_cases hjj : j0 ≤ j ∧ j < j0 + cs.length
          · rw [if_pos hjj] at hc'
            rw [if_pos (by omega)]
            obtain ⟨g1, g2⟩ := hc _ _ hc'
            have e : i * R.wd + j - (i * R.wd + j0) = j - j0 := by omega
            rw [e]
            exact SR.of_CR (g1.mono hle hS hz) g2
          · rw [if_neg hjj] at hc'
            have hjl : j < R.wd := by have := (List.getElem?_eq_some_iff.1 hc').1; omega
            rw [if_neg (by omega)]
            have e : (γ.drop k' i j0 cs.length).FP k' i j = γ.FP k' i j := by
              funext c; simp [Gh.drop]; intro _ h1; omega
            rw [e]
            exact (hcell i j r c hr hc').mono hle hS hz (hS.mono fun b hb => .inr ⟨k', i, j, hb⟩)
        · rw [List.getElem?_set_ne (fun e => hi e.symm)] at hr'
          have hjl : j < R.wd := by have := (List.getElem?_eq_some_iff.1 hc').1; have := hw r' (List.mem_of_getElem? hr'); omega
          have hne : ¬ (i0 * R.wd + j0 ≤ i * R.wd + j ∧ i * R.wd + j < i0 * R.wd + j0 + vs.length) := by
            rintro ⟨g1, g2⟩
            rcases Nat.lt_or_gt_of_ne hi with g | g
            · have : (i + 1) * R.wd ≤ i0 * R.wd := Nat.mul_le_mul_right _ g
              have : (i + 1) * R.wd = i * R.wd + R.wd := Nat.succ_mul _ _
              omega
            · have : (i0 + 1) * R.wd ≤ i * R.wd := Nat.mul_le_mul_right _ g
              have : (i0 + 1) * R.wd = i0 * R.wd + R.wd := Nat.succ_mul _ _
              omega
          rw [if_neg hne]
          have e : (γ.drop k' i0 j0 cs.length).FP k' i j = γ.FP k' i j := by
            funext c; simp [Gh.drop, hi]
          rw [e]
          exact (hcell i j r' c hr' hc').mono hle hS hz (hS.mono fun b hb => .inr ⟨k', i, j, hb⟩)
    · rename_i e
      refine (h.mem k' R' hs').mono hle hS hz (by rw [h.gen]; exact h.tag k' R' hs') (fun c hβ' => setRow_other _ _ _ _ (fun ec => e (h.inj k' R' k R b hs' hst (ec ▸ hβ') hβ))) (fun i j r' c _ _ c' => ?_)
      simp [Gh.drop, e]
  · intro k1 R1 k2 R2 c h1 h2 h3 h4
    have key : ∀ k1 R1, (st.set k { R with rows := R.rows.set i0 (splice r j0 cs) }).store k1 = some R1 → ∃ R', st.store k1 = some R' ∧ R'.tag = R1.tag := fun k1 R1 h1 => by
      simp only [St.set] at h1
      split at h1
      · rename_i e; cases h1; subst e; exact ⟨R, hst, rfl⟩
      · exact ⟨R1, h1, rfl⟩
    obtain ⟨R1', g1, e1⟩ := key k1 R1 h1
    obtain ⟨R2', g2, e2⟩ := key k2 R2 h2
    exact h.inj k1 R1' k2 R2' c g1 g2 (by rw [e1]; exact h3) (by rw [e2]; exact h4)
  · intro k1 R1 c h1 h3
    have : ∃ R', st.store k1 = some R' ∧ R'.tag = R1.tag := by
      simp only [St.set] at h1
      split at h1
      · rename_i e; cases h1; subst e; exact ⟨R, hst, rfl⟩
      · exact ⟨R1, h1, rfl⟩
    obtain ⟨R1', g1, e1⟩ := this
    obtain ⟨p1, p2, p3⟩ := h.rootF k1 R1' c g1 (by rw [e1]; exact h3)
    exact ⟨fun hF => hF.elim p1 fun ⟨j, _, _, hf⟩ => p2 _ _ _ hf, fun k' i j hf => p2 k' i j hf.1, p3⟩
  · rintro k1 i j c ⟨hf, hne⟩
    obtain ⟨p1, p2⟩ := h.fpF k1 i j c hf
    refine ⟨fun hF => hF.elim p1 fun ⟨j', g1, g2, hf'⟩ => hne ?_, p2⟩
    obtain ⟨rfl, rfl, rfl⟩ := h.fpD _ _ _ _ _ _ _ hf hf'
    exact ⟨rfl, rfl, g1, g2⟩
  · rintro k1 i j k2 i2 j2 c ⟨hf, _⟩ ⟨hf2, _⟩
    exact h.fpD _ _ _ _ _ _ _ hf hf2
  · intro c hG'
    simpa using h.lt c ((γ.drop_G k i0 j0 cs.length c).1 hG')
  · intro k1 g c hg hβ'
    simpa using h.ltβ k1 g c hg hβ'
end

section
open Go
set_option linter.unusedSimpArgs false
set_option linter.unusedVariables false

variable {P : Program} {w0 : World} {own : Nat → Prop} {γ : Gh} {st : St} {a : Act} {w : World}

/-- The operation leads from st to st', whatever the memory is that st tells of. -/
def OpOK (P : Program) (w0 : World) (own : Nat → Prop) (o : Oper) (st st' : St) : Prop :=
  ∀ γ a w (next : Act → World → Prop) (Q : Exit → Act → World → Prop), Rel w0 own γ st a w → (∀ γ' a' w', γ.le γ' → Rel w0 own γ' st' a' w' → next a' w') → o.wp P a w next Q

theorem OpOK.value {o : Oper} {st1 : St} {x : A} (hd : st1.fits o.dst = true)
    (h : ∀ γ a w, Rel w0 own γ st a w → ∃ γ' w' v, (execOp a.eval o).run P w = .ok (.value v) w' ∧ γ.le γ' ∧ Rel w0 own γ' st1 a w' ∧ AR γ' w' v x) : OpOK P w0 own o st (st1.put o.dst x) := by
  intro γ a w next Q hR hn
  obtain ⟨γ', w', v, h1, h2, h3, h4⟩ := h γ a w hR
  simp only [Oper.wp, h1, Oper.upon_value]
  exact hn γ' _ w' h2 (h3.put h4 hd)

theorem OpOK.skip {o : Oper} {st1 : St} (hd : st1.fits o.dst = true)
    (h : ∀ γ a w, Rel w0 own γ st a w → ∃ γ' w', (execOp a.eval o).run P w = .ok .skip w' ∧ γ.le γ' ∧ Rel w0 own γ' st1 a w') : OpOK P w0 own o st (st1.put o.dst .dead) := by
  intro γ a w next Q hR hn
  obtain ⟨γ', w', h1, h2, h3⟩ := h γ a w hR
  simp only [Oper.wp, h1, Oper.upon_skip]
  exact hn γ' _ w' h2 (h3.put (.dead _) hd)

/-! ### operands -/
def sc (x : Value) : A := .c (.d (.v x))
def evA (st : St) : Operand → A
  | .tmp t => st.tmps t
  | .const v => if plain v then sc v else .dead
  | .func f => .c (.d (.f f [] []))
  | .global _ => .dead

theorem Rel.ev (h : Rel w0 own γ st a w) (x : Operand) : AR γ w (a.eval x) (evA st x) := by
  cases x with
  | tmp t => exact h.tmps t
  | const v =>
    simp only [evA]
    split
    · rename_i hp; exact .c _ _ (.d _ _ (.v v hp))
    · exact .dead _
  | global g => exact .dead _
  | func f => exact .c _ _ (.d _ _ (.f f [] [] #[] #[] rfl rfl (by simp) (by simp)))

theorem AR.sc_inv {v x : Value} (h : AR γ w v (sc x)) : v = x ∧ plain x = true := by
  cases h with
  | c _ _ h => cases h with
    | d _ _ h => cases h with
      | v _ hp => exact ⟨rfl, hp⟩

theorem AR.sc_mk {x : Value} (h : plain x = true) : AR γ w x (sc x) := .c _ _ (.d _ _ (.v x h))

/-- A value all of whose cells are scalars. -/
def scalars : List C → Option (List Value)
  | [] => some []
  | .d (.v x) :: l => (scalars l).map (x :: ·)
  | _ :: _ => none
def A.val : A → Option Value
  | .c (.d (.v x)) => some x
  | .agg cs => (scalars cs).map fun l => .agg l.toArray
  | _ => none

theorem scalars_spec : ∀ (cs : List C) (l : List Value), scalars cs = some l → cs = l.map fun x => C.d (.v x)
  | [], l, h => by simp [scalars] at h; subst h; rfl
  | c :: cs, l, h => by
    cases c with
    | d x => cases x with
      | v x =>
        simp only [scalars, Option.map_eq_some_iff] at h
        obtain ⟨l', h1, rfl⟩ := h
        rw [scalars_spec cs l' h1]; rfl
      | _ => simp [scalars] at h
    | _ => simp [scalars] at h

theorem CR.sc_inv {v x : Value} (h : CR γ w v (.d (.v x))) : v = x ∧ plain x = true := by
  cases h with
  | d _ _ h => cases h with
    | v _ hp => exact ⟨rfl, hp⟩

theorem A.val_spec {v x : Value} {y : A} (h : AR γ w v y) (hy : y.val = some x) : v = x := by
  cases y with
  | c c => cases c with
    | d d => cases d with
      | v z => simp [A.val] at hy; subst hy; exact (AR.sc_inv h).1
      | _ => simp [A.val] at hy
    | _ => simp [A.val] at hy
  | agg cs =>
    simp only [A.val, Option.map_eq_some_iff] at hy
    obtain ⟨l, h1, rfl⟩ := hy
    have e := scalars_spec cs l h1
    cases h with
    | agg vs _ hs hc =>
      congr 1
      apply Array.ext
      · simp [hs, e]
      · intro i h1 h2
        simp at h2
        have := hc i (.d (.v l[i])) (by simp [e, h2])
        have e2 := (CR.sc_inv this).1
        simpa [Array.getD, h1] using e2
  | _ => simp [A.val] at hy

/-- Runs of what asks the program's tables alone. -/
def pureRun {α : Type} (P : Program) : Sem α → Option α
  | .pure a => some a
  | .program k => pureRun P (k P)
  | _ => none
theorem pureRun_spec {α : Type} (P : Program) (w : World) : ∀ (s : Sem α) (a : α), pureRun P s = some a → s.run P w = .ok a w
  | .pure b, a, h => by simp [pureRun] at h; subst h; rfl
  | .program k, a, h => by simp only [pureRun] at h; exact pureRun_spec P w (k P) a h
  | .load .., _, h | .store .., _, h | .new .., _, h | .shape .., _, h | .freeze .., _, h | .frozen .., _, h | .getObj .., _, h | .setObj .., _, h | .choose .., _, h | .sys .., _, h | .mark .., _, h | .halt .., _, h => by simp [pureRun] at h

theorem op_pure {o : Oper} {x : Value} (hd : st.fits o.dst = true) (hp : plain x = true)
    (h : ∀ γ a w, Rel w0 own γ st a w → (execOp a.eval o).run P w = .ok (.value x) w) : OpOK P w0 own o st (st.put o.dst (sc x)) :=
  .value hd fun γ a w hR => ⟨γ, w, x, h γ a w hR, γ.le_refl, hR, .sc_mk hp⟩

theorem op_move {o : Oper} {x : Operand} (hd : st.fits o.dst = true) (ho : o.op = .move x ∨ o.op = .assign x) : OpOK P w0 own o st (st.put o.dst (evA st x)) :=
  .value hd fun γ a w hR => ⟨γ, w, a.eval x, by unfold execOp; rcases ho with h | h <;> rw [h] <;> rfl, γ.le_refl, hR, hR.ev x⟩

theorem op_pick {o : Oper} {c x y : Operand} {t : Bool} (hd : st.fits o.dst = true) (ho : o.op = .pick c x y) (hc : evA st c = sc (.bool t)) : OpOK P w0 own o st (st.put o.dst (if t then evA st x else evA st y)) :=
  .value hd fun γ a w hR => by
    have := hR.ev c
    rw [hc] at this
    have e := (AR.sc_inv this).1
    refine ⟨γ, w, if t then a.eval x else a.eval y, ?_, γ.le_refl, hR, ?_⟩
    · unfold execOp
      rw [ho]
      simp only [e, asBool]
      cases t <;> rfl
    · cases t
      · exact hR.ev y
      · exact hR.ev x

theorem op_bin {o : Oper} {b : BinOp} {t u : TypeId} {x y : Operand} {p q r : Value} (hd : st.fits o.dst = true) (ho : o.op = .binOp b t x y u) (hx : (evA st x).val = some p) (hy : (evA st y).val = some q)
    (hr : pureRun P (do eqGuard b t x y p q; binOp b t p q) = some r) (hp : plain r = true) : OpOK P w0 own o st (st.put o.dst (sc r)) :=
  op_pure hd hp fun γ a w hR => by
    have e1 := A.val_spec (hR.ev x) hx
    have e2 := A.val_spec (hR.ev y) hy
    unfold execOp
    rw [ho]
    simp only [e1, e2]
    rw [Sem.run_bind, pureRun_spec P w _ _ hr]
    rfl

theorem op_un {o : Oper} {b : UnOp} {t : TypeId} {x : Operand} {p r : Value} (hd : st.fits o.dst = true) (ho : o.op = .unOp b t x) (hx : (evA st x).val = some p)
    (hr : pureRun P (Op.unary b p) = some r) (hp : plain r = true) : OpOK P w0 own o st (st.put o.dst (sc r)) :=
  op_pure hd hp fun γ a w hR => by
    have e1 := A.val_spec (hR.ev x) hx
    unfold execOp
    rw [ho]
    simp only [e1]
    rw [Sem.run_bind, pureRun_spec P w _ _ hr]
    rfl

theorem op_conv {o : Oper} {t u : TypeId} {x : Operand} {p r : Value} (hd : st.fits o.dst = true) (ho : o.op = .convert t u x) (hx : (evA st x).val = some p)
    (hr : pureRun P (convert t u p) = some r) (hp : plain r = true) : OpOK P w0 own o st (st.put o.dst (sc r)) :=
  op_pure hd hp fun γ a w hR => by
    have e1 := A.val_spec (hR.ev x) hx
    unfold execOp
    rw [ho]
    simp only [e1]
    rw [Sem.run_bind, pureRun_spec P w _ _ hr]
    rfl
end

section
open Go
set_option linter.unusedSimpArgs false
set_option linter.unusedVariables false

variable {P : Program} {w0 : World} {own : Nat → Prop} {γ : Gh} {st : St} {a : Act} {w : World}

/-! ### the program's tables -/
def szT (P : Program) (t : TypeId) : Option Nat := (P.info? t).map (·.size)
def aggT (P : Program) (t : TypeId) : Option Bool := (P.underlying t).map fun d => match d with | .struct _ | .array _ _ => true | _ => false
def fldT (P : Program) (t : TypeId) (f : Nat) : Option (Nat × TypeId) := match P.underlying t with | some (.struct fs) => (fs[f]?).map fun x => (x.offset, x.type) | _ => none
def zeroT (P : Program) (t : TypeId) : Option (List Value) := ((P.info? t).bind (·.zero)).map (·.cells.toList)
def elT (P : Program) (t : TypeId) : Option TypeId := match P.underlying t with | some (.slice e) => some e | _ => none
def arT (P : Program) (t : TypeId) : Option (Nat × TypeId) := match P.underlying t with | some (.array n e) => some (n, e) | _ => none

theorem run_under {t : TypeId} {d : TypeDesc} (h : P.underlying t = some d) (w : World) : (underlying t).run P w = .ok d w := by
  simp [underlying, program, Sem.run, h]
theorem run_size {t : TypeId} {n : Nat} (h : szT P t = some n) (w : World) : (Go.sizeOf t).run P w = .ok n w := by
  unfold szT at h
  cases hi : P.info? t with
  | none => simp [hi] at h
  | some i => simp [hi] at h; simp [Go.sizeOf, typeInfo, program, Sem.run, hi, h]
theorem run_isAgg {t : TypeId} {b : Bool} (h : aggT P t = some b) (w : World) : (isAgg t).run P w = .ok b w := by
  unfold aggT at h
  cases hi : P.underlying t with
  | none => simp [hi] at h
  | some i =>
    simp [hi] at h
    unfold isAgg
    rw [Sem.run_bind, run_under hi]
    simp only [Result.andThen_ok]
    subst h
    cases i <;> rfl
theorem run_zero {t : TypeId} {l : List Value} (h : zeroT P t = some l) (w : World) : ∃ z, (zeroValue t).run P w = .ok z w ∧ z.cells.toList = l := by
  unfold zeroT at h
  cases hi : P.info? t with
  | none => simp [hi] at h
  | some i =>
    cases hz : i.zero with
    | none => simp [hi, hz] at h
    | some z => simp [hi, hz] at h; exact ⟨z, by simp [zeroValue, typeInfo, program, Sem.run, hi, hz], by simpa using h⟩

theorem addr_add (b o n : Nat) : (⟨b, o, none⟩ : Addr).add n = ⟨b, o + n, none⟩ := by
  unfold Addr.add; split <;> simp_all

/-- A value's cells. -/
def A.cells : A → Option (List C)
  | .c .non => none
  | .c y => some [y]
  | .agg cs => some cs
  | _ => none

theorem CR.one {v : Value} {y : C} (h : CR γ w v y) (hy : y ≠ .non) : v.cells = #[v] ∧ v.oneCell' = true := by
  cases h with
  | d _ _ h =>
    cases h with
    | v _ hp => cases v <;> simp_all [Value.cells, plain, Value.oneCell']
    | _ => exact ⟨rfl, rfl⟩
  | non => exact (hy rfl).elim
  | _ => exact ⟨rfl, rfl⟩

theorem AR.cells {v : Value} {y : A} {cs : List C} (h : AR γ w v y) (hy : y.cells = some cs) : v.cells.size = cs.length ∧ ∀ i z, cs[i]? = some z → CR γ w (v.cells.getD i undef) z := by
  cases y with
  | dead => simp [A.cells] at hy
  | tup _ => simp [A.cells] at hy
  | bb _ => simp [A.cells] at hy
  | rx => simp [A.cells] at hy
  | c y =>
    have hne : y ≠ .non := by rintro rfl; simp [A.cells] at hy
    have hcs : cs = [y] := by cases y <;> simp_all [A.cells]
    subst hcs
    cases h with
    | c _ _ h =>
      rw [(h.one hne).1]
      refine ⟨rfl, fun i c' hc => ?_⟩
      cases i with
      | zero => simp at hc; subst hc; exact h
      | succ i => simp at hc
  | agg xs =>
    simp [A.cells] at hy; subst hy
    cases h with
    | agg vs _ hs hc => exact ⟨hs, hc⟩

def cellsOK (cs : List C) : Bool := cs.all fun y => y.flat && (match y with | .non => false | _ => true)

theorem cellsOK_get {cs : List C} (h : cellsOK cs = true) {i : Nat} {y : C} (hy : cs[i]? = some y) : y.flat = true ∧ y ≠ .non := by
  have := List.all_eq_true.1 h y (List.mem_of_getElem? hy)
  simp only [Bool.and_eq_true] at this
  refine ⟨this.1, ?_⟩
  rintro rfl
  simp at this

/-! ### memory -/
theorem op_alloc {o : Oper} {t : TypeId} {l : List Value} (k : Nat) (hd : st.fits o.dst = true) (ho : o.op = .alloc t) (hz : zeroT P t = some l) (hp : l.all plain = true) :
    OpOK P w0 own o st ((st.root k true l.length [l.map fun x => .d (.v x)]).put o.dst (.c (.rp k (st.gen k + 1) l.length 0 0))) :=
  .value (by cases h : o.dst <;> simp_all [St.fits, St.root]) fun γ a w hR => by
    obtain ⟨z, hz1, hz2⟩ := run_zero hz w
    refine ⟨_, w.alloc (.cells z.cells t), .pointer (some ⟨w.heap.size, 0, none⟩), ?_, γ.fresh_le k (some w.heap.size), hR.alloc k true l.length [l.map fun x => .d (.v x)] z.cells t (by simp) ?_ ?_, ?_⟩
    · unfold execOp
      rw [ho]
      simp [Instr.alloc, hz1, newVar, newRow, newObj, Sem.run]
    · rw [← hz2]; simp
    · intro i j r c hr hc
      cases i with
      | succ i => simp at hr
      | zero =>
        simp at hr; subst hr
        rw [List.getElem?_map] at hc
        obtain ⟨x, hx, rfl⟩ := Option.map_eq_some_iff.1 hc
        have e : z.cells.getD (0 * l.length + j) undef = x := by
          rw [← hz2] at hx
          simp at hx
          simp [Array.getD_eq_getD_getElem?, hx]
        rw [e]
        exact ⟨.d _ _ (.v x (List.all_eq_true.1 hp x (List.mem_of_getElem? hx))), rfl⟩
    · have hg : γ.gen k = st.gen k := congrFun hR.gen k
      have := CR.rp (γ := γ.fresh k (some w.heap.size)) (w := w.alloc (.cells z.cells t)) k (st.gen k + 1) l.length 0 0 w.heap.size (by rw [Gh.fresh_gen, hg]; exact Nat.le_refl _) (by rw [← hg, Gh.fresh_new])
      simp at this
      exact .c _ _ this

theorem op_box {o : Oper} {t : TypeId} {x : Operand} {cs : List C} (k : Nat) (hd : st.fits o.dst = true) (ho : o.op = .box t x) (hx : (evA st x).cells = some cs) (hp : cellsOK cs = true) :
    OpOK P w0 own o st ((st.root k true cs.length [cs]).put o.dst (.c (.rp k (st.gen k + 1) cs.length 0 0))) :=
  .value (by cases h : o.dst <;> simp_all [St.fits, St.root]) fun γ a w hR => by
    obtain ⟨hs, hc⟩ := (hR.ev x).cells hx
    refine ⟨_, w.alloc (.cells (a.eval x).cells t), .pointer (some ⟨w.heap.size, 0, none⟩), ?_, γ.fresh_le k (some w.heap.size), hR.alloc k true cs.length [cs] (a.eval x).cells t (by simp) (by simp [hs]) ?_, ?_⟩
    · unfold execOp
      rw [ho]
      simp [Instr.box, newVar, newRow, newObj, Sem.run]
    · intro i j r c hr hcc
      cases i with
      | succ i => simp at hr
      | zero =>
        simp at hr; subst hr
        have := hc j c hcc
        simp only [Nat.zero_mul, Nat.zero_add]
        exact ⟨this, (cellsOK_get hp hcc).1⟩
    · have hg : γ.gen k = st.gen k := congrFun hR.gen k
      have := CR.rp (γ := γ.fresh k (some w.heap.size)) (w := w.alloc (.cells (a.eval x).cells t)) k (st.gen k + 1) cs.length 0 0 w.heap.size (by rw [Gh.fresh_gen, hg]; exact Nat.le_refl _) (by rw [← hg, Gh.fresh_new])
      simp at this
      exact .c _ _ this

/-- What is read of a cell of one's own. -/
def C.lend : C → C
  | .d (.s 1 z rows spare) => .d (.s 2 z rows spare)
  | y => y

theorem DR.retag {G : Nat → Prop} {v : Value} {t z : Nat} {rows spare : List (List D)} (t' : Nat) (h : DR w G v (.s t z rows spare)) : DR w G v (.s t' z rows spare) := by
  cases h with
  | e a _ _ cap => exact .e a t' _ cap
  | s _ _ _ b off cap sz vs h1 h2 h3 h4 h5 => exact .s t' rows spare b off cap _ vs h1 h2 h3 h4 h5

theorem SR.lend {v : Value} {y : C} {k i j : Nat} (h : SR γ w v y (γ.FP k i j)) : CR γ w v y.lend := by
  unfold SR at h
  split at h
  · rename_i z rows spare
    exact .d _ _ ((h.read (G' := γ.G) (fun b hb => .inl hb) (fun b hb => .inr ⟨k, i, j, hb⟩)).retag 2)
  · rename_i hne
    have : y.lend = y := by
      unfold C.lend
      split
      · exact (hne _ _ _ rfl).elim
      · rfl
    rw [this]
    exact h

def mkA (b : Bool) (cs : List C) : Option A :=
  if b then some (.agg cs) else match cs with | [y] => some (.c y) | _ => none

/-- n cells from the j-th of a row on. -/
def seg {α : Type} (r : List α) (j n : Nat) : Option (List α) := if j + n ≤ r.length then some ((r.drop j).take n) else none

theorem seg_spec {α : Type} {r cs : List α} {j n : Nat} (h : seg r j n = some cs) : cs.length = n ∧ j + n ≤ r.length ∧ ∀ i, i < n → cs[i]? = r[j + i]? := by
  unfold seg at h
  split at h
  · rename_i hle
    cases h
    refine ⟨by simp; omega, hle, fun i hi => ?_⟩
    rw [List.getElem?_take, if_pos hi, List.getElem?_drop]
  · cases h

theorem run_loadVar {t : TypeId} {ag : Bool} {n b o : Nat} (f : Nat → Value) (ha : aggT P t = some ag) (hn : szT P t = some n) (hc : ∀ j, j < n → w.cell? ⟨b, o + j, none⟩ = some (f j)) (h1 : ag = false → n = 1) :
    (loadVar t ⟨b, o, none⟩).run P w = .ok (if ag then .agg ((List.range n).map f).toArray else f 0) w := by
  unfold loadVar
  rw [Sem.run_bind, run_isAgg ha]
  simp only [Result.andThen_ok]
  cases ag with
  | true =>
    simp only [if_true]
    rw [Sem.run_bind, run_size hn]
    simp only [Result.andThen_ok]
    rw [Sem.run_bind, run_loadCells w ⟨b, o, none⟩ n f (fun j hj => by rw [addr_add]; exact hc j hj)]
    rfl
  | false =>
    have := hc 0 (by have := h1 rfl; omega)
    simp at this
    simp [Go.load, Sem.run, this]

theorem AR.mkA {ag : Bool} {n : Nat} {f : Nat → Value} {cs : List C} {y : A} (hl : cs.length = n) (hy : mkA ag cs = some y) (hc : ∀ i z, cs[i]? = some z → CR γ w (f i) z) :
    AR γ w (if ag then .agg ((List.range n).map f).toArray else f 0) y ∧ (ag = false → n = 1) := by
  unfold Vm.mkA at hy
  cases ag with
  | true =>
    simp at hy
    subst hy
    simp only [if_true]
    refine ⟨.agg _ _ (by simp [hl]) fun i z hz => ?_, by simp⟩
    have hi : i < n := by have := (List.getElem?_eq_some_iff.1 hz).1; omega
    have := hc i z hz
    simpa [Array.getD, hi] using this
  | false =>
    simp only [Bool.false_eq_true, if_false] at hy
    split at hy
    · rename_i z
      cases hy
      simp at hl
      exact ⟨.c _ _ (hc 0 z rfl), fun _ => hl.symm⟩
    · cases hy

theorem AR.rp_inv {v : Value} {k g wd i j : Nat} (h : AR γ w v (.c (.rp k g wd i j))) : ∃ b, v = .pointer (some ⟨b, i * wd + j, none⟩) ∧ γ.β k g = some b ∧ g ≤ γ.gen k := by
  cases h with
  | c _ _ h => cases h with
    | rp _ _ _ _ _ b h1 h2 => exact ⟨b, rfl, h2, h1⟩

theorem AR.d_inv {v : Value} {x : D} (h : AR γ w v (.c (.d x))) : DR w (γ.at x.top0) v x := by
  cases h with
  | c _ _ h => cases h with
    | d _ _ h => exact h

theorem op_load {o : Oper} {t : TypeId} {x : Operand} {k g wd i j n : Nat} {R : Root} {r cs : List C} {ag : Bool} {y : A} (hd : st.fits o.dst = true) (ho : o.op = .load t x) (hx : evA st x = .c (.rp k g wd i j)) (hk : st.store k = some R) (hg : R.tag = g) (hw : R.wd = wd)
    (hr : R.rows[i]? = some r) (ha : aggT P t = some ag) (hn : szT P t = some n) (hs : seg r j n = some cs) (hy : mkA ag (cs.map C.lend) = some y) : OpOK P w0 own o st (st.put o.dst y) :=
  .value hd fun γ a w hR => by
    subst hg hw
    have hex : (execOp a.eval o).run P w = ((do pure (.value (← Instr.loadAt t (a.eval x)))) : Sem Next).run P w := by unfold execOp; rw [ho]
    have hv := hR.ev x
    rw [hx] at hv
    obtain ⟨b, e, hβ, _⟩ := hv.rp_inv
    have hm := hR.mem k R hk
    unfold RootOK at hm
    rw [hβ] at hm
    obtain ⟨arr, E, harr, hwd, hsz, hcell⟩ := hm
    obtain ⟨hl, hle, hget⟩ := seg_spec hs
    have hrl := hwd r (List.mem_of_getElem? hr)
    have hi : i < R.rows.length := (List.getElem?_eq_some_iff.1 hr).1
    have hpos : ∀ q, q < n → i * R.wd + j + q < arr.size := fun q hq => by
      have := row_lt (i := i) (j := j + q) (n := R.rows.length) (sz := R.wd) hi (by omega)
      omega
    have hread : ∀ q, q < n → w.cell? ⟨b, i * R.wd + j + q, none⟩ = some (arr.getD (i * R.wd + j + q) undef) := fun q hq => by
      simp [World.cell?, harr, hpos q hq]
    have hAR := AR.mkA (γ := γ) (w := w) (f := fun q => arr.getD (i * R.wd + j + q) undef) (by simpa using hl) hy (fun q z hz => by
      rw [List.getElem?_map] at hz
      obtain ⟨z0, h0, rfl⟩ := Option.map_eq_some_iff.1 hz
      have hq : q < n := by have := (List.getElem?_eq_some_iff.1 h0).1; omega
      rw [hget q hq] at h0
      have := hcell i (j + q) r z0 hr h0
      rw [← Nat.add_assoc] at this
      exact this.lend)
    refine ⟨γ, w, _, ?_, γ.le_refl, hR, hAR.1⟩
    rw [hex, e]
    simp only [Instr.loadAt, Instr.sureAddr, Sem.run_bind]
    rw [show ((pure (⟨b, i * R.wd + j, none⟩ : Addr) : Sem Addr).run P w) = .ok ⟨b, i * R.wd + j, none⟩ w from rfl]
    simp only [Result.andThen_ok]
    rw [run_loadVar _ ha hn hread hAR.2]
    rfl
end

section
open Go
set_option linter.unusedSimpArgs false
set_option linter.unusedVariables false

variable {P : Program} {w0 : World} {own : Nat → Prop} {γ : Gh} {st : St} {a : Act} {w : World}

/-- What is read of a cell behind a pointer to data. -/
def D.under (t : Nat) : D → C
  | .v x => .d (.v x)
  | .s _ z rows spare => .d (.s (if t = 0 then 0 else 2) z rows spare)
  | .p _ cells off => .d (.p (if t = 0 then 0 else 2) cells off)
  | .f fn first caps => if t = 0 then .d (.f fn first caps) else .non

theorem DR.retagp {G : Nat → Prop} {v : Value} {t : Nat} {cells : List D} {off : Nat} (t' : Nat) (h : DR w G v (.p t cells off)) : DR w G v (.p t' cells off) := by
  cases h with
  | p _ _ b o _ vs h1 h2 h3 => exact .p t' cells b o off vs h1 h2 h3

theorem DR.under {v : Value} {d : D} {t : Nat} (h : DR w (γ.at (t == 0)) v d) : CR γ w v (d.under t) := by
  by_cases ht : t = 0
  · subst ht
    have h' : DR w γ.F v d := h
    cases d with
    | v x => exact .d _ _ h'
    | s t' z rows spare => exact .d _ _ (h'.retag 0)
    | p t' cells off => exact .d _ _ (h'.retagp 0)
    | f fn first caps => exact .d _ _ h'
  · have h' : DR w γ.G v d := h.mono (γ.at_G _) (Same.refl _ _)
    cases d with
    | v x => cases h' with
      | v _ hp => exact .d _ _ (.v _ hp)
    | s t' z rows spare => simp only [D.under, ht, if_false]; exact .d _ _ (h'.retag 2)
    | p t' cells off => simp only [D.under, ht, if_false]; exact .d _ _ (h'.retagp 2)
    | f fn first caps => simp only [D.under, ht, if_false]; exact .non _

theorem op_loadp {o : Oper} {t : TypeId} {x : Operand} {tg off n : Nat} {cells cs : List D} {ag : Bool} {y : A} (hd : st.fits o.dst = true) (ho : o.op = .load t x) (hx : evA st x = .c (.d (.p tg cells off)))
    (ha : aggT P t = some ag) (hn : szT P t = some n) (hs : seg cells off n = some cs) (hy : mkA ag (cs.map (D.under tg)) = some y) : OpOK P w0 own o st (st.put o.dst y) :=
  .value hd fun γ a w hR => by
    have hex : (execOp a.eval o).run P w = ((do pure (.value (← Instr.loadAt t (a.eval x)))) : Sem Next).run P w := by unfold execOp; rw [ho]
    have hv := hR.ev x
    rw [hx] at hv
    have hv := hv.d_inv
    generalize a.eval x = v at hv hex
    cases hv with
    | p _ _ b o' _ vs h1 h2 h3 =>
      obtain ⟨hl, hle, hget⟩ := seg_spec hs
      have hread : ∀ q, q < n → w.cell? ⟨b, o' + off + q, none⟩ = some (vs (off + q)) := fun q hq => by rw [Nat.add_assoc]; exact h2 (off + q) (by omega)
      have hAR := AR.mkA (γ := γ) (w := w) (f := fun q => vs (off + q)) (by simpa using hl) hy (fun q z hz => by
        rw [List.getElem?_map] at hz
        obtain ⟨z0, h0, rfl⟩ := Option.map_eq_some_iff.1 hz
        have hq : q < n := by have := (List.getElem?_eq_some_iff.1 h0).1; omega
        rw [hget q hq] at h0
        exact (h3 (off + q) z0 h0).under)
      refine ⟨γ, w, _, ?_, γ.le_refl, hR, hAR.1⟩
      rw [hex]
      simp only [Instr.loadAt, Instr.sureAddr, Sem.run_bind]
      rw [show ((pure (⟨b, o' + off, none⟩ : Addr) : Sem Addr).run P w) = .ok ⟨b, o' + off, none⟩ w from rfl]
      simp only [Result.andThen_ok]
      rw [run_loadVar _ ha hn hread hAR.2]
      rfl

/-- A pointer so many cells on. -/
def A.ptrAdd (y : A) (n : Nat) : Option A :=
  match y with
  | .c (.rp k g wd i j) => some (.c (.rp k g wd i (j + n)))
  | .c (.d (.p tg cells o)) => some (.c (.d (.p tg cells (o + n))))
  | _ => none
def A.isPtr (y : A) : Bool := (y.ptrAdd 0).isSome

theorem AR.ptr {v : Value} {y : A} (h : AR γ w v y) (hy : y.isPtr = true) : ∃ b o, v = .pointer (some ⟨b, o, none⟩) ∧ ∀ n z, y.ptrAdd n = some z → AR γ w (.pointer (some ⟨b, o + n, none⟩)) z := by
  unfold A.isPtr at hy
  cases y with
  | c y =>
    cases y with
    | rp k g wd i j =>
      obtain ⟨b, e, hβ, hg⟩ := h.rp_inv
      refine ⟨b, i * wd + j, e, fun n z hz => ?_⟩
      simp only [A.ptrAdd, Option.some.injEq] at hz
      subst hz
      rw [Nat.add_assoc]
      exact .c _ _ (.rp _ _ _ _ _ _ hg hβ)
    | d x =>
      cases x with
      | p tg cells o' =>
        have hv := h.d_inv
        cases hv with
        | p _ _ b o2 _ vs h1 h2 h3 =>
          refine ⟨b, o2 + o', rfl, fun n z hz => ?_⟩
          simp only [A.ptrAdd, Option.some.injEq] at hz
          subst hz
          rw [Nat.add_assoc]
          exact .c _ _ (.d _ _ (.p tg cells b o2 (o' + n) vs h1 h2 h3))
      | _ => simp [A.ptrAdd] at hy
    | _ => simp [A.ptrAdd] at hy
  | _ => simp [A.ptrAdd] at hy

theorem A.isPtr_of {y z : A} {n : Nat} (h : y.ptrAdd n = some z) : y.isPtr = true := by
  unfold A.isPtr
  cases y with
  | c y => cases y with
    | rp => rfl
    | d x => cases x <;> first | rfl | simp [A.ptrAdd] at h
    | _ => simp [A.ptrAdd] at h
  | _ => simp [A.ptrAdd] at h

theorem run_fieldAt {t ft : TypeId} {f off n b o : Nat} (hf : fldT P t f = some (off, ft)) (hn : szT P ft = some n) (h0 : n ≠ 0) (w : World) :
    (Instr.fieldAt t (.pointer (some ⟨b, o, none⟩)) f).run P w = .ok (.pointer (some ⟨b, o + off, none⟩)) w := by
  unfold fldT at hf
  split at hf
  · rename_i fs hu
    obtain ⟨x, hx, e⟩ := Option.map_eq_some_iff.1 hf
    cases e
    unfold Instr.fieldAt
    rw [Sem.run_bind, run_under hu]
    simp only [Result.andThen_ok, hx, Sem.run_bind, Instr.sureAddr]
    rw [show ((pure (⟨b, o, none⟩ : Addr) : Sem Addr).run P w) = .ok ⟨b, o, none⟩ w from rfl]
    simp only [Result.andThen_ok, fieldPlace, Sem.run_bind, run_size hn, if_neg h0]
    rw [addr_add]
    rfl
  · cases hf

theorem op_fieldAddr {o : Oper} {t ft : TypeId} {x : Operand} {f off n : Nat} {y z : A} (hd : st.fits o.dst = true) (ho : o.op = .fieldAddr t x f) (hx : evA st x = y) (hf : fldT P t f = some (off, ft)) (hn : szT P ft = some n) (h0 : n ≠ 0)
    (hz : y.ptrAdd off = some z) : OpOK P w0 own o st (st.put o.dst z) :=
  .value hd fun γ a w hR => by
    have hex : (execOp a.eval o).run P w = ((do pure (.value (← Instr.fieldAt t (a.eval x) f))) : Sem Next).run P w := by unfold execOp; rw [ho]
    have hv := hR.ev x
    rw [hx] at hv
    obtain ⟨b, o', e, hp⟩ := hv.ptr (A.isPtr_of hz)
    exact ⟨γ, w, .pointer (some ⟨b, o' + off, none⟩), by rw [hex, e, Sem.run_bind, run_fieldAt hf hn h0]; rfl, γ.le_refl, hR, hp off z hz⟩

/-- An index among n. -/
def idx (x : Value) (n : Nat) : Option Nat := match x with | .int _ i => if 0 ≤ i ∧ i < n then some i.toNat else none | _ => none

theorem idx_spec {x : Value} {n q : Nat} (h : idx x n = some q) : ∃ kd, x = .int kd q ∧ q < n := by
  unfold idx at h
  split at h
  · rename_i kd i
    split at h
    · rename_i hi
      cases h
      exact ⟨kd, by rw [Int.toNat_of_nonneg hi.1], by omega⟩
    · cases h
  · cases h

theorem run_indexAt_array {t e : TypeId} {n sz q b o : Nat} {kd : IntKind} (ht : arT P t = some (n, e)) (hs : szT P e = some sz) (hq : q < n) (w : World) :
    (Instr.indexAt t (.pointer (some ⟨b, o, none⟩)) (.int kd q)).run P w = .ok (.pointer (some ⟨b, o + q * sz, none⟩)) w := by
  unfold arT at ht
  split at ht
  · rename_i n' e' hu
    cases ht
    have h1 : (0 : Int) ≤ (q : Int) ∧ (q : Int) < (n : Int) := by omega
    simp [Instr.indexAt, asIntOf, Instr.sureAddr, run_under hu, run_size hs, addr_add, Sem.run, h1]
    intro h; omega
  · cases ht

theorem run_indexAt_slice {t e : TypeId} {sz q b o len cap : Nat} {kd : IntKind} (ht : elT P t = some e) (hs : szT P e = some sz) (hq : q < len) (w : World) :
    (Instr.indexAt t (.slice (some ⟨b, o, none⟩) len cap) (.int kd q)).run P w = .ok (.pointer (some ⟨b, o + q * sz, none⟩)) w := by
  unfold elT at ht
  split at ht
  · rename_i e' hu
    cases ht
    have h1 : (0 : Int) ≤ (q : Int) ∧ (q : Int) < (len : Int) := by omega
    simp [Instr.indexAt, asIntOf, run_under hu, run_size hs, addr_add, Sem.run, h1]
    intro h; omega
  · cases ht

/-- The address of an array's element. -/
theorem op_indexArr {o : Oper} {t e : TypeId} {x ix : Operand} {n sz q : Nat} {u : Value} {y z : A} (hd : st.fits o.dst = true) (ho : o.op = .indexAddr t x ix) (hx : evA st x = y) (hix : evA st ix = sc u) (ht : arT P t = some (n, e)) (hs : szT P e = some sz) (hq : idx u n = some q)
    (hz : y.ptrAdd (q * sz) = some z) : OpOK P w0 own o st (st.put o.dst z) :=
  .value hd fun γ a w hR => by
    have hex : (execOp a.eval o).run P w = ((do pure (.value (← Instr.indexAt t (a.eval x) (a.eval ix)))) : Sem Next).run P w := by unfold execOp; rw [ho]
    have hv := hR.ev x
    rw [hx] at hv
    have hi := hR.ev ix
    rw [hix] at hi
    obtain ⟨kd, e1, hlt⟩ := idx_spec hq
    rw [(AR.sc_inv hi).1, e1] at hex
    obtain ⟨b, o', e, hp⟩ := hv.ptr (A.isPtr_of hz)
    exact ⟨γ, w, .pointer (some ⟨b, o' + q * sz, none⟩), by rw [hex, e, Sem.run_bind, run_indexAt_array ht hs hlt]; rfl, γ.le_refl, hR, hp _ z hz⟩

theorem AR.rs_inv {v : Value} {k g wd lo len kn : Nat} (h : AR γ w v (.c (.rs k g wd lo len kn))) :
    (∃ cap b E n, v = .slice (some ⟨b, lo * wd, none⟩) len cap ∧ γ.β k g = some b ∧ g ≤ γ.gen k ∧ w.shape? b = some (E, n) ∧ (lo + cap) * wd ≤ n ∧ len ≤ cap ∧ kn ≤ cap) ∨ ((∃ a, v = .slice a 0 0) ∧ lo = 0 ∧ len = 0 ∧ kn = 0 ∧ γ.β k g = none ∧ g ≤ γ.gen k) := by
  cases h with
  | c _ _ h => cases h with
    | rs _ _ _ _ _ _ cap b E n h1 h2 h3 h4 h5 h6 => exact .inl ⟨cap, b, E, n, rfl, h2, h1, h3, h4, h5, h6⟩
    | rn a _ _ _ h1 h2 => exact .inr ⟨⟨a, rfl⟩, rfl, rfl, rfl, h2, h1⟩

/-- The address of an element of a slice of one's own. -/
theorem op_indexOwn {o : Oper} {t e : TypeId} {x ix : Operand} {k g wd lo len kn q : Nat} {u : Value} (hd : st.fits o.dst = true) (ho : o.op = .indexAddr t x ix) (hx : evA st x = .c (.rs k g wd lo len kn)) (hix : evA st ix = sc u) (ht : elT P t = some e) (hs : szT P e = some wd) (hq : idx u len = some q) :
    OpOK P w0 own o st (st.put o.dst (.c (.rp k g wd (lo + q) 0))) :=
  .value hd fun γ a w hR => by
    have hex : (execOp a.eval o).run P w = ((do pure (.value (← Instr.indexAt t (a.eval x) (a.eval ix)))) : Sem Next).run P w := by unfold execOp; rw [ho]
    have hv := hR.ev x
    rw [hx] at hv
    have hi := hR.ev ix
    rw [hix] at hi
    obtain ⟨kd, e1, hlt⟩ := idx_spec hq
    rw [(AR.sc_inv hi).1, e1] at hex
    rcases hv.rs_inv with ⟨cap, b, E, n, e, hβ, hg, _⟩ | ⟨_, _, hl, _⟩
    · refine ⟨γ, w, .pointer (some ⟨b, lo * wd + q * wd, none⟩), ?_, γ.le_refl, hR, ?_⟩
      · rw [hex, e, Sem.run_bind, run_indexAt_slice ht hs hlt]; rfl
      · have := CR.rp (γ := γ) (w := w) k g wd (lo + q) 0 b hg hβ
        rw [Nat.add_mul, Nat.add_zero] at this
        exact .c _ _ this
    · omega

/-- The address of an element of a slice that is read. -/
theorem op_indexD {o : Oper} {t e : TypeId} {x ix : Operand} {tg sz q : Nat} {rows spare : List (List D)} {r : List D} {u : Value} (hd : st.fits o.dst = true) (ho : o.op = .indexAddr t x ix) (hx : evA st x = .c (.d (.s tg sz rows spare))) (hix : evA st ix = sc u) (ht : elT P t = some e) (hs : szT P e = some sz) (hq : idx u rows.length = some q)
    (hr : rows[q]? = some r) : OpOK P w0 own o st (st.put o.dst (.c (.d (.p tg r 0)))) :=
  .value hd fun γ a w hR => by
    have hex : (execOp a.eval o).run P w = ((do pure (.value (← Instr.indexAt t (a.eval x) (a.eval ix)))) : Sem Next).run P w := by unfold execOp; rw [ho]
    have hv := hR.ev x
    rw [hx] at hv
    have hi := hR.ev ix
    rw [hix] at hi
    obtain ⟨kd, e1, hlt⟩ := idx_spec hq
    rw [(AR.sc_inv hi).1, e1] at hex
    have hv := hv.d_inv
    generalize a.eval x = v at hv hex
    have hr' : (rows ++ spare)[q]? = some r := by rw [List.getElem?_append_left hlt]; exact hr
    cases hv with
    | e a' _ _ cap => simp at hlt
    | s _ _ _ b off cap sz' vs h1 h2 h3 h4 h5 =>
      have hl := h2 r (List.mem_of_getElem? hr')
      refine ⟨γ, w, .pointer (some ⟨b, off + q * sz, none⟩), ?_, γ.le_refl, hR, ?_⟩
      · rw [hex, Sem.run_bind, run_indexAt_slice ht hs hlt]; rfl
      · have := DR.p (w := w) (G := γ.at (D.top0 (.s tg sz rows spare))) tg r b (off + q * sz) 0 (vs q) h1 (fun j hj => by rw [Nat.add_assoc]; exact h4 q j (by omega) (by omega)) (fun j d hd => h5 q j r d hr' hd)
        exact .c _ _ (.d _ _ this)

theorem op_nilCheck {o : Oper} {x : Operand} {y : A} (hd : st.fits o.dst = true) (ho : o.op = .nilCheck x) (hx : evA st x = y) (hy : y.isPtr = true) : OpOK P w0 own o st (st.put o.dst y) :=
  .value hd fun γ a w hR => by
    have hv := hR.ev x
    rw [hx] at hv
    obtain ⟨b, o', e, _⟩ := hv.ptr hy
    refine ⟨γ, w, a.eval x, ?_, γ.le_refl, hR, hv⟩
    unfold execOp
    rw [ho]
    simp only [e]
    rfl

theorem op_extract {o : Oper} {x : Operand} {i : Nat} {xs : List A} {y : A} (hd : st.fits o.dst = true) (ho : o.op = .extract x i) (hx : evA st x = .tup xs) (hy : xs[i]? = some y) : OpOK P w0 own o st (st.put o.dst y) :=
  .value hd fun γ a w hR => by
    have hv := hR.ev x
    rw [hx] at hv
    have hex : (execOp a.eval o).run P w = ((do pure (.value (← Instr.extract (a.eval x) i))) : Sem Next).run P w := by unfold execOp; rw [ho]
    generalize a.eval x = v at hv hex
    cases hv with
    | tup vs _ hs hc =>
      have hi : i < vs.size := by rw [hs]; exact (List.getElem?_eq_some_iff.1 hy).1
      refine ⟨γ, w, vs.getD i undef, ?_, γ.le_refl, hR, hc i y hy⟩
      rw [hex]
      simp [Instr.extract, Sem.run, hi]
end

section
open Go
set_option linter.unusedSimpArgs false
set_option linter.unusedVariables false

variable {P : Program} {w0 : World} {own : Nat → Prop} {γ : Gh} {st : St} {a : Act} {w : World}

theorem run_storeVar {t : TypeId} {v : Value} {b o : Nat} {arr : Array Value} {E : TypeId} (hn : szT P t = some v.cells.size) (hb : w.heap[b]? = some (.cells arr E (0, 0))) (hf : o + v.cells.size ≤ arr.size) (h1 : ∀ x ∈ v.cells.toList, x.oneCell' = true) :
    (storeVar t ⟨b, o, none⟩ v).run P w = .ok () (w.setRow b (poke arr o v.cells.toList)) := by
  unfold storeVar
  rw [Sem.run_bind, run_size hn]
  simp only [Result.andThen_ok, ne_eq, not_true_eq_false, if_false]
  have := run_storeCells_at P b o E v.cells.toList 0 arr w hb (by simpa using hf) h1
  simp only [Nat.add_zero] at this
  simp [this, poke]

theorem op_store {o : Oper} {t : TypeId} {x y : Operand} {k g wd i j : Nat} {R : Root} {r cs : List C} (hd : st.fits o.dst = true) (ho : o.op = .store t x y) (hx : evA st x = .c (.rp k g wd i j)) (hk : st.store k = some R) (hg : R.tag = g) (hw : R.wd = wd)
    (hr : R.rows[i]? = some r) (hy : (evA st y).cells = some cs) (hok : cellsOK cs = true) (hn : szT P t = some cs.length) (hj : j + cs.length ≤ wd) :
    OpOK P w0 own o st ((st.set k { R with rows := R.rows.set i (splice r j cs) }).put o.dst .dead) :=
  .skip (by cases h : o.dst <;> simp_all [St.fits, St.set]) fun γ a w hR => by
    subst hg hw
    have hex : (execOp a.eval o).run P w = ((do Instr.storeAt t (a.eval x) (a.eval y); pure .skip) : Sem Next).run P w := by unfold execOp; rw [ho]
    have hv := hR.ev x
    rw [hx] at hv
    obtain ⟨b, e, hβ, _⟩ := hv.rp_inv
    obtain ⟨hs, hc⟩ := (hR.ev y).cells hy
    have hm := hR.mem k R hk
    unfold RootOK at hm
    rw [hβ] at hm
    obtain ⟨arr, E, harr, hwd, hsz, hcell⟩ := hm
    have hi : i < R.rows.length := (List.getElem?_eq_some_iff.1 hr).1
    have hfit : i * R.wd + j + (a.eval y).cells.size ≤ arr.size := by
      have : (i + 1) * R.wd ≤ R.rows.length * R.wd := Nat.mul_le_mul_right _ hi
      have : (i + 1) * R.wd = i * R.wd + R.wd := Nat.succ_mul _ _
      omega
    refine ⟨γ.drop k i j cs.length, w.setRow b (poke arr (i * R.wd + j) (a.eval y).cells.toList), ?_, γ.drop_le k i j cs.length, ?_⟩
    · rw [hex, e]
      simp only [Instr.storeAt, Instr.sureAddr, Sem.run_bind]
      rw [show ((pure (⟨b, i * R.wd + j, none⟩ : Addr) : Sem Addr).run P w) = .ok ⟨b, i * R.wd + j, none⟩ w from rfl]
      simp only [Result.andThen_ok]
      rw [run_storeVar (by rw [hs]; exact hn) harr hfit ?_]
      · rfl
      · intro z hz
        obtain ⟨q, hq, rfl⟩ := List.mem_iff_getElem.1 hz
        simp at hq
        have hcs := hc q cs[q] (by simp [← hs, hq])
        have := (hcs.one (cellsOK_get hok (by simp [← hs, hq] : cs[q]? = some cs[q])).2).2
        simpa [Array.getD, hq] using this
    · refine hR.write hk hβ harr hr hj (by simp [hs]) fun q z hz => ?_
      have := hc q z hz
      refine ⟨?_, (cellsOK_get hok hz).1⟩
      have hq : q < (a.eval y).cells.size := by rw [hs]; exact (List.getElem?_eq_some_iff.1 hz).1
      simpa [List.getD, Array.getD, hq] using this

/-- A value's one cell. -/
def A.one : A → Option C
  | .c .non => none
  | .c y => some y
  | _ => none
theorem AR.one {v : Value} {y : A} {z : C} (h : AR γ w v y) (hy : y.one = some z) : CR γ w v z := by
  cases y with
  | c y =>
    have : z = y := by cases y <;> simp_all [A.one]
    subst this
    cases h with
    | c _ _ h => exact h
  | _ => simp [A.one] at hy

def ones (st : St) : List Operand → Option (List C)
  | [] => some []
  | x :: l => match (evA st x).one, ones st l with | some y, some r => some (y :: r) | _, _ => none

theorem ones_spec (hR : Rel w0 own γ st a w) : ∀ (l : List Operand) (cs : List C), ones st l = some cs → l.length = cs.length ∧ ∀ i c, cs[i]? = some c → CR γ w ((l.map a.eval).toArray.getD i undef) c
  | [], cs, h => by simp [ones] at h; subst h; exact ⟨rfl, by simp⟩
  | x :: l, cs, h => by
    simp only [ones] at h
    split at h
    · rename_i y r h1 h2
      cases h
      obtain ⟨i1, i2⟩ := ones_spec hR l r h2
      refine ⟨by simp [i1], fun i c hc => ?_⟩
      cases i with
      | zero => simp at hc; subst hc; simpa [Array.getD] using (hR.ev x).one h1
      | succ i =>
        have := i2 i c (by simpa using hc)
        simpa [Array.getD_eq_getD_getElem?] using this
    · cases h

theorem op_makeFunc {o : Oper} {f : FuncId} {fst cap : List Operand} {cf cc : List C} (hd : st.fits o.dst = true) (ho : o.op = .makeFunc (.func f) fst.toArray cap.toArray) (h1 : ones st fst = some cf) (h2 : ones st cap = some cc) : OpOK P w0 own o st (st.put o.dst (.c (.cf f cf cc))) :=
  .value hd fun γ a w hR => by
    obtain ⟨l1, c1⟩ := ones_spec hR fst cf h1
    obtain ⟨l2, c2⟩ := ones_spec hR cap cc h2
    refine ⟨γ, w, .func (.func f) (fst.map a.eval).toArray (cap.map a.eval).toArray, ?_, γ.le_refl, hR, .c _ _ (.cf f cf cc _ _ (by simp [l1]) (by simp [l2]) c1 c2)⟩
    unfold execOp
    rw [ho]
    simp [Instr.makeFunc, Sem.run]

theorem run_part {t : TypeId} {vs : Array Value} {cs r : List C} {off n : Nat} {ag : Bool} {y : A} (hs : vs.size = cs.length) (hc : ∀ i c, cs[i]? = some c → CR γ w (vs.getD i undef) c) (ha : aggT P t = some ag) (hn : szT P t = some n) (hr : seg cs off n = some r) (hy : mkA ag r = some y) :
    ∃ v, (part t vs off).run P w = .ok v w ∧ AR γ w v y := by
  obtain ⟨hl, hle, hget⟩ := seg_spec hr
  have hAR := AR.mkA (γ := γ) (w := w) (f := fun q => vs.getD (off + q) undef) hl hy (fun q z hz => by
    have hq : q < n := by have := (List.getElem?_eq_some_iff.1 hz).1; omega
    rw [hget q hq] at hz
    exact hc (off + q) z hz)
  refine ⟨_, ?_, hAR.1⟩
  unfold part
  rw [Sem.run_bind, run_isAgg ha]
  simp only [Result.andThen_ok]
  cases ag with
  | true =>
    simp only [if_true]
    rw [Sem.run_bind, run_size hn]
    simp only [Result.andThen_ok]
    show Result.ok _ w = _
    congr 2
    apply Array.ext
    · simp; omega
    · intro i h1 h2
      simp at h1 h2
      have : off + i < vs.size := by omega
      simp [Array.getD, this]
  | false =>
    have := hAR.2 rfl
    have hlt : off < vs.size := by omega
    simp [Sem.run, hlt, Array.getD]

theorem op_field {o : Oper} {t ft : TypeId} {x : Operand} {f off n : Nat} {cs r : List C} {ag : Bool} {y : A} (hd : st.fits o.dst = true) (ho : o.op = .field t x f) (hx : evA st x = .agg cs) (hf : fldT P t f = some (off, ft)) (ha : aggT P ft = some ag) (hn : szT P ft = some n) (hr : seg cs off n = some r) (hy : mkA ag r = some y) :
    OpOK P w0 own o st (st.put o.dst y) :=
  .value hd fun γ a w hR => by
    have hv := hR.ev x
    rw [hx] at hv
    have hex : (execOp a.eval o).run P w = ((do pure (.value (← Instr.field t (a.eval x) f))) : Sem Next).run P w := by unfold execOp; rw [ho]
    generalize a.eval x = v at hv hex
    cases hv with
    | agg vs _ hs hc =>
      obtain ⟨v, h1, h2⟩ := run_part hs hc ha hn hr hy
      refine ⟨γ, w, v, ?_, γ.le_refl, hR, h2⟩
      rw [hex]
      unfold fldT at hf
      split at hf
      · rename_i fs hu
        obtain ⟨fi, hfi, e⟩ := Option.map_eq_some_iff.1 hf
        cases e
        simp [Instr.field, run_under hu, hfi, asAgg, Sem.run, h1]
      · cases hf

theorem op_index {o : Oper} {t e : TypeId} {x ix : Operand} {n sz q : Nat} {u : Value} {cs r : List C} {ag : Bool} {y : A} (hd : st.fits o.dst = true) (ho : o.op = .index t x ix) (hx : evA st x = .agg cs) (hix : evA st ix = sc u) (ht : arT P t = some (n, e)) (hq : idx u n = some q) (ha : aggT P e = some ag) (hn : szT P e = some sz)
    (hr : seg cs (q * sz) sz = some r) (hy : mkA ag r = some y) : OpOK P w0 own o st (st.put o.dst y) :=
  .value hd fun γ a w hR => by
    have hv := hR.ev x
    rw [hx] at hv
    have hi := hR.ev ix
    rw [hix] at hi
    obtain ⟨kd, e1, hlt⟩ := idx_spec hq
    have hex : (execOp a.eval o).run P w = ((do pure (.value (← Instr.index t (a.eval x) (a.eval ix)))) : Sem Next).run P w := by unfold execOp; rw [ho]
    rw [(AR.sc_inv hi).1, e1] at hex
    generalize a.eval x = v at hv hex
    cases hv with
    | agg vs _ hs hc =>
      obtain ⟨v, h1, h2⟩ := run_part hs hc ha hn hr hy
      refine ⟨γ, w, v, ?_, γ.le_refl, hR, h2⟩
      rw [hex]
      unfold arT at ht
      split at ht
      · rename_i n' e' hu
        cases ht
        have h0 : (0 : Int) ≤ (q : Int) ∧ (q : Int) < (n : Int) := by omega
        simp [Instr.index, run_under hu, asIntOf, Sem.run, run_size hn, h1, h0]
        intro h; omega
      · cases ht

/-! ### structs and arrays made of parts -/
theorem zipfold (off : Nat) : ∀ (vs : List Value) (k : Nat) (arr : Array Value), off + k + vs.length ≤ arr.size →
    ((vs.zipIdx k).foldl (fun cs (c, j) => cs.setIfInBounds (off + j) c) arr).size = arr.size ∧
    ∀ i, ((vs.zipIdx k).foldl (fun cs (c, j) => cs.setIfInBounds (off + j) c) arr).getD i undef = if off + k ≤ i ∧ i < off + k + vs.length then vs.getD (i - (off + k)) undef else arr.getD i undef
  | [], k, arr, _ => ⟨rfl, fun i => by simp; intro h1 h2; omega⟩
  | v :: vs, k, arr, h => by
    simp only [List.length_cons] at h
    obtain ⟨h1, h2⟩ := zipfold off vs (k + 1) (arr.setIfInBounds (off + k) v) (by simp; omega)
    refine ⟨by simpa using h1, fun i => ?_⟩
    have := h2 i
    simp only [List.zipIdx_cons, List.foldl_cons, List.length_cons]
    rw [this]
    by_cases hi : i = off + k
    · subst hi
      rw [if_neg (by omega), if_pos (by omega)]
      have hlt : off + k < arr.size := by omega
      simp [Array.getD_eq_getD_getElem?, hlt]
    · by_cases hb : off + (k + 1) ≤ i ∧ i < off + (k + 1) + vs.length
      · rw [if_pos hb, if_pos (by omega)]
        have e : i - (off + k) = (i - (off + (k + 1))) + 1 := by omega
        rw [e]; simp
      · rw [if_neg hb, if_neg (by omega)]
        rw [Array.getD_eq_getD_getElem?, Array.getElem?_setIfInBounds_ne (fun e => hi e.symm), ← Array.getD_eq_getD_getElem?]

def fillA (place : Nat → Option (Nat × Nat)) (cells : List C) : List (Nat × A) → Option (List C)
  | [] => some cells
  | (i, y) :: rest =>
    match place i, y.cells with
    | some (off, size), some cs => if cs.length = size ∧ off + size ≤ cells.length then fillA place (splice cells off cs) rest else none
    | _, _ => none

theorem fill_spec (place : Nat → Option (Nat × Nat)) : ∀ (ps : List (Nat × A)) (vs : List (Nat × Value)) (arr : Array Value) (cells out : List C), fillA place cells ps = some out → arr.size = cells.length → (∀ i c, cells[i]? = some c → CR γ w (arr.getD i undef) c) →
    vs.length = ps.length → (∀ (i : Nat) p u, ps[i]? = some p → vs[i]? = some u → p.1 = u.1 ∧ AR γ w u.2 p.2) →
    ∃ arr', Instr.fill place arr vs = some arr' ∧ arr'.size = out.length ∧ ∀ i c, out[i]? = some c → CR γ w (arr'.getD i undef) c
  | [], vs, arr, cells, out, h, hs, hc, hl, _ => by
    simp [fillA] at h; subst h
    simp at hl; subst hl
    exact ⟨arr, rfl, hs, hc⟩
  | (i, y) :: ps, [], arr, cells, out, h, hs, hc, hl, _ => by simp at hl
  | (i, y) :: ps, (i', v) :: vs, arr, cells, out, h, hs, hc, hl, hp => by
    obtain ⟨e, hAR⟩ := hp 0 (i, y) (i', v) rfl rfl
    simp only at e hAR
    subst e
    simp only [fillA] at h
    split at h
    · rename_i off size cs hpl hcs
      split at h
      · rename_i hfit
        obtain ⟨s1, s2⟩ := hAR.cells hcs
        have hsz : v.cells.size = size := by omega
        have hz := zipfold off v.cells.toList 0 arr (by simp; omega)
        have hne : ¬ ((decide (v.cells.size ≠ size) || decide (off + v.cells.size > arr.size)) = true) := by simp; omega
        simp only [Instr.fill, hpl]
        rw [if_neg (by simpa using hne)]
        have hfold : v.cells.zipIdx.foldl (fun cs (c, j) => cs.setIfInBounds (off + j) c) arr = (v.cells.toList.zipIdx 0).foldl (fun cs (c, j) => cs.setIfInBounds (off + j) c) arr := by
          rw [← Array.foldl_toList, Array.toList_zipIdx]
        rw [hfold]
        refine fill_spec place ps vs _ (splice cells off cs) out h ?_ ?_ (by simpa using hl) (fun j p u h1 h2 => hp (j + 1) p u (by simpa using h1) (by simpa using h2))
        · rw [hz.1, splice_length _ _ _ (by omega)]; exact hs
        · intro j c hj
          rw [splice_get _ _ _ (by omega)] at hj
          rw [hz.2]
          simp only [Nat.add_zero, Array.length_toList]
          by_cases hb : off ≤ j ∧ j < off + cs.length
          · rw [if_pos hb] at hj
            rw [if_pos (by omega)]
            have := s2 _ _ hj
            have hq : j - off < v.cells.size := by omega
            simpa [List.getD, Array.getD, hq] using this
          · rw [if_neg hb] at hj
            rw [if_neg (by omega)]
            exact hc j c hj
      · cases h
    · cases h

theorem run_mapM_list {α β : Type} (g : α → Sem β) (f : α → β) : ∀ l : List α, (∀ x ∈ l, (g x).run P w = .ok (f x) w) → (l.mapM g).run P w = .ok (l.map f) w
  | [], _ => by simp [Sem.run]
  | x :: l, h => by
    have ih := run_mapM_list g f l fun y hy => h y (List.mem_cons_of_mem _ hy)
    simp [List.mapM_cons, h x (List.mem_cons_self ..), ih, Sem.run]

theorem run_mapM {α β : Type} (g : α → Sem β) (f : α → β) (xs : Array α) (h : ∀ x ∈ xs.toList, (g x).run P w = .ok (f x) w) : (xs.mapM g).run P w = .ok (xs.map f) w := by
  have h1 := run_mapM_list (P := P) (w := w) g f xs.toList h
  rw [← Array.toList_mapM, Sem.run_map] at h1
  cases hm : (xs.mapM g).run P w with
  | ok arr w' =>
    rw [hm] at h1
    simp only [Result.andThen_ok, Result.ok.injEq] at h1
    obtain ⟨e1, e2⟩ := h1
    subst e2
    congr 1
    apply Array.ext'
    rw [e1]; simp
  | halt x w' => rw [hm] at h1; simp at h1

def placeT (P : Program) (t : TypeId) (i : Nat) : Option (Nat × Nat) := (fldT P t i).bind fun (off, ft) => (szT P ft).map fun n => (off, n)

def partsA (st : St) (l : List (Nat × Operand)) : List (Nat × A) := l.map fun (i, x) => (i, evA st x)

theorem partsA_spec (hR : Rel w0 own γ st a w) (ps : List (Nat × Operand)) (i : Nat) (p : Nat × A) (u : Nat × Value) (h1 : (partsA st ps)[i]? = some p) (h2 : (ps.map fun (i, x) => (i, a.eval x))[i]? = some u) : p.1 = u.1 ∧ AR γ w u.2 p.2 := by
  simp only [partsA, List.getElem?_map] at h1 h2
  cases hq : ps[i]? with
  | none => simp [hq] at h1
  | some q => simp [hq] at h1 h2; subst h1 h2; exact ⟨rfl, hR.ev q.2⟩

theorem zero_cells {l : List Value} {z : Value} (hz2 : z.cells.toList = l) (hp : l.all plain = true) (i : Nat) (c : C) (hc : (l.map fun x => C.d (.v x))[i]? = some c) : CR γ w (z.cells.getD i undef) c := by
  rw [List.getElem?_map] at hc
  obtain ⟨x, hx, rfl⟩ := Option.map_eq_some_iff.1 hc
  rw [← hz2] at hx
  simp at hx
  have : z.cells.getD i undef = x := by simp [Array.getD_eq_getD_getElem?, hx]
  rw [this]
  exact .d _ _ (.v x (List.all_eq_true.1 hp x (by rw [← hz2]; simp; exact Array.mem_of_getElem? hx)))

theorem fields_ok {P : Program} {t : TypeId} {fs : Array Field} (hu : P.underlying t = some (.struct fs)) (hsome : ∀ f ∈ fs.toList, (szT P f.type).isSome = true) (i : Nat) :
    (fs.map fun f => (f.offset, (szT P f.type).getD 0))[i]? = placeT P t i := by
  simp only [placeT, fldT, hu, Array.getElem?_map]
  cases hq : fs[i]? with
  | none => rfl
  | some f =>
    have := hsome f (by simp; exact Array.mem_of_getElem? hq)
    obtain ⟨n, hn⟩ := Option.isSome_iff_exists.1 this
    simp [hn]

theorem op_build {o : Oper} {t : TypeId} {ps : List (Nat × Operand)} {l : List Value} {out : List C} {fs : Array Field} (hd : st.fits o.dst = true) (ho : o.op = .build t ps.toArray) (hz : zeroT P t = some l) (hp : l.all plain = true)
    (hf : fillA (placeT P t) (l.map fun x => .d (.v x)) (partsA st ps) = some out) (hu : P.underlying t = some (.struct fs)) (hsome : ∀ f ∈ fs.toList, (szT P f.type).isSome = true) :
    OpOK P w0 own o st (st.put o.dst (.agg out)) :=
  .value hd fun γ a w hR => by
    obtain ⟨z, hz1, hz2⟩ := run_zero hz w
    have hex : (execOp a.eval o).run P w = ((do pure (.value (← Instr.build t (ps.toArray.map fun (i, x) => (i, a.eval x))))) : Sem Next).run P w := by unfold execOp; rw [ho]
    obtain ⟨arr', f1, f2, f3⟩ := fill_spec (γ := γ) (w := w) (placeT P t) (partsA st ps) (ps.map fun (i, x) => (i, a.eval x)) z.cells _ out hf (by rw [← hz2]; simp) (zero_cells hz2 hp) (by simp [partsA]) (fun i p u h1 h2 => partsA_spec hR ps i p u h1 h2)
    refine ⟨γ, w, .agg arr', ?_, γ.le_refl, hR, .agg _ _ f2 f3⟩
    have hplaces : (fs.mapM fun f => do pure (f.offset, ← Go.sizeOf f.type) : Sem (Array (Nat × Nat))).run P w = .ok (fs.map fun f => (f.offset, (szT P f.type).getD 0)) w := by
      refine run_mapM _ _ fs fun f hf => ?_
      obtain ⟨n, hn⟩ := Option.isSome_iff_exists.1 (hsome f hf)
      simp [run_size hn, hn, Sem.run]
    have hfun : (fun i => (fs.map fun f => (f.offset, (szT P f.type).getD 0))[i]?) = placeT P t := funext fun i => fields_ok hu hsome i
    rw [hex]
    simp only [Instr.build, Sem.run_bind, hz1, Result.andThen_ok, run_under hu, hplaces]
    rw [hfun]
    simp [f1, Sem.run]

theorem op_buildArr {o : Oper} {t e : TypeId} {n sz : Nat} {ps : List (Nat × Operand)} {l : List Value} {out : List C} (hd : st.fits o.dst = true) (ho : o.op = .build t ps.toArray) (hz : zeroT P t = some l) (hp : l.all plain = true) (ht : arT P t = some (n, e)) (hsz : szT P e = some sz)
    (hf : fillA (fun i => some (i * sz, sz)) (l.map fun x => .d (.v x)) (partsA st ps) = some out) :
    OpOK P w0 own o st (st.put o.dst (.agg out)) :=
  .value hd fun γ a w hR => by
    obtain ⟨z, hz1, hz2⟩ := run_zero hz w
    have hex : (execOp a.eval o).run P w = ((do pure (.value (← Instr.build t (ps.toArray.map fun (i, x) => (i, a.eval x))))) : Sem Next).run P w := by unfold execOp; rw [ho]
    obtain ⟨arr', f1, f2, f3⟩ := fill_spec (γ := γ) (w := w) (fun i => some (i * sz, sz)) (partsA st ps) (ps.map fun (i, x) => (i, a.eval x)) z.cells _ out hf (by rw [← hz2]; simp) (zero_cells hz2 hp) (by simp [partsA]) (fun i p u h1 h2 => partsA_spec hR ps i p u h1 h2)
    refine ⟨γ, w, .agg arr', ?_, γ.le_refl, hR, .agg _ _ f2 f3⟩
    unfold arT at ht
    split at ht
    · rename_i n' e' hu
      cases ht
      rw [hex]
      simp only [Instr.build, Sem.run_bind, hz1, Result.andThen_ok, run_under hu, run_size hsz]
      simp [f1, Sem.run]
    · cases ht
end

section
open Go
set_option linter.unusedSimpArgs false
set_option linter.unusedVariables false

variable {P : Program} {w0 : World} {own : Nat → Prop} {γ : Gh} {st : St} {a : Act} {w : World}

/-- What may lie in an own row that is handed on: own slices, and what never turns. -/
def D.keeps : D → Bool
  | .s t _ _ _ => t == 0 || t == 1
  | .p t _ _ => t == 0
  | _ => true

def emb (rows : List (List D)) : List (List C) := rows.map fun r => r.map C.d

theorem emb_get {rows : List (List D)} {i j : Nat} {r : List D} {d : D} (h : rows[i]? = some r) (h2 : r[j]? = some d) : ∃ r', (emb rows)[i]? = some r' ∧ r'[j]? = some (.d d) := by
  refine ⟨r.map C.d, ?_, ?_⟩
  · simp [emb, h]
  · simp [h2]

def Gh.move (γ : Gh) (k i j k2 g2 len : Nat) : Gh :=
  { γ with
    F := fun c => γ.F c ∨ γ.FP k i j c ∨ ∃ i' j', len ≤ i' ∧ γ.FP k2 i' j' c
    FP := fun k' i' j' c => if k' = k ∧ i' = i ∧ j' = j then γ.β k2 g2 = some c ∨ ∃ i2 j2, i2 < len ∧ γ.FP k2 i2 j2 c else k' ≠ k2 ∧ γ.FP k' i' j' c }

theorem Gh.move_G {γ : Gh} {k i j k2 g2 len : Nat} (c : Nat) (h : γ.G c) : (γ.move k i j k2 g2 len).G c := by
  rcases h with h | ⟨k', i', j', h⟩
  · exact .inl (.inl h)
  · by_cases e : k' = k ∧ i' = i ∧ j' = j
    · obtain ⟨rfl, rfl, rfl⟩ := e; exact .inl (.inr (.inl h))
    · by_cases e2 : k' = k2
      · subst e2
        by_cases hl : i' < len
        · exact .inr ⟨k, i, j, by simp only [Gh.move, and_self, if_true]; exact .inr ⟨i', j', hl, h⟩⟩
        · exact .inl (.inr (.inr ⟨i', j', by omega, h⟩))
      · exact .inr ⟨k', i', j', by simp only [Gh.move, e, if_false]; exact ⟨e2, h⟩⟩

theorem Gh.move_G' {γ : Gh} {k i j k2 g2 len : Nat} (c : Nat) (h : (γ.move k i j k2 g2 len).G c) : γ.G c ∨ γ.β k2 g2 = some c := by
  rcases h with (h | h | ⟨i', j', _, h⟩) | ⟨k', i', j', h⟩
  · exact .inl (.inl h)
  · exact .inl (.inr ⟨_, _, _, h⟩)
  · exact .inl (.inr ⟨_, _, _, h⟩)
  · simp only [Gh.move] at h
    split at h
    · rcases h with h | ⟨i2, j2, _, h⟩
      · exact .inr h
      · exact .inl (.inr ⟨_, _, _, h⟩)
    · exact .inl (.inr ⟨_, _, _, h.2⟩)

theorem Gh.move_le (γ : Gh) (k i j k2 g2 len : Nat) : γ.le (γ.move k i j k2 g2 len) :=
  { gen := fun _ => Nat.le_refl _, β := fun _ _ _ => rfl, F := fun c hc => .inl hc, G := fun c hc => Gh.move_G c hc, F0 := rfl }

def St.del (st : St) (k : Nat) : St := { st with store := fun i => if i = k then none else st.store i }

/-- A row of one's own goes into a cell: from then on it is that cell's. -/
theorem Rel.movein (h : Rel w0 own γ st a w) {k k2 i j len kn : Nat} {R R2 : Root} {r : List C} {rowsD : List (List D)} (hk : st.store k = some R) (hr : R.rows[i]? = some r) (hj : r[j]? = some (.rs k2 R2.tag R2.wd 0 len kn)) (hne : k2 ≠ k) (hk2 : st.store k2 = some R2)
    (hlen : len ≤ R2.rows.length) (hD : R2.rows = emb rowsD) (hkeep : (rowsD.all fun r => r.all D.keeps) = true) :
    Rel w0 own (γ.move k i j k2 R2.tag len) ((st.del k2).set k { R with rows := R.rows.set i (r.set j (.d (.s 1 R2.wd (rowsD.take len) []))) }) a w := by
  have hle := γ.move_le k i j k2 R2.tag len
  have hS : Same γ.G w w := .refl _ _
  have hz := Shapes.refl w
  have hi : i < R.rows.length := (List.getElem?_eq_some_iff.1 hr).1
  have hjl : j < r.length := (List.getElem?_eq_some_iff.1 hj).1
  have hstore : ∀ k' R', ((st.del k2).set k { R with rows := R.rows.set i (r.set j (.d (.s 1 R2.wd (rowsD.take len) []))) }).store k' = some R' → (k' = k ∧ R' = { R with rows := R.rows.set i (r.set j (.d (.s 1 R2.wd (rowsD.take len) []))) }) ∨ (k' ≠ k ∧ k' ≠ k2 ∧ st.store k' = some R') := by
    intro k' R' h1
    simp only [St.set, St.del] at h1
    split at h1
    · cases h1; exact .inl ⟨‹_›, rfl⟩
    · split at h1
      · cases h1
      · exact .inr ⟨‹_›, ‹_›, h1⟩
  have hold : ∀ k' R', ((st.del k2).set k { R with rows := R.rows.set i (r.set j (.d (.s 1 R2.wd (rowsD.take len) []))) }).store k' = some R' → ∃ R0, st.store k' = some R0 ∧ R0.tag = R'.tag ∧ k' ≠ k2 := by
    intro k' R' h1
    rcases hstore k' R' h1 with ⟨rfl, rfl⟩ | ⟨_, h2, h3⟩
    · exact ⟨R, hk, rfl, fun e => hne e.symm⟩
    · exact ⟨R', h3, rfl, h2⟩
  have hb2 : ∀ c, γ.β k2 R2.tag = some c → ¬ γ.F c ∧ (∀ k' i j, ¬ γ.FP k' i j c) ∧ (own c ∨ w0.heap.size ≤ c) := fun c hc => h.rootF k2 R2 c hk2 hc
  refine { env := h.env, size := h.size, defers := h.defers, tmps := fun q => (h.tmps q).mono hle hS hz, gen := h.gen, tag := ?_, mem := ?_, inj := ?_, rootF := ?_, fpF := ?_, fpD := ?_, fs := fun b hF => hF.elim (h.fs b) fun hF => hF.elim (fun hf => .inr (h.fpF _ _ _ _ hf).2) fun ⟨_, _, _, hf⟩ => .inr (h.fpF _ _ _ _ hf).2, lt := ?_, ltβ := h.ltβ }
  · intro k' R' h1
    obtain ⟨R0, q1, q2, _⟩ := hold k' R' h1
    rw [← q2]; exact h.tag k' R0 q1
  · intro k' R' h1
    rcases hstore k' R' h1 with ⟨rfl, rfl⟩ | ⟨n1, n2, h3⟩
    · have hm := h.mem k' R hk
      unfold RootOK at hm ⊢
      show match γ.β k' R.tag with | none => _ | some b => _
      split at hm
      · rename_i hn; rw [hm] at hi; simp at hi
      · rename_i b hβ
        simp only [hβ]
        obtain ⟨arr, E, harr, hw, hsz, hcell⟩ := hm
        have hcell0 := hcell i j r _ hr hj
        refine ⟨arr, E, harr, ?_, by simpa using hsz, ?_⟩
        · intro x hx
          rcases List.mem_or_eq_of_mem_set hx with hx | hx
          · exact hw x hx
          · subst hx; simpa using hw r (List.mem_of_getElem? hr)
        · intro i' j' r' c hr' hc'
          by_cases e : i' = i ∧ j' = j
          · obtain ⟨rfl, rfl⟩ := e
            rw [List.getElem?_set_self hi] at hr'
            cases hr'
            rw [List.getElem?_set_self hjl] at hc'
            cases hc'
            simp only [SR]
            have hcr : CR γ w (arr.getD (i' * R.wd + j') undef) (.rs k2 R2.tag R2.wd 0 len kn) := hcell0
            generalize arr.getD (i' * R.wd + j') undef = v at hcr
            have hm2 := h.mem k2 R2 hk2
            unfold RootOK at hm2
            rcases (AR.c (γ := γ) _ _ hcr).rs_inv with ⟨cap, b2, E2, n, rfl, hβ2, hg2, hsh, hcap, hlc, _⟩ | ⟨⟨_, rfl⟩, _, hl0, _, hβ2, _⟩
            · rw [hβ2] at hm2
              obtain ⟨arr2, E2', harr2, hw2, hsz2, hcell2⟩ := hm2
              have hn : n = arr2.size := by simp [World.shape?, harr2] at hsh; exact hsh.2.symm
              have hlen' : (rowsD.take len).length = len := by have : rowsD.length = R2.rows.length := by rw [hD]; simp [emb]
                                                               simp; omega
              have hget : ∀ q x y (rr : List D) d, (rowsD.take len ++ [])[x]? = some rr → rr[y]? = some d → q = OD w (γ.move k' i' j' k2 R2.tag len).F (arr2.getD (x * R2.wd + y) undef) d (γ.FP k2 x y) → q := by
                intro q x y rr d h1 h2 hq
                subst hq
                rw [List.append_nil] at h1
                have hx : x < len := by have := (List.getElem?_eq_some_iff.1 h1).1; omega
                rw [List.getElem?_take, if_pos hx] at h1
                obtain ⟨r2, g1, g2⟩ := emb_get h1 h2
                rw [← hD] at g1
                have hsr := hcell2 x y r2 _ g1 g2
                have hk : d.keeps = true := List.all_eq_true.1 (List.all_eq_true.1 hkeep rr (List.mem_of_getElem? h1)) d (List.mem_of_getElem? h2)
                have hFle : ∀ b, γ.F b → (γ.move k' i' j' k2 R2.tag len).F b := fun b hb => .inl hb
                unfold SR at hsr
                split at hsr
                · rename_i heq; cases heq; exact OD.mono hFle (Same.refl _ _) hsr (Same.refl _ _)
                · rename_i hne'
                  have ht : d.top0 = true := by
                    cases d with
                    | s t z rr' sp =>
                      simp [D.keeps] at hk
                      rcases hk with rfl | rfl
                      · rfl
                      · exact (hne' z rr' sp rfl).elim
                    | p t cells off => simpa [D.keeps, D.top0] using hk
                    | _ => rfl
                  have hdr : DR w γ.F (arr2.getD (x * R2.wd + y) undef) d := by
                    have hh := (AR.c (γ := γ) _ _ hsr).d_inv
                    rw [ht] at hh; exact hh
                  refine .r _ _ _ (fun z rr' sp e => ?_) (hdr.mono hFle (Same.refl _ _))
                  exact hne' z rr' sp (by rw [e])
              have := OD.s (w := w) (G := (γ.move k' i' j' k2 R2.tag len).F) (rowsD.take len) [] b2 cap R2.wd arr2 E2' ((γ.move k' i' j' k2 R2.tag len).FP k' i' j') (fun x y => if x < len then γ.FP k2 x y else fun _ => False)
                (by simp only [Gh.move, and_self, if_true]; exact .inl hβ2) harr2 ?_ (by rw [hlen']; simpa using hlc) (by rw [← hn]; simpa using hcap) ?_ ?_ ?_
              · rw [hlen'] at this
                simpa using this
              · intro rr hrr
                rw [List.append_nil] at hrr
                obtain ⟨x, hx⟩ := List.getElem?_of_mem hrr
                have hxl : x < len := by have := (List.getElem?_eq_some_iff.1 hx).1; omega
                rw [List.getElem?_take, if_pos hxl] at hx
                have : rr.map C.d ∈ R2.rows := by rw [hD]; exact List.mem_map.2 ⟨rr, List.mem_of_getElem? hx, rfl⟩
                simpa using hw2 _ this
              · intro x y rr d h1 h2
                have hx : x < len := by
                  rw [List.append_nil] at h1
                  have := (List.getElem?_eq_some_iff.1 h1).1; omega
                simp only [hx, if_true]
                exact hget _ x y rr d h1 h2 rfl
              · intro x y c hc
                split at hc
                · rename_i hx
                  refine ⟨?_, fun e => ?_⟩
                  · simp only [Gh.move, and_self, if_true]; exact .inr ⟨x, y, hx, hc⟩
                  · subst e; exact (hb2 c hβ2).2.1 _ _ _ hc
                · exact hc.elim
              · intro x y x' y' c h1 h2
                split at h1
                · split at h2
                  · obtain ⟨_, e1, e2⟩ := h.fpD _ _ _ _ _ _ _ h1 h2; exact ⟨e1, e2⟩
                  · exact h2.elim
                · exact h1.elim
            · subst hl0
              simp only [List.take_zero]
              exact .n _ _ _
          · have hc2 : ∃ r0, R.rows[i']? = some r0 ∧ r0[j']? = some c := by
              by_cases ei : i' = i
              · subst ei
                rw [List.getElem?_set_self hi] at hr'
                cases hr'
                rw [List.getElem?_set_ne (fun e2 => e ⟨rfl, e2.symm⟩)] at hc'
                exact ⟨r, hr, hc'⟩
              · rw [List.getElem?_set_ne (fun e2 => ei e2.symm)] at hr'
                exact ⟨r', hr', hc'⟩
            obtain ⟨r0, g1, g2⟩ := hc2
            have e2 : (γ.move k' i j k2 R2.tag len).FP k' i' j' = γ.FP k' i' j' := by
              funext c
              simp only [Gh.move, true_and, e, if_false]
              exact propext ⟨fun q => q.2, fun q => ⟨fun e => hne e.symm, q⟩⟩
            rw [e2]
            exact (hcell i' j' r0 c g1 g2).mono hle hS hz (Same.refl _ _)
    · refine (h.mem k' R' h3).mono hle hS hz (by rw [h.gen]; exact h.tag k' R' h3) (fun _ _ => rfl) (fun i' j' r' c _ _ b => ?_)
      simp [Gh.move, n1, n2]
  · intro k1 R1 k3 R3 b h1 h3 h4 h5
    obtain ⟨R1', g1, e1, _⟩ := hold k1 R1 h1
    obtain ⟨R3', g3, e3, _⟩ := hold k3 R3 h3
    exact h.inj k1 R1' k3 R3' b g1 g3 (by rw [e1]; exact h4) (by rw [e3]; exact h5)
  · intro k1 R1 b h1 h3
    obtain ⟨R1', g1, e1, n2⟩ := hold k1 R1 h1
    have hβ1 : γ.β k1 R1'.tag = some b := by rw [e1]; exact h3
    obtain ⟨p1, p2, p3⟩ := h.rootF k1 R1' b g1 hβ1
    refine ⟨fun hF => ?_, fun k' i' j' hf => ?_, p3⟩
    · rcases hF with hF | hF | ⟨_, _, _, hF⟩
      · exact p1 hF
      · exact p2 _ _ _ hF
      · exact p2 _ _ _ hF
    · simp only [Gh.move] at hf
      split at hf
      · rcases hf with hf | ⟨_, _, _, hf⟩
        · exact n2 (h.inj k1 R1' k2 R2 b g1 hk2 hβ1 hf)
        · exact p2 _ _ _ hf
      · exact p2 _ _ _ hf.2
  · intro k1 i1 j1 b hf
    simp only [Gh.move] at hf
    split at hf
    · rename_i e
      rcases hf with hf | ⟨i2, j2, hl2, hf⟩
      · obtain ⟨p1, p2, p3⟩ := hb2 b hf
        refine ⟨fun hF => ?_, p3⟩
        rcases hF with hF | hF | ⟨_, _, _, hF⟩
        · exact p1 hF
        · exact p2 _ _ _ hF
        · exact p2 _ _ _ hF
      · obtain ⟨p1, p2⟩ := h.fpF _ _ _ _ hf
        refine ⟨fun hF => ?_, p2⟩
        rcases hF with hF | hF | ⟨i3, j3, hl3, hF⟩
        · exact p1 hF
        · exact hne (h.fpD _ _ _ _ _ _ _ hf hF).1
        · have := (h.fpD _ _ _ _ _ _ _ hf hF).2.1; omega
    · rename_i e
      obtain ⟨n2, hf⟩ := hf
      obtain ⟨p1, p2⟩ := h.fpF _ _ _ _ hf
      refine ⟨fun hF => ?_, p2⟩
      rcases hF with hF | hF | ⟨i3, j3, hl3, hF⟩
      · exact p1 hF
      · exact e (h.fpD _ _ _ _ _ _ _ hf hF)
      · exact n2 (h.fpD _ _ _ _ _ _ _ hf hF).1
  · intro k1 i1 j1 k3 i3 j3 b h1 h3
    simp only [Gh.move] at h1 h3
    split at h1 <;> split at h3
    · rename_i e1 e3; obtain ⟨rfl, rfl, rfl⟩ := e1; obtain ⟨rfl, rfl, rfl⟩ := e3; exact ⟨rfl, rfl, rfl⟩
    · rcases h1 with h1 | ⟨_, _, _, h1⟩
      · exact ((hb2 b h1).2.1 _ _ _ h3.2).elim
      · exact (h3.1 (h.fpD _ _ _ _ _ _ _ h1 h3.2).1.symm).elim
    · rcases h3 with h3 | ⟨_, _, _, h3⟩
      · exact ((hb2 b h3).2.1 _ _ _ h1.2).elim
      · exact (h1.1 (h.fpD _ _ _ _ _ _ _ h3 h1.2).1.symm).elim
    · exact h.fpD _ _ _ _ _ _ _ h1.2 h3.2
  · intro b hG
    rcases Gh.move_G' b hG with hG | hβ
    · exact h.lt b hG
    · exact h.ltβ k2 R2.tag b (by rw [h.gen]; exact h.tag k2 R2 hk2) hβ
end
end Vm
