/- An interpreter for Go's texts over plain data, its proof, and what it says of the functions that the law reaches. My own work. -/
import Derived.Tactics
import Derived.Orders
import Derived.Below
import Derived.Laws.CopyRow
import Derived.Laws.Cells
import Derived.Deep.LoopGhost
import Derived.LoopN
import Derived.ChangeKeysEq
import Derived.Laws.StructEq
import Derived.Laws.Slices
import Derived.Deep.AppendSrc
import Derived.Deep.Upon
import Derived.Laws.MakeOwn
import Derived.Laws.Cover3
import Derived.Lib.Overlaps
import Derived.Lib.AppendZerosOnto
import Derived.KernelRfl
import Derived.WalkKit
import Derived.ProofKit
import Derived.OpenShut
import Derived.ShutString
import Derived.ChangeOld
import Derived.SizedLaws
import Derived.Carry
import Derived.Lib.SmallJoins
import Derived.Deep.Slices
import Derived.Test.YtnhodnfnlnccaaaGreatProg
set_option linter.unusedSimpArgs false
set_option linter.unusedVariables false
set_option maxRecDepth 100000
set_option maxHeartbeats 2000000
namespace Vm
section
open Go
inductive D where
  | v (x : Value)
  | s (t z : Nat) (rows spare : List (List D))
  | p (t : Nat) (cells : List D) (off : Nat)
  | f (fn : FuncId) (first caps : List D)
  deriving Inhabited
def plain : Value → Bool
  | .bool _ | .int _ _ | .float _ _ | .complex _ _ _ | .string _ | .pointer none | .slice none 0 0 | .nilFunc | .nilIface | .map none | .chan none => true
  | _ => false
abbrev AG : Nat := 4294967295
inductive DR (w : World) (G : Nat → Prop) : Value → D → Prop
  | v (x : Value) : plain x = true → DR w G x (.v x)
  | e (a : Option Addr) (t z cap : Nat) : DR w G (.slice a 0 cap) (.s t z [] [])
  | s (t : Nat) (rows spare : List (List D)) (b off cap sz : Nat) (vs : Nat → Nat → Value) : G b → (∀ r ∈ rows ++ spare, r.length = sz) → rows.length + spare.length ≤ cap →
      (∀ i j, i < rows.length + spare.length → j < sz → w.cell? ⟨b, off + (i * sz + j), none⟩ = some (vs i j)) →
      (∀ i j r d, (rows ++ spare)[i]? = some r → r[j]? = some d → DR w G (vs i j) d) →
      DR w G (.slice (some ⟨b, off, none⟩) rows.length cap) (.s t sz rows spare)
  | p (t : Nat) (cells : List D) (b o off : Nat) (vs : Nat → Value) : G b → (∀ j, j < cells.length → w.cell? ⟨b, o + j, none⟩ = some (vs j)) →
      (∀ j d, cells[j]? = some d → DR w G (vs j) d) → DR w G (.pointer (some ⟨b, o + off, none⟩)) (.p t cells off)
  | f (fn : FuncId) (first caps : List D) (fv cv : Array Value) : fn ≠ AG → fv.size = first.length → cv.size = caps.length →
      (∀ i d, first[i]? = some d → DR w G (fv.getD i undef) d) → (∀ i d, caps[i]? = some d → DR w G (cv.getD i undef) d) →
      DR w G (.func (.func fn) fv cv) (.f fn first caps)
  | a (cells : List D) (vs : Array Value) : vs.size = cells.length → (∀ i d, cells[i]? = some d → DR w G (vs.getD i undef) d) → DR w G (.agg vs) (.f AG [] cells)
def Same (G : Nat → Prop) (w w' : World) : Prop := ∀ b, G b → w'.heap[b]? = w.heap[b]?
theorem Same.refl (G : Nat → Prop) (w : World) : Same G w w := fun _ _ => rfl
theorem Same.mono {G G' : Nat → Prop} {w w' : World} (h : Same G w w') (hg : ∀ b, G' b → G b) : Same G' w w' := fun b hb => h b (hg b hb)
theorem cell_of_block {w w' : World} {a : Addr} (h : w'.heap[a.block]? = w.heap[a.block]?) : w'.cell? a = w.cell? a := by
  simp only [World.cell?, h]
theorem DR.mono {w w' : World} {G G' : Nat → Prop} (hg : ∀ b, G b → G' b) (hs : Same G w w') {v : Value} {d : D} (h : DR w G v d) : DR w' G' v d := by
  induction h with
  | v x hx => exact .v x hx
  | e a t z cap => exact .e a t z cap
  | s t rows spare b off cap sz vs hb hr hl hc _ ih =>
    exact .s t rows spare b off cap sz vs (hg b hb) hr hl (fun i j hi hj => by rw [cell_of_block (hs b hb)]; exact hc i j hi hj) ih
  | p t cells b o off vs hb hc _ ih =>
    exact .p t cells b o off vs (hg b hb) (fun j hj => by rw [cell_of_block (hs b hb)]; exact hc j hj) ih
  | f fn first caps fv cv h0 h1 h2 _ _ ih1 ih2 => exact .f fn first caps fv cv h0 h1 h2 ih1 ih2
  | a cells vs h1 _ ih => exact .a cells vs h1 ih
inductive OD (w : World) (G : Nat → Prop) : Value → D → (Nat → Prop) → Prop
  | r (v : Value) (d : D) (S : Nat → Prop) : (∀ z rows spare, d ≠ .s 1 z rows spare) → DR w G v d → OD w G v d S
  | n (a : Option Addr) (z : Nat) (S : Nat → Prop) : OD w G (.slice a 0 0) (.s 1 z [] []) S
  | s (rows spare : List (List D)) (b cap sz : Nat) (arr : Array Value) (E : TypeId) (S : Nat → Prop) (sub : Nat → Nat → Nat → Prop) : S b → w.heap[b]? = some (.cells arr E (0, 0)) →
      (∀ r ∈ rows ++ spare, r.length = sz) → rows.length + spare.length ≤ cap → cap * sz ≤ arr.size →
      (∀ i j r d, (rows ++ spare)[i]? = some r → r[j]? = some d → OD w G (arr.getD (i * sz + j) undef) d (sub i j)) →
      (∀ i j c, sub i j c → S c ∧ c ≠ b) → (∀ i j i' j' c, sub i j c → sub i' j' c → i = i' ∧ j = j') →
      OD w G (.slice (some ⟨b, 0, none⟩) rows.length cap) (.s 1 sz rows spare) S
theorem OD.mono {w w' : World} {G G' : Nat → Prop} (hg : ∀ b, G b → G' b) (hs : Same G w w') {v : Value} {d : D} {S : Nat → Prop} (h : OD w G v d S) :
    Same S w w' → OD w' G' v d S := by
  induction h with
  | r v d S hd h => exact fun _ => .r v d S hd (h.mono hg hs)
  | n a z S => exact fun _ => .n a z S
  | s rows spare b cap sz arr E S sub hb ha hr hl hc _ hsub hdis ih =>
    intro hS
    exact .s rows spare b cap sz arr E S sub hb (by rw [hS b hb]; exact ha) hr hl hc
      (fun i j r d h1 h2 => ih i j r d h1 h2 (hS.mono fun c hc => (hsub i j c hc).1)) hsub hdis
theorem OD.wider {w : World} {G : Nat → Prop} {v : Value} {d : D} {S S' : Nat → Prop} (h : OD w G v d S) (hS : ∀ b, S b → S' b) : OD w G v d S' := by
  cases h with
  | r v d S hd h => exact .r v d S' hd h
  | n a z S => exact .n a z S'
  | s rows spare b cap sz arr E S sub hb ha hr hl hc hn hsub hdis =>
    exact .s rows spare b cap sz arr E S' sub (hS b hb) ha hr hl hc hn (fun i j c h => ⟨hS c (hsub i j c h).1, (hsub i j c h).2⟩) hdis
theorem Zbc {i j n sz : Nat} (hi : i < n) (hj : j < sz) : i * sz + j < n * sz := by
  have : (i + 1) * sz ≤ n * sz := Nat.mul_le_mul_right sz hi
  have : (i + 1) * sz = i * sz + sz := by rw [Nat.succ_mul]
  omega
theorem OD.read {w : World} {G G' : Nat → Prop} {v : Value} {d : D} {S : Nat → Prop} (h : OD w G v d S) (hg : ∀ b, G b → G' b) : (∀ b, S b → G' b) → DR w G' v d := by
  induction h with
  | r v d S hd h => exact fun _ => h.mono hg (Same.refl _ _)
  | n a z S => exact fun _ => .e _ _ _ _
  | s rows spare b cap sz arr E S sub hb ha hr hl hc _ hsub hdis ih =>
    intro hS
    refine .s 1 rows spare b 0 cap sz (fun i j => arr.getD (i * sz + j) undef) (hS b hb) hr hl (fun i j hi hj => ?_) (fun i j r d h1 h2 => ih i j r d h1 h2 fun c hc => hS c (hsub i j c hc).1)
    have hlt : i * sz + j < arr.size := Nat.lt_of_lt_of_le (Zbc (by omega : i < cap) hj) hc
    simp [World.cell?, ha, hlt]
end

section
open Go
inductive C where
  | d (x : D)
  | rs (k g wd lo len kn : Nat)
  | rp (k g wd i j : Nat)
  | cf (fn : FuncId) (first caps : List C)
  | non
  deriving Inhabited
inductive A where
  | dead
  | c (x : C)
  | agg (xs : List C)
  | tup (xs : List A)
  | bb (q : Bool)
  | rx (k g wd lo len cap : Nat)
  deriving Inhabited
structure Root where
  tag : Nat
  box : Bool
  wd : Nat
  rows : List (List C)
structure St where
  n : Nat
  lvl : Nat
  tmps : Nat → A
  store : Nat → Option Root
  gen : Nat → Nat
  gs : Nat → A := fun _ => .dead
structure Fx where
  p : Nat → Prop
  gv : Nat → Value
instance : CoeFun Fx fun _ => Nat → Prop := ⟨Fx.p⟩
structure Gh where
  β : Nat → Nat → Option Nat
  F : Nat → Prop
  FP : Nat → Nat → Nat → Nat → Prop
  gen : Nat → Nat
  F0 : Fx
def Gh.G (γ : Gh) (b : Nat) : Prop := γ.F b ∨ ∃ k i j, γ.FP k i j b
def D.top0 : D → Bool
  | .v _ => true
  | .s t _ _ _ => t == 0
  | .p t _ _ => t == 0
  | .f _ _ _ => true
def Gh.at (γ : Gh) (b : Bool) : Nat → Prop := if b then γ.F else γ.G
theorem Gh.at_G (γ : Gh) (b : Bool) (c : Nat) (h : γ.at b c) : γ.G c := by
  cases b
  · exact h
  · exact .inl h
inductive CR (γ : Gh) (w : World) : Value → C → Prop
  | d (v : Value) (x : D) : DR w (γ.at x.top0) v x → CR γ w v (.d x)
  | rs (k g wd lo len kn cap b : Nat) (E : TypeId) (n : Nat) : g ≤ γ.gen k → γ.β k g = some b → w.shape? b = some (E, n) → (lo + cap) * wd ≤ n → len ≤ cap → kn ≤ cap →
      CR γ w (.slice (some ⟨b, lo * wd, none⟩) len cap) (.rs k g wd lo len kn)
  | rn (a : Option Addr) (k g wd : Nat) : g ≤ γ.gen k → γ.β k g = none → CR γ w (.slice a 0 0) (.rs k g wd 0 0 0)
  | rp (k g wd i j b : Nat) : g ≤ γ.gen k → γ.β k g = some b → CR γ w (.pointer (some ⟨b, i * wd + j, none⟩)) (.rp k g wd i j)
  | cf (fn : FuncId) (first caps : List C) (fv cv : Array Value) : fn ≠ AG → fv.size = first.length → cv.size = caps.length →
      (∀ i c, first[i]? = some c → CR γ w (fv.getD i undef) c) → (∀ i c, caps[i]? = some c → CR γ w (cv.getD i undef) c) →
      CR γ w (.func (.func fn) fv cv) (.cf fn first caps)
  | ca (cells : List C) (vs : Array Value) : vs.size = cells.length → (∀ i c, cells[i]? = some c → CR γ w (vs.getD i undef) c) → CR γ w (.agg vs) (.cf AG [] cells)
  | non (v : Value) : CR γ w v .non
inductive AR (γ : Gh) (w : World) : Value → A → Prop
  | dead (v : Value) : AR γ w v .dead
  | c (v : Value) (x : C) : CR γ w v x → AR γ w v (.c x)
  | agg (vs : Array Value) (xs : List C) : vs.size = xs.length → (∀ i c, xs[i]? = some c → CR γ w (vs.getD i undef) c) → AR γ w (.agg vs) (.agg xs)
  | tup (vs : Array Value) (xs : List A) : vs.size = xs.length → (∀ i c, xs[i]? = some c → AR γ w (vs.getD i undef) c) → AR γ w (.tuple vs) (.tup xs)
  | bb (b q : Bool) : (b = true → q = true) → AR γ w (.bool b) (.bb q)
  | rx (k g wd lo len cap b : Nat) (E : TypeId) (n : Nat) : g ≤ γ.gen k → γ.β k g = some b → w.shape? b = some (E, n) → (lo + cap) * wd ≤ n → len ≤ cap → AR γ w (.slice (some ⟨b, lo * wd, none⟩) len cap) (.rx k g wd lo len cap)
def SR (γ : Gh) (w : World) (v : Value) (c : C) (S : Nat → Prop) : Prop :=
  match c with
  | .d (.s 1 z rows spare) => OD w γ.F v (.s 1 z rows spare) S
  | c => CR γ w v c
def RootOK (γ : Gh) (w : World) (k : Nat) (R : Root) : Prop :=
  match γ.β k R.tag with
  | none => R.rows = []
  | some b => ∃ arr E, w.heap[b]? = some (.cells arr E (0, 0)) ∧ (∀ r ∈ R.rows, r.length = R.wd) ∧ R.rows.length * R.wd ≤ arr.size ∧
      ∀ i j r c, R.rows[i]? = some r → r[j]? = some c → SR γ w (arr.getD (i * R.wd + j) undef) c (γ.FP k i j)
def Shapes (w w' : World) : Prop := ∀ b s, w.shape? b = some s → w'.shape? b = some s
theorem Shapes.refl (w : World) : Shapes w w := fun _ _ h => h
structure Env (w0 : World) (own : Nat → Prop) (w : World) : Prop where
  os : w.os = w0.os
  tape : w.tape = w0.tape
  output : w.output = w0.output
  size : w0.heap.size ≤ w.heap.size
  block : ∀ b, b < w0.heap.size → ¬ own b → w.heap[b]? = w0.heap[b]?
  shapes : Shapes w0 w
structure Rel (w0 : World) (own : Nat → Prop) (γ : Gh) (st : St) (a : Act) (w : World) : Prop where
  env : Env w0 own w
  size : a.tmps.size = st.n
  defers : a.defers = []
  tmps : ∀ i, AR γ w (a.tmps.getD i undef) (st.tmps i)
  ghost : ∀ i, AR γ w (γ.F0.gv i) (st.gs i)
  gen : γ.gen = st.gen
  tag : ∀ k R, st.store k = some R → R.tag ≤ st.gen k
  mem : ∀ k R, st.store k = some R → RootOK γ w k R
  inj : ∀ k R k' R' b, st.store k = some R → st.store k' = some R' → γ.β k R.tag = some b → γ.β k' R'.tag = some b → k = k'
  rootF : ∀ k R b, st.store k = some R → γ.β k R.tag = some b → ¬ γ.F b ∧ (∀ k' i j, ¬ γ.FP k' i j b) ∧ (own b ∨ w0.heap.size ≤ b)
  fpF : ∀ k i j b, γ.FP k i j b → ¬ γ.F b ∧ (own b ∨ w0.heap.size ≤ b)
  fpD : ∀ k i j k' i' j' b, γ.FP k i j b → γ.FP k' i' j' b → k = k' ∧ i = i' ∧ j = j'
  fs : ∀ b, γ.F b → γ.F0 b ∨ own b ∨ w0.heap.size ≤ b
  lt : ∀ b, γ.G b → b < w.heap.size
  ltβ : ∀ k g b, g ≤ γ.gen k → γ.β k g = some b → b < w.heap.size
structure Gh.le (γ γ' : Gh) : Prop where
  gen : ∀ k, γ.gen k ≤ γ'.gen k
  β : ∀ k g, g ≤ γ.gen k → γ'.β k g = γ.β k g
  F : ∀ b, γ.F b → γ'.F b
  G : ∀ b, γ.G b → γ'.G b
  F0 : γ'.F0 = γ.F0
theorem Gh.le_refl (γ : Gh) : γ.le γ := ⟨fun _ => Nat.le_refl _, fun _ _ _ => rfl, fun _ h => h, fun _ h => h, rfl⟩
theorem Gh.le_trans {γ γ' γ'' : Gh} (h : γ.le γ') (h' : γ'.le γ'') : γ.le γ'' :=
  ⟨fun k => Nat.le_trans (h.gen k) (h'.gen k), fun k g hg => (h'.β k g (Nat.le_trans hg (h.gen k))).trans (h.β k g hg), fun b hb => h'.F b (h.F b hb), fun b hb => h'.G b (h.G b hb), h'.F0.trans h.F0⟩
theorem Gh.le.at {γ γ' : Gh} (h : γ.le γ') (t : Bool) : ∀ b, γ.at t b → γ'.at t b := by
  cases t
  · exact h.G
  · exact h.F
theorem Same.at {γ : Gh} {w w' : World} (h : Same γ.G w w') (t : Bool) : Same (γ.at t) w w' := h.mono (γ.at_G t)
theorem CR.mono {γ γ' : Gh} {w w' : World} (hg : γ.le γ') (hs : Same γ.G w w') (hz : Shapes w w') {v : Value} {c : C} (h : CR γ w v c) : CR γ' w' v c := by
  induction h with
  | d v x h => exact .d v x (h.mono (hg.at _) (hs.at _))
  | rs k g wd lo len kn cap b E n h1 h2 h3 h4 h5 h6 => exact .rs k g wd lo len kn cap b E n (Nat.le_trans h1 (hg.gen k)) ((hg.β k g h1).trans h2) (hz _ _ h3) h4 h5 h6
  | rn a k g wd h1 h2 => exact .rn a k g wd (Nat.le_trans h1 (hg.gen k)) ((hg.β k g h1).trans h2)
  | rp k g wd i j b h1 h2 => exact .rp k g wd i j b (Nat.le_trans h1 (hg.gen k)) ((hg.β k g h1).trans h2)
  | cf fn first caps fv cv h0 h1 h2 _ _ i1 i2 => exact .cf fn first caps fv cv h0 h1 h2 i1 i2
  | ca cells vs h1 _ ih => exact .ca cells vs h1 ih
  | non v => exact .non v
theorem AR.mono {γ γ' : Gh} {w w' : World} (hg : γ.le γ') (hs : Same γ.G w w') (hz : Shapes w w') {v : Value} {c : A} (h : AR γ w v c) : AR γ' w' v c := by
  induction h with
  | dead v => exact .dead v
  | c v x h => exact .c v x (h.mono hg hs hz)
  | agg vs xs h1 h2 => exact .agg vs xs h1 fun i c hc => (h2 i c hc).mono hg hs hz
  | tup vs xs h1 _ ih => exact .tup vs xs h1 ih
  | bb b q h => exact .bb b q h
  | rx k g wd lo len cap b E n h1 h2 h3 h4 h5 => exact .rx k g wd lo len cap b E n (Nat.le_trans h1 (hg.gen k)) ((hg.β k g h1).trans h2) (hz _ _ h3) h4 h5
def A.wk : A → A
  | .rx k g wd lo len _ => .c (.rs k g wd lo len len)
  | y => y
theorem AR.wk {γ : Gh} {w : World} {v : Value} {y : A} (h : AR γ w v y) : AR γ w v y.wk := by
  cases h with
  | dead => exact .dead _
  | c _ _ h => exact .c _ _ h
  | agg _ _ h1 h2 => exact .agg _ _ h1 h2
  | tup _ _ h1 h2 => exact .tup _ _ h1 h2
  | bb _ _ h => exact .bb _ _ h
  | rx k g wd lo len cap b E n h1 h2 h3 h4 h5 => exact .c _ _ (.rs k g wd lo len len cap b E n h1 h2 h3 h4 h5 h5)
end

section
open Go
def St.put (st : St) (d : Option Nat) (x : A) : St :=
  match d with
  | none => st
  | some d => { st with tmps := fun i => if i = d then x else st.tmps i }
def St.fits (st : St) : Option Nat → Bool
  | none => true
  | some d => d < st.n
def C.flat : C → Bool
  | .d (.s 1 _ _ _) => false
  | _ => true
theorem SR.of_CR {γ : Gh} {w : World} {v : Value} {c : C} {S : Nat → Prop} (h : CR γ w v c) (hf : c.flat = true) : SR γ w v c S := by
  unfold SR
  split
  · simp [C.flat] at hf
  · exact h
theorem SR.mono {γ γ' : Gh} {w w' : World} {v : Value} {c : C} {S : Nat → Prop} (hg : γ.le γ') (hs : Same γ.G w w') (hz : Shapes w w') (hS : Same S w w') (h : SR γ w v c S) : SR γ' w' v c S := by
  unfold SR at *
  split
  · rename_i z rows spare; exact OD.mono hg.F (hs.at true) h hS
  · rename_i hne
    cases c with
    | d x => cases x with
      | s t z rows spare =>
        match t with
        | 1 => exact (hne z rows spare rfl).elim
        | 0 => exact CR.mono hg hs hz h
        | (t + 2) => exact CR.mono hg hs hz h
      | _ => exact CR.mono hg hs hz h
    | _ => exact CR.mono hg hs hz h
variable {w0 : World} {own : Nat → Prop} {γ : Gh} {st : St} {a : Act} {w : World}
theorem Rel.put (h : Rel w0 own γ st a w) {d : Option Nat} {v : Value} {x : A} (hx : AR γ w v x) (hd : st.fits d = true) : Rel w0 own γ (st.put d x) (a.put d v) w := by
  cases d with
  | none => exact h
  | some d =>
    have hd' : d < st.n := by simpa [St.fits] using hd
    exact { h with
      size := by simpa [Act.put, St.put] using h.size
      defers := h.defers
      tmps := fun i => by
        have hs := h.size
        by_cases hi : i = d
        · subst hi
          simp [Act.put, St.put, Array.getD_eq_getD_getElem?, hs, hd']
          exact hx
        · have := h.tmps i
          simp only [Act.put, St.put, hi, if_false]
          rw [Array.getD_eq_getD_getElem?, Array.getElem?_setIfInBounds_ne (fun e => hi e.symm), ← Array.getD_eq_getD_getElem?]
          exact this
      gen := h.gen, tag := h.tag, mem := h.mem, inj := h.inj, rootF := h.rootF, fs := h.fs }
theorem Env.refl (w : World) (own : Nat → Prop) : Env w own w := ⟨rfl, rfl, rfl, Nat.le_refl _, fun _ _ _ => rfl, .refl _⟩
theorem RootOK.mono {γ' : Gh} {w' : World} {k : Nat} {R : Root} (hg : γ.le γ') (hs : Same γ.G w w') (hz : Shapes w w') (ht : R.tag ≤ γ.gen k) (hb : ∀ b, γ.β k R.tag = some b → w'.heap[b]? = w.heap[b]?)
    (hfp : ∀ i j r c, R.rows[i]? = some r → r[j]? = some c → ∀ b, γ.FP k i j b ↔ γ'.FP k i j b) (h : RootOK γ w k R) : RootOK γ' w' k R := by
  unfold RootOK at *
  rw [hg.β k R.tag ht]
  split
  · rename_i hn; rw [hn] at h; exact h
  · rename_i b hn
    rw [hn] at h
    obtain ⟨arr, E, h1, h2, h3, h4⟩ := h
    refine ⟨arr, E, by rw [hb b hn]; exact h1, h2, h3, fun i j r c hr hc => ?_⟩
    have e : γ'.FP k i j = γ.FP k i j := funext fun b => propext (hfp i j r c hr hc b).symm
    rw [e]
    exact (h4 i j r c hr hc).mono hg hs hz (hs.mono fun b hb => .inr ⟨k, i, j, hb⟩)
theorem Rel.world {w' : World} (h : Rel w0 own γ st a w) (hb : ∀ b, b < w.heap.size → w'.heap[b]? = w.heap[b]?) (hs : w.heap.size ≤ w'.heap.size) (ho : w'.os = w.os) (ht : w'.tape = w.tape) (hp : w'.output = w.output) :
    Rel w0 own γ st a w' := by
  have hS : Same γ.G w w' := fun b hG => hb b (h.lt b hG)
  have hz : Shapes w w' := fun b s e => by
    have hlt : b < w.heap.size := by
      rcases Nat.lt_or_ge b w.heap.size with h' | h'
      · exact h'
      · simp [World.shape?, Array.getElem?_eq_none h'] at e
    simpa [World.shape?, hb b hlt] using e
  exact {
    env := ⟨ho.trans h.env.os, ht.trans h.env.tape, hp.trans h.env.output, Nat.le_trans h.env.size hs, fun b hb' hn => (hb b (Nat.lt_of_lt_of_le hb' h.env.size)).trans (h.env.block b hb' hn), fun b s e => hz b s (h.env.shapes b s e)⟩
    size := h.size, defers := h.defers
    tmps := fun i => (h.tmps i).mono γ.le_refl hS hz
    ghost := fun i => (h.ghost i).mono γ.le_refl hS hz
    gen := h.gen, tag := h.tag
    mem := fun k R hk => (h.mem k R hk).mono γ.le_refl hS hz (by rw [h.gen]; exact h.tag k R hk) (fun b hβ => hb b (h.ltβ k R.tag b (by rw [h.gen]; exact h.tag k R hk) hβ)) (fun _ _ _ _ _ _ _ => Iff.rfl)
    inj := h.inj, rootF := h.rootF, fpF := h.fpF, fpD := h.fpD, fs := h.fs
    lt := fun b hG => Nat.lt_of_lt_of_le (h.lt b hG) hs
    ltβ := fun k g b hg hβ => Nat.lt_of_lt_of_le (h.ltβ k g b hg hβ) hs }
theorem Rel.drew (h : Rel w0 own γ st a w) : Rel w0 own γ st a { w with drawn := w.drawn + 1 } :=
  h.world (fun _ _ => rfl) (Nat.le_refl _) rfl rfl rfl
def Gh.fresh (γ : Gh) (k : Nat) (b : Option Nat) : Gh :=
  { β := fun k' g => if k' = k ∧ g = γ.gen k + 1 then b else γ.β k' g
    F := fun c => γ.F c ∨ ∃ i j, γ.FP k i j c
    FP := fun k' i j c => k' ≠ k ∧ γ.FP k' i j c
    gen := fun k' => if k' = k then γ.gen k + 1 else γ.gen k'
    F0 := γ.F0 }
theorem Gh.fresh_G (γ : Gh) (k : Nat) (b : Option Nat) (c : Nat) : (γ.fresh k b).G c ↔ γ.G c := by
  constructor
  · rintro ((h | ⟨i, j, h⟩) | ⟨k', i, j, hk, h⟩)
    · exact .inl h
    · exact .inr ⟨k, i, j, h⟩
    · exact .inr ⟨k', i, j, h⟩
  · rintro (h | ⟨k', i, j, h⟩)
    · exact .inl (.inl h)
    · by_cases hk : k' = k
      · subst hk; exact .inl (.inr ⟨i, j, h⟩)
      · exact .inr ⟨k', i, j, hk, h⟩
theorem Gh.fresh_le (γ : Gh) (k : Nat) (b : Option Nat) : γ.le (γ.fresh k b) :=
  { gen := fun k' => by
      show γ.gen k' ≤ if k' = k then γ.gen k + 1 else γ.gen k'
      split
      · rename_i e; subst e; omega
      · exact Nat.le_refl _
    β := fun k' g hg => by
      show (if k' = k ∧ g = γ.gen k + 1 then b else γ.β k' g) = γ.β k' g
      rw [if_neg]
      rintro ⟨rfl, rfl⟩
      omega
    F := fun c hc => .inl hc
    G := fun c hc => (γ.fresh_G k b c).2 hc
    F0 := rfl }
theorem Gh.fresh_new (γ : Gh) (k : Nat) (b : Option Nat) : (γ.fresh k b).β k (γ.gen k + 1) = b := by simp [Gh.fresh]
theorem Gh.fresh_gen (γ : Gh) (k : Nat) (b : Option Nat) : (γ.fresh k b).gen k = γ.gen k + 1 := by simp [Gh.fresh]
def St.root (st : St) (k : Nat) (box : Bool) (wd : Nat) (rows : List (List C)) : St :=
  { st with store := fun i => if i = k then some ⟨st.gen k + 1, box, wd, rows⟩ else st.store i, gen := fun i => if i = k then st.gen k + 1 else st.gen i }
theorem Same.alloc (G : Nat → Prop) (w : World) (o : Obj) (hG : ∀ b, G b → b < w.heap.size) : Same G w (w.alloc o) := fun b hb => RowKit.Below.heap_alloc w o b (hG b hb)
theorem Shapes.alloc (w : World) (o : Obj) : Shapes w (w.alloc o) := fun b s e => by
  have hlt : b < w.heap.size := by
    rcases Nat.lt_or_ge b w.heap.size with h' | h'
    · exact h'
    · simp [World.shape?, Array.getElem?_eq_none h'] at e
  simpa [World.shape?, RowKit.Below.heap_alloc w o b hlt] using e
theorem Rel.alloc (h : Rel w0 own γ st a w) (k : Nat) (box : Bool) (wd : Nat) (rows : List (List C)) (arr : Array Value) (E : TypeId) (hrows : ∀ r ∈ rows, r.length = wd) (hsz : rows.length * wd ≤ arr.size)
    (hc : ∀ i j r c, rows[i]? = some r → r[j]? = some c → CR γ w (arr.getD (i * wd + j) undef) c ∧ c.flat = true) :
    Rel w0 own (γ.fresh k (some w.heap.size)) (st.root k box wd rows) a (w.alloc (.cells arr E)) := by
  have hle := γ.fresh_le k (some w.heap.size)
  have hS : Same γ.G w (w.alloc (.cells arr E)) := .alloc _ _ _ h.lt
  have hz := Shapes.alloc w (.cells arr E)
  have hgk : γ.gen k = st.gen k := congrFun h.gen k
  have hold : ∀ k' R, k' ≠ k → st.store k' = some R → (γ.fresh k (some w.heap.size)).β k' R.tag = γ.β k' R.tag := fun k' R hk hst => by simp [Gh.fresh, hk]
  have hlt : ∀ k' R b, st.store k' = some R → γ.β k' R.tag = some b → b < w.heap.size := fun k' R b hst hβ => h.ltβ k' R.tag b (by rw [h.gen]; exact h.tag k' R hst) hβ
  refine { env := ?_, size := h.size, defers := h.defers, tmps := fun i => (h.tmps i).mono hle hS hz, ghost := fun i => (h.ghost i).mono hle hS hz, gen := ?_, tag := ?_, mem := ?_, inj := ?_, rootF := ?_, fpF := ?_, fpD := ?_, fs := fun b hF => hF.elim (h.fs b) fun ⟨i, j, hf⟩ => .inr (h.fpF _ _ _ _ hf).2, lt := ?_, ltβ := ?_ }
  · exact ⟨h.env.os, h.env.tape, h.env.output, by have := h.env.size; simp; omega, fun b hb hn => (RowKit.Below.heap_alloc _ _ _ (Nat.lt_of_lt_of_le hb h.env.size)).trans (h.env.block b hb hn), fun b s e => hz b s (h.env.shapes b s e)⟩
  · funext k'; simp only [Gh.fresh, St.root]; split
    · rw [hgk]
    · exact congrFun h.gen k'
  · intro k' R hst
    simp only [St.root] at hst ⊢
    split at hst
    · cases hst; rename_i e; simp [e]
    · rename_i e; simp [e]; exact h.tag k' R hst
  · intro k' R hst
    simp only [St.root] at hst
    split at hst
    · rename_i e
      subst e
      cases hst
      unfold RootOK
      simp only [← hgk, Gh.fresh_new]
      refine ⟨arr, E, (by show (w.heap.push _)[w.heap.size]? = _; simp), hrows, hsz, fun i j r c hr hcc => ?_⟩
      obtain ⟨h1, h2⟩ := hc i j r c hr hcc
      exact SR.of_CR (h1.mono hle hS hz) h2
    · rename_i e
      refine (h.mem k' R hst).mono hle hS hz (by rw [h.gen]; exact h.tag k' R hst) (fun b hβ => RowKit.Below.heap_alloc _ _ _ (hlt k' R b hst hβ)) (fun i j r c _ _ b => ?_)
      simp [Gh.fresh, e]
  · intro k1 R1 k2 R2 b h1 h2 h3 h4
    simp only [St.root] at h1 h2
    by_cases e1 : k1 = k <;> by_cases e2 : k2 = k
    · rw [e1, e2]
    · subst e1
      simp at h1; subst h1
      simp only [← hgk, Gh.fresh_new] at h3
      cases h3
      simp [e2] at h2
      rw [hold k2 R2 e2 h2] at h4
      have := hlt k2 R2 _ h2 h4
      omega
    · subst e2
      simp at h2; subst h2
      simp only [← hgk, Gh.fresh_new] at h4
      cases h4
      simp [e1] at h1
      rw [hold k1 R1 e1 h1] at h3
      have := hlt k1 R1 _ h1 h3
      omega
    · simp [e1] at h1
      simp [e2] at h2
      rw [hold k1 R1 e1 h1] at h3
      rw [hold k2 R2 e2 h2] at h4
      exact h.inj k1 R1 k2 R2 b h1 h2 h3 h4
  · intro k1 R1 b h1 h3
    simp only [St.root] at h1
    by_cases e1 : k1 = k
    · subst e1
      simp at h1; subst h1
      simp only [← hgk, Gh.fresh_new] at h3
      cases h3
      refine ⟨fun hF => ?_, fun k' i j hFP => ?_, .inr h.env.size⟩
      · have := h.lt _ ((γ.fresh_G k1 (some w.heap.size) _).1 (.inl hF)); omega
      · have := h.lt _ ((γ.fresh_G k1 (some w.heap.size) _).1 (.inr ⟨k', i, j, hFP⟩)); omega
    · simp [e1] at h1
      rw [hold k1 R1 e1 h1] at h3
      obtain ⟨q1, q2, q3⟩ := h.rootF k1 R1 b h1 h3
      exact ⟨fun hF => hF.elim q1 fun ⟨i, j, hf⟩ => q2 _ _ _ hf, fun k' i j hf => q2 k' i j hf.2, q3⟩
  · rintro k1 i j b ⟨hne, hf⟩
    obtain ⟨q1, q2⟩ := h.fpF k1 i j b hf
    exact ⟨fun hF => hF.elim q1 fun ⟨i', j', hf'⟩ => hne (h.fpD _ _ _ _ _ _ _ hf hf').1, q2⟩
  · rintro k1 i j k2 i2 j2 b ⟨_, hf⟩ ⟨_, hf2⟩
    exact h.fpD _ _ _ _ _ _ _ hf hf2
  · intro b hG
    have := h.lt b ((γ.fresh_G k _ b).1 hG)
    simp; omega
  · intro k1 g b hg hβ
    simp only [Gh.fresh] at hg hβ
    by_cases e : k1 = k ∧ g = γ.gen k + 1
    · rw [if_pos e] at hβ; cases hβ; simp
    · rw [if_neg e] at hβ
      have hg' : g ≤ γ.gen k1 := by
        by_cases e1 : k1 = k
        · subst e1
          simp at hg e
          omega
        · simpa [e1] using hg
      have := h.ltβ k1 g b hg' hβ
      simp; omega
end

section
open Go
def splice {α : Type} (r : List α) (j : Nat) (cs : List α) : List α := r.take j ++ cs ++ r.drop (j + cs.length)
theorem Zdo {α : Type} (r : List α) (j : Nat) (cs : List α) (h : j + cs.length ≤ r.length) : (splice r j cs).length = r.length := by
  simp [splice]; omega
theorem Zfi {α : Type} (r : List α) (j : Nat) (cs : List α) (h : j + cs.length ≤ r.length) (i : Nat) :
    (splice r j cs)[i]? = if j ≤ i ∧ i < j + cs.length then cs[i - j]? else r[i]? := by
  have h1 : (r.take j).length = j := by simp; omega
  simp only [splice, List.getElem?_append, List.length_append, h1]
  by_cases a : i < j
  · rw [if_pos (by omega), if_pos a, if_neg (by omega), List.getElem?_take, if_pos a]
  · by_cases b : i < j + cs.length
    · rw [if_pos b, if_neg a, if_pos ⟨by omega, b⟩]
    · rw [if_neg b, if_neg (by omega), List.getElem?_drop]
      congr 1; omega
def Gh.drop (γ : Gh) (k i0 j0 n : Nat) : Gh :=
  { γ with
    F := fun c => γ.F c ∨ ∃ j, j0 ≤ j ∧ j < j0 + n ∧ γ.FP k i0 j c
    FP := fun k' i j c => γ.FP k' i j c ∧ ¬ (k' = k ∧ i = i0 ∧ j0 ≤ j ∧ j < j0 + n) }
theorem Gh.drop_G (γ : Gh) (k i0 j0 n : Nat) (c : Nat) : (γ.drop k i0 j0 n).G c ↔ γ.G c := by
  constructor
  · rintro ((h | ⟨j, _, _, h⟩) | ⟨k', i, j, h, _⟩)
    · exact .inl h
    · exact .inr ⟨k, i0, j, h⟩
    · exact .inr ⟨k', i, j, h⟩
  · rintro (h | ⟨k', i, j, h⟩)
    · exact .inl (.inl h)
    · by_cases hk : k' = k ∧ i = i0 ∧ j0 ≤ j ∧ j < j0 + n
      · obtain ⟨rfl, rfl, h1, h2⟩ := hk
        exact .inl (.inr ⟨j, h1, h2, h⟩)
      · exact .inr ⟨k', i, j, h, hk⟩
theorem Gh.drop_le (γ : Gh) (k i0 j0 n : Nat) : γ.le (γ.drop k i0 j0 n) :=
  { gen := fun _ => Nat.le_refl _, β := fun _ _ _ => rfl, F := fun c hc => .inl hc, G := fun c hc => (γ.drop_G k i0 j0 n c).2 hc, F0 := rfl }
def St.set (st : St) (k : Nat) (R : Root) : St := { st with store := fun i => if i = k then some R else st.store i }
def poke (arr : Array Value) (p : Nat) (vs : List Value) : Array Value := (arr.toList.take p ++ vs ++ arr.toList.drop (p + vs.length)).toArray
theorem Zco (arr : Array Value) (p : Nat) (vs : List Value) (h : p + vs.length ≤ arr.size) : (poke arr p vs).size = arr.size := by
  simp [poke]; omega
theorem ZfX (arr : Array Value) (p : Nat) (vs : List Value) (h : p + vs.length ≤ arr.size) (i : Nat) :
    (poke arr p vs).getD i undef = if p ≤ i ∧ i < p + vs.length then vs.getD (i - p) undef else arr.getD i undef := by
  have := Zfi arr.toList p vs (by simpa using h) i
  rw [Array.getD_eq_getD_getElem?]
  have e : (poke arr p vs)[i]? = (splice arr.toList p vs)[i]? := by simp [poke, splice]
  rw [e, this]
  split
  · simp [List.getD]
  · rw [Array.getD_eq_getD_getElem?]; simp
theorem Same.setRow {G : Nat → Prop} {w : World} {b : Nat} {cs : Array Value} (h : ¬ G b) : Same G w (w.setRow b cs) := fun c hc => setRow_other w b c cs (fun e => h (e ▸ hc))
theorem Shapes.setRow {w : World} {b : Nat} {arr cs : Array Value} {E : TypeId} {fr : Nat × Nat} (hb : w.heap[b]? = some (.cells arr E fr)) (hs : cs.size = arr.size) : Shapes w (w.setRow b cs) := fun c s e => by
  by_cases hc : c = b
  · subst hc
    simp [World.shape?, hb] at e
    simp [World.shape?, setRow_heap w c arr cs E fr hb, hs, e]
  · simpa [World.shape?, setRow_other w b c cs hc] using e
variable {w0 : World} {own : Nat → Prop} {γ : Gh} {st : St} {a : Act} {w : World}
theorem Rel.write (h : Rel w0 own γ st a w) {k : Nat} {R : Root} {b i0 j0 : Nat} {arr : Array Value} {E : TypeId} {r : List C} {cs : List C} {vs : List Value} (hst : st.store k = some R) (hβ : γ.β k R.tag = some b)
    (harr : w.heap[b]? = some (.cells arr E (0, 0))) (hr : R.rows[i0]? = some r) (hj : j0 + cs.length ≤ R.wd) (hvs : vs.length = cs.length)
    (hc : ∀ j c, cs[j]? = some c → CR γ w (vs.getD j undef) c ∧ c.flat = true) :
    Rel w0 own (γ.drop k i0 j0 cs.length) (st.set k { R with rows := R.rows.set i0 (splice r j0 cs) }) a (w.setRow b (poke arr (i0 * R.wd + j0) vs)) := by
  obtain ⟨qF, qP, qo⟩ := h.rootF k R b hst hβ
  have hm := h.mem k R hst
  unfold RootOK at hm
  rw [hβ] at hm
  obtain ⟨arr', E', ha', hw, hsz, hcell⟩ := hm
  rw [harr] at ha'
  cases ha'
  have hi0 : i0 < R.rows.length := (List.getElem?_eq_some_iff.1 hr).1
  have hrl : r.length = R.wd := hw r (List.mem_of_getElem? hr)
  have hfit : i0 * R.wd + j0 + vs.length ≤ arr.size := by
    have : (i0 + 1) * R.wd ≤ R.rows.length * R.wd := Nat.mul_le_mul_right _ hi0
    have : (i0 + 1) * R.wd = i0 * R.wd + R.wd := Nat.succ_mul _ _
    omega
  have hG : ¬ γ.G b := fun hG => hG.elim qF fun ⟨k', i, j, hf⟩ => qP k' i j hf
  have hS : Same γ.G w (w.setRow b (poke arr (i0 * R.wd + j0) vs)) := .setRow hG
  have hz : Shapes w (w.setRow b (poke arr (i0 * R.wd + j0) vs)) := .setRow harr (Zco _ _ _ hfit)
  have hle := γ.drop_le k i0 j0 cs.length
  refine { env := ?_, size := h.size, defers := h.defers, tmps := fun i => (h.tmps i).mono hle hS hz, ghost := fun i => (h.ghost i).mono hle hS hz, gen := h.gen, tag := ?_, mem := ?_, inj := ?_, rootF := ?_, fpF := ?_, fpD := ?_, fs := fun b hF => hF.elim (h.fs b) fun ⟨j, _, _, hf⟩ => .inr (h.fpF _ _ _ _ hf).2, lt := ?_, ltβ := ?_ }
  · exact ⟨h.env.os, h.env.tape, h.env.output, by simpa using h.env.size, fun c hc hn => by
      have hcb : c ≠ b := fun e => by subst e; rcases qo with q | q; exact hn q; omega
      rw [setRow_other _ _ _ _ hcb]; exact h.env.block c hc hn, fun b s e => hz b s (h.env.shapes b s e)⟩
  · intro k' R' hs'
    simp only [St.set] at hs' ⊢
    split at hs'
    · rename_i e; cases hs'; subst e; exact h.tag k' R hst
    · exact h.tag k' R' hs'
  · intro k' R' hs'
    simp only [St.set] at hs'
    split at hs'
    · rename_i e
      subst e
      cases hs'
      unfold RootOK
      have : (γ.drop k' i0 j0 cs.length).β k' R.tag = some b := hβ
      simp only [this]
      refine ⟨poke arr (i0 * R.wd + j0) vs, E, setRow_heap _ _ _ _ _ _ harr, ?_, ?_, ?_⟩
      · intro x hx
        rcases List.mem_or_eq_of_mem_set hx with hx | hx
        · exact hw x hx
        · subst hx; rw [Zdo _ _ _ (by omega)]; exact hrl
      · rw [Zco _ _ _ hfit]; simpa using hsz
      · intro i j r' c hr' hc'
        rw [ZfX _ _ _ hfit]
        by_cases hi : i = i0
        · subst hi
          simp only [List.getElem?_set, hi0, if_true] at hr'
          simp at hr'
          subst hr'
          rw [Zfi _ _ _ (by omega)] at hc'
          by_cases hjj : j0 ≤ j ∧ j < j0 + cs.length
          · rw [if_pos hjj] at hc'
            rw [if_pos (by omega)]
            obtain ⟨g1, g2⟩ := hc _ _ hc'
            have e : i * R.wd + j - (i * R.wd + j0) = j - j0 := by omega
            rw [e]
            exact SR.of_CR (g1.mono hle hS hz) g2
          · rw [if_neg hjj] at hc'
            have hjl : j < R.wd := by have := (List.getElem?_eq_some_iff.1 hc').1; omega
            rw [if_neg (by omega)]
            have e : (γ.drop k' i j0 cs.length).FP k' i j = γ.FP k' i j := by
              funext c; simp [Gh.drop]; intro _ h1; omega
            rw [e]
            exact (hcell i j r c hr hc').mono hle hS hz (hS.mono fun b hb => .inr ⟨k', i, j, hb⟩)
        · rw [List.getElem?_set_ne (fun e => hi e.symm)] at hr'
          have hjl : j < R.wd := by have := (List.getElem?_eq_some_iff.1 hc').1; have := hw r' (List.mem_of_getElem? hr'); omega
          have hne : ¬ (i0 * R.wd + j0 ≤ i * R.wd + j ∧ i * R.wd + j < i0 * R.wd + j0 + vs.length) := by
            rintro ⟨g1, g2⟩
            rcases Nat.lt_or_gt_of_ne hi with g | g
            · have : (i + 1) * R.wd ≤ i0 * R.wd := Nat.mul_le_mul_right _ g
              have : (i + 1) * R.wd = i * R.wd + R.wd := Nat.succ_mul _ _
              omega
            · have : (i0 + 1) * R.wd ≤ i * R.wd := Nat.mul_le_mul_right _ g
              have : (i0 + 1) * R.wd = i0 * R.wd + R.wd := Nat.succ_mul _ _
              omega
          rw [if_neg hne]
          have e : (γ.drop k' i0 j0 cs.length).FP k' i j = γ.FP k' i j := by
            funext c; simp [Gh.drop, hi]
          rw [e]
          exact (hcell i j r' c hr' hc').mono hle hS hz (hS.mono fun b hb => .inr ⟨k', i, j, hb⟩)
    · rename_i e
      refine (h.mem k' R' hs').mono hle hS hz (by rw [h.gen]; exact h.tag k' R' hs') (fun c hβ' => setRow_other _ _ _ _ (fun ec => e (h.inj k' R' k R b hs' hst (ec ▸ hβ') hβ))) (fun i j r' c _ _ c' => ?_)
      simp [Gh.drop, e]
  · intro k1 R1 k2 R2 c h1 h2 h3 h4
    have key : ∀ k1 R1, (st.set k { R with rows := R.rows.set i0 (splice r j0 cs) }).store k1 = some R1 → ∃ R', st.store k1 = some R' ∧ R'.tag = R1.tag := fun k1 R1 h1 => by
      simp only [St.set] at h1
      split at h1
      · rename_i e; cases h1; subst e; exact ⟨R, hst, rfl⟩
      · exact ⟨R1, h1, rfl⟩
    obtain ⟨R1', g1, e1⟩ := key k1 R1 h1
    obtain ⟨R2', g2, e2⟩ := key k2 R2 h2
    exact h.inj k1 R1' k2 R2' c g1 g2 (by rw [e1]; exact h3) (by rw [e2]; exact h4)
  · intro k1 R1 c h1 h3
    have : ∃ R', st.store k1 = some R' ∧ R'.tag = R1.tag := by
      simp only [St.set] at h1
      split at h1
      · rename_i e; cases h1; subst e; exact ⟨R, hst, rfl⟩
      · exact ⟨R1, h1, rfl⟩
    obtain ⟨R1', g1, e1⟩ := this
    obtain ⟨p1, p2, p3⟩ := h.rootF k1 R1' c g1 (by rw [e1]; exact h3)
    exact ⟨fun hF => hF.elim p1 fun ⟨j, _, _, hf⟩ => p2 _ _ _ hf, fun k' i j hf => p2 k' i j hf.1, p3⟩
  · rintro k1 i j c ⟨hf, hne⟩
    obtain ⟨p1, p2⟩ := h.fpF k1 i j c hf
    refine ⟨fun hF => hF.elim p1 fun ⟨j', g1, g2, hf'⟩ => hne ?_, p2⟩
    obtain ⟨rfl, rfl, rfl⟩ := h.fpD _ _ _ _ _ _ _ hf hf'
    exact ⟨rfl, rfl, g1, g2⟩
  · rintro k1 i j k2 i2 j2 c ⟨hf, _⟩ ⟨hf2, _⟩
    exact h.fpD _ _ _ _ _ _ _ hf hf2
  · intro c hG'
    simpa using h.lt c ((γ.drop_G k i0 j0 cs.length c).1 hG')
  · intro k1 g c hg hβ'
    simpa using h.ltβ k1 g c hg hβ'
end

section
open Go
variable {P : Program} {w0 : World} {own : Nat → Prop} {γ : Gh} {st : St} {a : Act} {w : World}
def OpOK (P : Program) (w0 : World) (own : Nat → Prop) (o : Oper) (st st' : St) : Prop :=
  ∀ γ a w (next : Act → World → Prop) (Q : Exit → Act → World → Prop), Rel w0 own γ st a w → (∀ γ' a' w', γ.le γ' → Rel w0 own γ' st' a' w' → next a' w') → o.wp P a w next Q
theorem OpOK.value {o : Oper} {st1 : St} {x : A} (hd : st1.fits o.dst = true)
    (h : ∀ γ a w, Rel w0 own γ st a w → ∃ γ' w' v, (execOp a.eval o).run P w = .ok (.value v) w' ∧ γ.le γ' ∧ Rel w0 own γ' st1 a w' ∧ AR γ' w' v x) : OpOK P w0 own o st (st1.put o.dst x) := by
  intro γ a w next Q hR hn
  obtain ⟨γ', w', v, h1, h2, h3, h4⟩ := h γ a w hR
  simp only [Oper.wp, h1, Oper.upon_value]
  exact hn γ' _ w' h2 (h3.put h4 hd)
theorem OpOK.skip {o : Oper} {st1 : St} (hd : st1.fits o.dst = true)
    (h : ∀ γ a w, Rel w0 own γ st a w → ∃ γ' w', (execOp a.eval o).run P w = .ok .skip w' ∧ γ.le γ' ∧ Rel w0 own γ' st1 a w') : OpOK P w0 own o st (st1.put o.dst .dead) := by
  intro γ a w next Q hR hn
  obtain ⟨γ', w', h1, h2, h3⟩ := h γ a w hR
  simp only [Oper.wp, h1, Oper.upon_skip]
  exact hn γ' _ w' h2 (h3.put (.dead _) hd)
def sc (x : Value) : A := .c (.d (.v x))
def evA (st : St) : Operand → A
  | .tmp t => st.tmps t
  | .const v => if plain v then sc v else .dead
  | .func f => (match Nat.beq f AG with | true => .dead | false => .c (.d (.f f [] [])))
  | .global _ => .dead
theorem Rel.ev (h : Rel w0 own γ st a w) (x : Operand) : AR γ w (a.eval x) (evA st x) := by
  cases x with
  | tmp t => exact h.tmps t
  | const v =>
    simp only [evA]
    split
    · rename_i hp; exact .c _ _ (.d _ _ (.v v hp))
    · exact .dead _
  | global g => exact .dead _
  | func f =>
    simp only [evA]
    split
    · exact .dead _
    · rename_i hb
      exact .c _ _ (.d _ _ (.f f [] [] #[] #[] (fun e => by rw [e, Nat.beq_refl] at hb; cases hb) rfl rfl (by simp) (by simp)))
theorem AR.sc_inv {v x : Value} (h : AR γ w v (sc x)) : v = x ∧ plain x = true := by
  cases h with
  | c _ _ h => cases h with
    | d _ _ h => cases h with
      | v _ hp => exact ⟨rfl, hp⟩
theorem AR.sc_mk {x : Value} (h : plain x = true) : AR γ w x (sc x) := .c _ _ (.d _ _ (.v x h))
def scalars : List C → Option (List Value)
  | [] => some []
  | .d (.v x) :: l => (scalars l).map (x :: ·)
  | _ :: _ => none
def A.val : A → Option Value
  | .c (.d (.v x)) => some x
  | .agg cs => (scalars cs).map fun l => .agg l.toArray
  | _ => none
theorem ZfF : ∀ (cs : List C) (l : List Value), scalars cs = some l → cs = l.map fun x => C.d (.v x)
  | [], l, h => by simp [scalars] at h; subst h; rfl
  | c :: cs, l, h => by
    cases c with
    | d x => cases x with
      | v x =>
        simp only [scalars, Option.map_eq_some_iff] at h
        obtain ⟨l', h1, rfl⟩ := h
        rw [ZfF cs l' h1]; rfl
      | _ => simp [scalars] at h
    | _ => simp [scalars] at h
theorem CR.sc_inv {v x : Value} (h : CR γ w v (.d (.v x))) : v = x ∧ plain x = true := by
  cases h with
  | d _ _ h => cases h with
    | v _ hp => exact ⟨rfl, hp⟩
theorem A.val_spec {v x : Value} {y : A} (h : AR γ w v y) (hy : y.val = some x) : v = x := by
  cases y with
  | c c => cases c with
    | d d => cases d with
      | v z => simp [A.val] at hy; subst hy; exact (AR.sc_inv h).1
      | _ => simp [A.val] at hy
    | _ => simp [A.val] at hy
  | agg cs =>
    simp only [A.val, Option.map_eq_some_iff] at hy
    obtain ⟨l, h1, rfl⟩ := hy
    have e := ZfF cs l h1
    cases h with
    | agg vs _ hs hc =>
      congr 1
      apply Array.ext
      · simp [hs, e]
      · intro i h1 h2
        simp at h2
        have := hc i (.d (.v l[i])) (by simp [e, h2])
        have e2 := (CR.sc_inv this).1
        simpa [Array.getD, h1] using e2
  | _ => simp [A.val] at hy
def ZaU {α : Type} (P : Program) : Sem α → Option α
  | .pure a => some a
  | .program k => ZaU P (k P)
  | _ => none
theorem Zb7 {α : Type} (P : Program) (w : World) : ∀ (s : Sem α) (a : α), ZaU P s = some a → s.run P w = .ok a w
  | .pure b, a, h => by simp [ZaU] at h; subst h; rfl
  | .program k, a, h => by simp only [ZaU] at h; exact Zb7 P w (k P) a h
  | .load .., _, h | .store .., _, h | .new .., _, h | .shape .., _, h | .freeze .., _, h | .frozen .., _, h | .getObj .., _, h | .setObj .., _, h | .choose .., _, h | .sys .., _, h | .mark .., _, h | .halt .., _, h => by simp [ZaU] at h
theorem ZdQ {o : Oper} {x : Value} (hd : st.fits o.dst = true) (hp : plain x = true)
    (h : ∀ γ a w, Rel w0 own γ st a w → (execOp a.eval o).run P w = .ok (.value x) w) : OpOK P w0 own o st (st.put o.dst (sc x)) :=
  .value hd fun γ a w hR => ⟨γ, w, x, h γ a w hR, γ.le_refl, hR, .sc_mk hp⟩
theorem ZsA {o : Oper} {x : Operand} (hd : st.fits o.dst = true) (ho : o.op = .move x ∨ o.op = .assign x) : OpOK P w0 own o st (st.put o.dst (evA st x)) :=
  .value hd fun γ a w hR => ⟨γ, w, a.eval x, by unfold execOp; rcases ho with h | h <;> rw [h] <;> rfl, γ.le_refl, hR, hR.ev x⟩
theorem Ztt {o : Oper} {c x y : Operand} {t : Bool} (hd : st.fits o.dst = true) (ho : o.op = .pick c x y) (hc : evA st c = sc (.bool t)) : OpOK P w0 own o st (st.put o.dst (if t then evA st x else evA st y)) :=
  .value hd fun γ a w hR => by
    have := hR.ev c
    rw [hc] at this
    have e := (AR.sc_inv this).1
    refine ⟨γ, w, if t then a.eval x else a.eval y, ?_, γ.le_refl, hR, ?_⟩
    · unfold execOp
      rw [ho]
      simp only [e, asBool]
      cases t <;> rfl
    · cases t
      · exact hR.ev y
      · exact hR.ev x
theorem Zu6 {o : Oper} {b : BinOp} {t u : TypeId} {x y : Operand} {p q r : Value} (hd : st.fits o.dst = true) (ho : o.op = .binOp b t x y u) (hx : (evA st x).val = some p) (hy : (evA st y).val = some q)
    (hr : ZaU P (do eqGuard b t x y p q; binOp b t p q) = some r) (hp : plain r = true) : OpOK P w0 own o st (st.put o.dst (sc r)) :=
  ZdQ hd hp fun γ a w hR => by
    have e1 := A.val_spec (hR.ev x) hx
    have e2 := A.val_spec (hR.ev y) hy
    unfold execOp
    rw [ho]
    simp only [e1, e2]
    rw [Sem.run_bind, Zb7 P w _ _ hr]
    rfl
theorem Zxk {o : Oper} {b : UnOp} {t : TypeId} {x : Operand} {p r : Value} (hd : st.fits o.dst = true) (ho : o.op = .unOp b t x) (hx : (evA st x).val = some p)
    (hr : ZaU P (Op.unary b p) = some r) (hp : plain r = true) : OpOK P w0 own o st (st.put o.dst (sc r)) :=
  ZdQ hd hp fun γ a w hR => by
    have e1 := A.val_spec (hR.ev x) hx
    unfold execOp
    rw [ho]
    simp only [e1]
    rw [Sem.run_bind, Zb7 P w _ _ hr]
    rfl
theorem Ztg {o : Oper} {t u : TypeId} {x : Operand} {p r : Value} (hd : st.fits o.dst = true) (ho : o.op = .convert t u x) (hx : (evA st x).val = some p)
    (hr : ZaU P (convert t u p) = some r) (hp : plain r = true) : OpOK P w0 own o st (st.put o.dst (sc r)) :=
  ZdQ hd hp fun γ a w hR => by
    have e1 := A.val_spec (hR.ev x) hx
    unfold execOp
    rw [ho]
    simp only [e1]
    rw [Sem.run_bind, Zb7 P w _ _ hr]
    rfl
end

section
open Go
variable {P : Program} {w0 : World} {own : Nat → Prop} {γ : Gh} {st : St} {a : Act} {w : World}
def szT (P : Program) (t : TypeId) : Option Nat := (P.info? t).map (·.size)
def aggT (P : Program) (t : TypeId) : Option Bool := (P.underlying t).map fun d => match d with | .struct _ | .array _ _ => true | _ => false
def fldT (P : Program) (t : TypeId) (f : Nat) : Option (Nat × TypeId) := match P.underlying t with | some (.struct fs) => (fs[f]?).map fun x => (x.offset, x.type) | _ => none
def Zd3 (P : Program) (t : TypeId) : Option (List Value) := ((P.info? t).bind (·.zero)).map (·.cells.toList)
def elT (P : Program) (t : TypeId) : Option TypeId := match P.underlying t with | some (.slice e) => some e | _ => none
def arT (P : Program) (t : TypeId) : Option (Nat × TypeId) := match P.underlying t with | some (.array n e) => some (n, e) | _ => none
theorem Zbh {t : TypeId} {d : TypeDesc} (h : P.underlying t = some d) (w : World) : (underlying t).run P w = .ok d w := by
  simp [underlying, program, Sem.run, h]
theorem Zbg {t : TypeId} {n : Nat} (h : szT P t = some n) (w : World) : (Go.sizeOf t).run P w = .ok n w := by
  unfold szT at h
  cases hi : P.info? t with
  | none => simp [hi] at h
  | some i => simp [hi] at h; simp [Go.sizeOf, typeInfo, program, Sem.run, hi, h]
theorem ZgL {t : TypeId} {b : Bool} (h : aggT P t = some b) (w : World) : (isAgg t).run P w = .ok b w := by
  unfold aggT at h
  cases hi : P.underlying t with
  | none => simp [hi] at h
  | some i =>
    simp [hi] at h
    unfold isAgg
    rw [Sem.run_bind, Zbh hi]
    simp only [Result.andThen_ok]
    subst h
    cases i <;> rfl
theorem ZeR {t : TypeId} {l : List Value} (h : Zd3 P t = some l) (w : World) : ∃ z, (zeroValue t).run P w = .ok z w ∧ z.cells.toList = l := by
  unfold Zd3 at h
  cases hi : P.info? t with
  | none => simp [hi] at h
  | some i =>
    cases hz : i.zero with
    | none => simp [hi, hz] at h
    | some z => simp [hi, hz] at h; exact ⟨z, by simp [zeroValue, typeInfo, program, Sem.run, hi, hz], by simpa using h⟩
theorem addr_add (b o n : Nat) : (⟨b, o, none⟩ : Addr).add n = ⟨b, o + n, none⟩ := by
  unfold Addr.add; split <;> simp_all
def C.isCell : C → Bool
  | .non => false
  | .cf fn _ _ => !(Nat.beq fn AG)
  | .d x => (match x with
    | .f fn _ _ => !(Nat.beq fn AG)
    | _ => true)
  | _ => true
def A.cells : A → Option (List C)
  | .c y => match y.isCell with | true => some [y] | false => none
  | .agg cs => some cs
  | _ => none
theorem CR.one {v : Value} {y : C} (h : CR γ w v y) (hy : y.isCell = true) : v.cells = #[v] ∧ v.oneCell' = true := by
  cases h with
  | d _ _ h =>
    cases h with
    | v _ hp => cases v <;> simp_all [Value.cells, plain, Value.oneCell']
    | a => simp [C.isCell, Nat.beq_refl] at hy
    | _ => exact ⟨rfl, rfl⟩
  | non => simp [C.isCell] at hy
  | ca => simp [C.isCell, Nat.beq_refl] at hy
  | _ => exact ⟨rfl, rfl⟩
theorem AR.cells {v : Value} {y : A} {cs : List C} (h : AR γ w v y) (hy : y.cells = some cs) : v.cells.size = cs.length ∧ ∀ i z, cs[i]? = some z → CR γ w (v.cells.getD i undef) z := by
  cases y with
  | dead => simp [A.cells] at hy
  | tup _ => simp [A.cells] at hy
  | bb _ => simp [A.cells] at hy
  | rx => simp [A.cells] at hy
  | c y =>
    simp only [A.cells] at hy
    cases hne : y.isCell with
    | false => rw [hne] at hy; cases hy
    | true =>
    rw [hne] at hy
    cases hy
    cases h with
    | c _ _ h =>
      rw [(h.one hne).1]
      refine ⟨rfl, fun i c' hc => ?_⟩
      cases i with
      | zero => simp at hc; subst hc; exact h
      | succ i => simp at hc
  | agg xs =>
    simp [A.cells] at hy; subst hy
    cases h with
    | agg vs _ hs hc => exact ⟨hs, hc⟩
def ZbB (cs : List C) : Bool := cs.all fun y => y.flat && y.isCell
theorem Zbv {cs : List C} (h : ZbB cs = true) {i : Nat} {y : C} (hy : cs[i]? = some y) : y.flat = true ∧ y.isCell = true := by
  have := List.all_eq_true.1 h y (List.mem_of_getElem? hy)
  simp only [Bool.and_eq_true] at this
  exact this
theorem Zrx {o : Oper} {t : TypeId} {l : List Value} (k : Nat) (hd : st.fits o.dst = true) (ho : o.op = .alloc t) (hz : Zd3 P t = some l) (hp : l.all plain = true) :
    OpOK P w0 own o st ((st.root k true l.length [l.map fun x => .d (.v x)]).put o.dst (.c (.rp k (st.gen k + 1) l.length 0 0))) :=
  .value (by cases h : o.dst <;> simp_all [St.fits, St.root]) fun γ a w hR => by
    obtain ⟨z, hz1, hz2⟩ := ZeR hz w
    refine ⟨_, w.alloc (.cells z.cells t), .pointer (some ⟨w.heap.size, 0, none⟩), ?_, γ.fresh_le k (some w.heap.size), hR.alloc k true l.length [l.map fun x => .d (.v x)] z.cells t (by simp) ?_ ?_, ?_⟩
    · unfold execOp
      rw [ho]
      simp [Instr.alloc, hz1, newVar, newRow, newObj, Sem.run]
    · rw [← hz2]; simp
    · intro i j r c hr hc
      cases i with
      | succ i => simp at hr
      | zero =>
        simp at hr; subst hr
        rw [List.getElem?_map] at hc
        obtain ⟨x, hx, rfl⟩ := Option.map_eq_some_iff.1 hc
        have e : z.cells.getD (0 * l.length + j) undef = x := by
          rw [← hz2] at hx
          simp at hx
          simp [Array.getD_eq_getD_getElem?, hx]
        rw [e]
        exact ⟨.d _ _ (.v x (List.all_eq_true.1 hp x (List.mem_of_getElem? hx))), rfl⟩
    · have hg : γ.gen k = st.gen k := congrFun hR.gen k
      have := CR.rp (γ := γ.fresh k (some w.heap.size)) (w := w.alloc (.cells z.cells t)) k (st.gen k + 1) l.length 0 0 w.heap.size (by rw [Gh.fresh_gen, hg]; exact Nat.le_refl _) (by rw [← hg, Gh.fresh_new])
      simp at this
      exact .c _ _ this
theorem Zt6 {o : Oper} {t : TypeId} {x : Operand} {cs : List C} (k : Nat) (hd : st.fits o.dst = true) (ho : o.op = .box t x) (hx : (evA st x).cells = some cs) (hp : ZbB cs = true) :
    OpOK P w0 own o st ((st.root k true cs.length [cs]).put o.dst (.c (.rp k (st.gen k + 1) cs.length 0 0))) :=
  .value (by cases h : o.dst <;> simp_all [St.fits, St.root]) fun γ a w hR => by
    obtain ⟨hs, hc⟩ := (hR.ev x).cells hx
    refine ⟨_, w.alloc (.cells (a.eval x).cells t), .pointer (some ⟨w.heap.size, 0, none⟩), ?_, γ.fresh_le k (some w.heap.size), hR.alloc k true cs.length [cs] (a.eval x).cells t (by simp) (by simp [hs]) ?_, ?_⟩
    · unfold execOp
      rw [ho]
      simp [Instr.box, newVar, newRow, newObj, Sem.run]
    · intro i j r c hr hcc
      cases i with
      | succ i => simp at hr
      | zero =>
        simp at hr; subst hr
        have := hc j c hcc
        simp only [Nat.zero_mul, Nat.zero_add]
        exact ⟨this, (Zbv hp hcc).1⟩
    · have hg : γ.gen k = st.gen k := congrFun hR.gen k
      have := CR.rp (γ := γ.fresh k (some w.heap.size)) (w := w.alloc (.cells (a.eval x).cells t)) k (st.gen k + 1) cs.length 0 0 w.heap.size (by rw [Gh.fresh_gen, hg]; exact Nat.le_refl _) (by rw [← hg, Gh.fresh_new])
      simp at this
      exact .c _ _ this
def C.lend : C → C
  | .d (.s 1 z rows spare) => .d (.s 2 z rows spare)
  | y => y
theorem DR.retag {G : Nat → Prop} {v : Value} {t z : Nat} {rows spare : List (List D)} (t' : Nat) (h : DR w G v (.s t z rows spare)) : DR w G v (.s t' z rows spare) := by
  cases h with
  | e a _ _ cap => exact .e a t' _ cap
  | s _ _ _ b off cap sz vs h1 h2 h3 h4 h5 => exact .s t' rows spare b off cap _ vs h1 h2 h3 h4 h5
theorem SR.lend {v : Value} {y : C} {k i j : Nat} (h : SR γ w v y (γ.FP k i j)) : CR γ w v y.lend := by
  unfold SR at h
  split at h
  · rename_i z rows spare
    exact .d _ _ ((h.read (G' := γ.G) (fun b hb => .inl hb) (fun b hb => .inr ⟨k, i, j, hb⟩)).retag 2)
  · rename_i hne
    have : y.lend = y := by
      unfold C.lend
      split
      · exact (hne _ _ _ rfl).elim
      · rfl
    rw [this]
    exact h
def mkA (b : Bool) (cs : List C) : Option A :=
  if b then some (.agg cs) else match cs with | [y] => some (.c y) | _ => none
def seg {α : Type} (r : List α) (j n : Nat) : Option (List α) := if j + n ≤ r.length then some ((r.drop j).take n) else none
theorem ZfZ {α : Type} {r cs : List α} {j n : Nat} (h : seg r j n = some cs) : cs.length = n ∧ j + n ≤ r.length ∧ ∀ i, i < n → cs[i]? = r[j + i]? := by
  unfold seg at h
  split at h
  · rename_i hle
    cases h
    refine ⟨by simp; omega, hle, fun i hi => ?_⟩
    rw [List.getElem?_take, if_pos hi, List.getElem?_drop]
  · cases h
theorem Zeu {t : TypeId} {ag : Bool} {n b o : Nat} (f : Nat → Value) (ha : aggT P t = some ag) (hn : szT P t = some n) (hc : ∀ j, j < n → w.cell? ⟨b, o + j, none⟩ = some (f j)) (h1 : ag = false → n = 1) :
    (loadVar t ⟨b, o, none⟩).run P w = .ok (if ag then .agg ((List.range n).map f).toArray else f 0) w := by
  unfold loadVar
  rw [Sem.run_bind, ZgL ha]
  simp only [Result.andThen_ok]
  cases ag with
  | true =>
    simp only [if_true]
    rw [Sem.run_bind, Zbg hn]
    simp only [Result.andThen_ok]
    rw [Sem.run_bind, run_loadCells w ⟨b, o, none⟩ n f (fun j hj => by rw [addr_add]; exact hc j hj)]
    rfl
  | false =>
    have := hc 0 (by have := h1 rfl; omega)
    simp at this
    simp [Go.load, Sem.run, this]
theorem AR.mkA {ag : Bool} {n : Nat} {f : Nat → Value} {cs : List C} {y : A} (hl : cs.length = n) (hy : mkA ag cs = some y) (hc : ∀ i z, cs[i]? = some z → CR γ w (f i) z) :
    AR γ w (if ag then .agg ((List.range n).map f).toArray else f 0) y ∧ (ag = false → n = 1) := by
  unfold Vm.mkA at hy
  cases ag with
  | true =>
    simp at hy
    subst hy
    simp only [if_true]
    refine ⟨.agg _ _ (by simp [hl]) fun i z hz => ?_, by simp⟩
    have hi : i < n := by have := (List.getElem?_eq_some_iff.1 hz).1; omega
    have := hc i z hz
    simpa [Array.getD, hi] using this
  | false =>
    simp only [Bool.false_eq_true, if_false] at hy
    split at hy
    · rename_i z
      cases hy
      simp at hl
      exact ⟨.c _ _ (hc 0 z rfl), fun _ => hl.symm⟩
    · cases hy
theorem AR.rp_inv {v : Value} {k g wd i j : Nat} (h : AR γ w v (.c (.rp k g wd i j))) : ∃ b, v = .pointer (some ⟨b, i * wd + j, none⟩) ∧ γ.β k g = some b ∧ g ≤ γ.gen k := by
  cases h with
  | c _ _ h => cases h with
    | rp _ _ _ _ _ b h1 h2 => exact ⟨b, rfl, h2, h1⟩
theorem AR.d_inv {v : Value} {x : D} (h : AR γ w v (.c (.d x))) : DR w (γ.at x.top0) v x := by
  cases h with
  | c _ _ h => cases h with
    | d _ _ h => exact h
theorem ZsC {o : Oper} {t : TypeId} {x : Operand} {k g wd i j n : Nat} {R : Root} {r cs : List C} {ag : Bool} {y : A} (hd : st.fits o.dst = true) (ho : o.op = .load t x) (hx : evA st x = .c (.rp k g wd i j)) (hk : st.store k = some R) (hg : R.tag = g) (hw : R.wd = wd)
    (hr : R.rows[i]? = some r) (ha : aggT P t = some ag) (hn : szT P t = some n) (hs : seg r j n = some cs) (hy : mkA ag (cs.map C.lend) = some y) : OpOK P w0 own o st (st.put o.dst y) :=
  .value hd fun γ a w hR => by
    subst hg hw
    have hex : (execOp a.eval o).run P w = ((do pure (.value (← Instr.loadAt t (a.eval x)))) : Sem Next).run P w := by unfold execOp; rw [ho]
    have hv := hR.ev x
    rw [hx] at hv
    obtain ⟨b, e, hβ, _⟩ := hv.rp_inv
    have hm := hR.mem k R hk
    unfold RootOK at hm
    rw [hβ] at hm
    obtain ⟨arr, E, harr, hwd, hsz, hcell⟩ := hm
    obtain ⟨hl, hle, hget⟩ := ZfZ hs
    have hrl := hwd r (List.mem_of_getElem? hr)
    have hi : i < R.rows.length := (List.getElem?_eq_some_iff.1 hr).1
    have hpos : ∀ q, q < n → i * R.wd + j + q < arr.size := fun q hq => by
      have := Zbc (i := i) (j := j + q) (n := R.rows.length) (sz := R.wd) hi (by omega)
      omega
    have hread : ∀ q, q < n → w.cell? ⟨b, i * R.wd + j + q, none⟩ = some (arr.getD (i * R.wd + j + q) undef) := fun q hq => by
      simp [World.cell?, harr, hpos q hq]
    have hAR := AR.mkA (γ := γ) (w := w) (f := fun q => arr.getD (i * R.wd + j + q) undef) (by simpa using hl) hy (fun q z hz => by
      rw [List.getElem?_map] at hz
      obtain ⟨z0, h0, rfl⟩ := Option.map_eq_some_iff.1 hz
      have hq : q < n := by have := (List.getElem?_eq_some_iff.1 h0).1; omega
      rw [hget q hq] at h0
      have := hcell i (j + q) r z0 hr h0
      rw [← Nat.add_assoc] at this
      exact this.lend)
    refine ⟨γ, w, _, ?_, γ.le_refl, hR, hAR.1⟩
    rw [hex, e]
    simp only [Instr.loadAt, Instr.sureAddr, Sem.run_bind]
    rw [show ((pure (⟨b, i * R.wd + j, none⟩ : Addr) : Sem Addr).run P w) = .ok ⟨b, i * R.wd + j, none⟩ w from rfl]
    simp only [Result.andThen_ok]
    rw [Zeu _ ha hn hread hAR.2]
    rfl
end

section
open Go
variable {P : Program} {w0 : World} {own : Nat → Prop} {γ : Gh} {st : St} {a : Act} {w : World}
def D.under (t : Nat) : D → C
  | .v x => .d (.v x)
  | .s _ z rows spare => .d (.s (if t = 0 then 0 else 2) z rows spare)
  | .p _ cells off => .d (.p (if t = 0 then 0 else 2) cells off)
  | .f fn first caps => if t = 0 then .d (.f fn first caps) else .non
theorem DR.retagp {G : Nat → Prop} {v : Value} {t : Nat} {cells : List D} {off : Nat} (t' : Nat) (h : DR w G v (.p t cells off)) : DR w G v (.p t' cells off) := by
  cases h with
  | p _ _ b o _ vs h1 h2 h3 => exact .p t' cells b o off vs h1 h2 h3
theorem DR.under {v : Value} {d : D} {t : Nat} (h : DR w (γ.at (t == 0)) v d) : CR γ w v (d.under t) := by
  by_cases ht : t = 0
  · subst ht
    have h' : DR w γ.F v d := h
    cases d with
    | v x => exact .d _ _ h'
    | s t' z rows spare => exact .d _ _ (h'.retag 0)
    | p t' cells off => exact .d _ _ (h'.retagp 0)
    | f fn first caps => exact .d _ _ h'
  · have h' : DR w γ.G v d := h.mono (γ.at_G _) (Same.refl _ _)
    cases d with
    | v x => cases h' with
      | v _ hp => exact .d _ _ (.v _ hp)
    | s t' z rows spare => simp only [D.under, ht, if_false]; exact .d _ _ (h'.retag 2)
    | p t' cells off => simp only [D.under, ht, if_false]; exact .d _ _ (h'.retagp 2)
    | f fn first caps => simp only [D.under, ht, if_false]; exact .non _
theorem Zrh {o : Oper} {t : TypeId} {x : Operand} {tg off n : Nat} {cells cs : List D} {ag : Bool} {y : A} (hd : st.fits o.dst = true) (ho : o.op = .load t x) (hx : evA st x = .c (.d (.p tg cells off)))
    (ha : aggT P t = some ag) (hn : szT P t = some n) (hs : seg cells off n = some cs) (hy : mkA ag (cs.map (D.under tg)) = some y) : OpOK P w0 own o st (st.put o.dst y) :=
  .value hd fun γ a w hR => by
    have hex : (execOp a.eval o).run P w = ((do pure (.value (← Instr.loadAt t (a.eval x)))) : Sem Next).run P w := by unfold execOp; rw [ho]
    have hv := hR.ev x
    rw [hx] at hv
    have hv := hv.d_inv
    generalize a.eval x = v at hv hex
    cases hv with
    | p _ _ b o' _ vs h1 h2 h3 =>
      obtain ⟨hl, hle, hget⟩ := ZfZ hs
      have hread : ∀ q, q < n → w.cell? ⟨b, o' + off + q, none⟩ = some (vs (off + q)) := fun q hq => by rw [Nat.add_assoc]; exact h2 (off + q) (by omega)
      have hAR := AR.mkA (γ := γ) (w := w) (f := fun q => vs (off + q)) (by simpa using hl) hy (fun q z hz => by
        rw [List.getElem?_map] at hz
        obtain ⟨z0, h0, rfl⟩ := Option.map_eq_some_iff.1 hz
        have hq : q < n := by have := (List.getElem?_eq_some_iff.1 h0).1; omega
        rw [hget q hq] at h0
        exact (h3 (off + q) z0 h0).under)
      refine ⟨γ, w, _, ?_, γ.le_refl, hR, hAR.1⟩
      rw [hex]
      simp only [Instr.loadAt, Instr.sureAddr, Sem.run_bind]
      rw [show ((pure (⟨b, o' + off, none⟩ : Addr) : Sem Addr).run P w) = .ok ⟨b, o' + off, none⟩ w from rfl]
      simp only [Result.andThen_ok]
      rw [Zeu _ ha hn hread hAR.2]
      rfl
def A.ptrAdd (y : A) (n : Nat) : Option A :=
  match y with
  | .c (.rp k g wd i j) => some (.c (.rp k g wd i (j + n)))
  | .c (.d (.p tg cells o)) => some (.c (.d (.p tg cells (o + n))))
  | _ => none
def A.isPtr (y : A) : Bool := (y.ptrAdd 0).isSome
theorem AR.ptr {v : Value} {y : A} (h : AR γ w v y) (hy : y.isPtr = true) : ∃ b o, v = .pointer (some ⟨b, o, none⟩) ∧ ∀ n z, y.ptrAdd n = some z → AR γ w (.pointer (some ⟨b, o + n, none⟩)) z := by
  unfold A.isPtr at hy
  cases y with
  | c y =>
    cases y with
    | rp k g wd i j =>
      obtain ⟨b, e, hβ, hg⟩ := h.rp_inv
      refine ⟨b, i * wd + j, e, fun n z hz => ?_⟩
      simp only [A.ptrAdd, Option.some.injEq] at hz
      subst hz
      rw [Nat.add_assoc]
      exact .c _ _ (.rp _ _ _ _ _ _ hg hβ)
    | d x =>
      cases x with
      | p tg cells o' =>
        have hv := h.d_inv
        cases hv with
        | p _ _ b o2 _ vs h1 h2 h3 =>
          refine ⟨b, o2 + o', rfl, fun n z hz => ?_⟩
          simp only [A.ptrAdd, Option.some.injEq] at hz
          subst hz
          rw [Nat.add_assoc]
          exact .c _ _ (.d _ _ (.p tg cells b o2 (o' + n) vs h1 h2 h3))
      | _ => simp [A.ptrAdd] at hy
    | _ => simp [A.ptrAdd] at hy
  | _ => simp [A.ptrAdd] at hy
theorem A.isPtr_of {y z : A} {n : Nat} (h : y.ptrAdd n = some z) : y.isPtr = true := by
  unfold A.isPtr
  cases y with
  | c y => cases y with
    | rp => rfl
    | d x => cases x <;> first | rfl | simp [A.ptrAdd] at h
    | _ => simp [A.ptrAdd] at h
  | _ => simp [A.ptrAdd] at h
theorem Zl0 {t ft : TypeId} {f off n b o : Nat} (hf : fldT P t f = some (off, ft)) (hn : szT P ft = some n) (h0 : n ≠ 0) (w : World) :
    (Instr.fieldAt t (.pointer (some ⟨b, o, none⟩)) f).run P w = .ok (.pointer (some ⟨b, o + off, none⟩)) w := by
  unfold fldT at hf
  split at hf
  · rename_i fs hu
    obtain ⟨x, hx, e⟩ := Option.map_eq_some_iff.1 hf
    cases e
    unfold Instr.fieldAt
    rw [Sem.run_bind, Zbh hu]
    simp only [Result.andThen_ok, hx, Sem.run_bind, Instr.sureAddr]
    rw [show ((pure (⟨b, o, none⟩ : Addr) : Sem Addr).run P w) = .ok ⟨b, o, none⟩ w from rfl]
    simp only [Result.andThen_ok, fieldPlace, Sem.run_bind, Zbg hn, if_neg h0]
    rw [addr_add]
    rfl
  · cases hf
theorem Zjv {o : Oper} {t ft : TypeId} {x : Operand} {f off n : Nat} {y z : A} (hd : st.fits o.dst = true) (ho : o.op = .fieldAddr t x f) (hx : evA st x = y) (hf : fldT P t f = some (off, ft)) (hn : szT P ft = some n) (h0 : n ≠ 0)
    (hz : y.ptrAdd off = some z) : OpOK P w0 own o st (st.put o.dst z) :=
  .value hd fun γ a w hR => by
    have hex : (execOp a.eval o).run P w = ((do pure (.value (← Instr.fieldAt t (a.eval x) f))) : Sem Next).run P w := by unfold execOp; rw [ho]
    have hv := hR.ev x
    rw [hx] at hv
    obtain ⟨b, o', e, hp⟩ := hv.ptr (A.isPtr_of hz)
    exact ⟨γ, w, .pointer (some ⟨b, o' + off, none⟩), by rw [hex, e, Sem.run_bind, Zl0 hf hn h0]; rfl, γ.le_refl, hR, hp off z hz⟩
def idx (x : Value) (n : Nat) : Option Nat := match x with | .int _ i => if 0 ≤ i ∧ i < n then some i.toNat else none | _ => none
theorem ZeK {x : Value} {n q : Nat} (h : idx x n = some q) : ∃ kd, x = .int kd q ∧ q < n := by
  unfold idx at h
  split at h
  · rename_i kd i
    split at h
    · rename_i hi
      cases h
      exact ⟨kd, by rw [Int.toNat_of_nonneg hi.1], by omega⟩
    · cases h
  · cases h
theorem run_indexAt_array {t e : TypeId} {n sz q b o : Nat} {kd : IntKind} (ht : arT P t = some (n, e)) (hs : szT P e = some sz) (hq : q < n) (w : World) :
    (Instr.indexAt t (.pointer (some ⟨b, o, none⟩)) (.int kd q)).run P w = .ok (.pointer (some ⟨b, o + q * sz, none⟩)) w := by
  unfold arT at ht
  split at ht
  · rename_i n' e' hu
    cases ht
    have h1 : (0 : Int) ≤ (q : Int) ∧ (q : Int) < (n : Int) := by omega
    simp [Instr.indexAt, asIntOf, Instr.sureAddr, Zbh hu, Zbg hs, addr_add, Sem.run, h1]
    intro h; omega
  · cases ht
theorem run_indexAt_slice {t e : TypeId} {sz q b o len cap : Nat} {kd : IntKind} (ht : elT P t = some e) (hs : szT P e = some sz) (hq : q < len) (w : World) :
    (Instr.indexAt t (.slice (some ⟨b, o, none⟩) len cap) (.int kd q)).run P w = .ok (.pointer (some ⟨b, o + q * sz, none⟩)) w := by
  unfold elT at ht
  split at ht
  · rename_i e' hu
    cases ht
    have h1 : (0 : Int) ≤ (q : Int) ∧ (q : Int) < (len : Int) := by omega
    simp [Instr.indexAt, asIntOf, Zbh hu, Zbg hs, addr_add, Sem.run, h1]
    intro h; omega
  · cases ht
theorem Zl4 {o : Oper} {t e : TypeId} {x ix : Operand} {n sz q : Nat} {u : Value} {y z : A} (hd : st.fits o.dst = true) (ho : o.op = .indexAddr t x ix) (hx : evA st x = y) (hix : evA st ix = sc u) (ht : arT P t = some (n, e)) (hs : szT P e = some sz) (hq : idx u n = some q)
    (hz : y.ptrAdd (q * sz) = some z) : OpOK P w0 own o st (st.put o.dst z) :=
  .value hd fun γ a w hR => by
    have hex : (execOp a.eval o).run P w = ((do pure (.value (← Instr.indexAt t (a.eval x) (a.eval ix)))) : Sem Next).run P w := by unfold execOp; rw [ho]
    have hv := hR.ev x
    rw [hx] at hv
    have hi := hR.ev ix
    rw [hix] at hi
    obtain ⟨kd, e1, hlt⟩ := ZeK hq
    rw [(AR.sc_inv hi).1, e1] at hex
    obtain ⟨b, o', e, hp⟩ := hv.ptr (A.isPtr_of hz)
    exact ⟨γ, w, .pointer (some ⟨b, o' + q * sz, none⟩), by rw [hex, e, Sem.run_bind, run_indexAt_array ht hs hlt]; rfl, γ.le_refl, hR, hp _ z hz⟩
theorem AR.rs_inv {v : Value} {k g wd lo len kn : Nat} (h : AR γ w v (.c (.rs k g wd lo len kn))) :
    (∃ cap b E n, v = .slice (some ⟨b, lo * wd, none⟩) len cap ∧ γ.β k g = some b ∧ g ≤ γ.gen k ∧ w.shape? b = some (E, n) ∧ (lo + cap) * wd ≤ n ∧ len ≤ cap ∧ kn ≤ cap) ∨ ((∃ a, v = .slice a 0 0) ∧ lo = 0 ∧ len = 0 ∧ kn = 0 ∧ γ.β k g = none ∧ g ≤ γ.gen k) := by
  cases h with
  | c _ _ h => cases h with
    | rs _ _ _ _ _ _ cap b E n h1 h2 h3 h4 h5 h6 => exact .inl ⟨cap, b, E, n, rfl, h2, h1, h3, h4, h5, h6⟩
    | rn a _ _ _ h1 h2 => exact .inr ⟨⟨a, rfl⟩, rfl, rfl, rfl, h2, h1⟩
theorem Zly {o : Oper} {t e : TypeId} {x ix : Operand} {k g wd lo len kn q : Nat} {u : Value} (hd : st.fits o.dst = true) (ho : o.op = .indexAddr t x ix) (hx : evA st x = .c (.rs k g wd lo len kn)) (hix : evA st ix = sc u) (ht : elT P t = some e) (hs : szT P e = some wd) (hq : idx u len = some q) :
    OpOK P w0 own o st (st.put o.dst (.c (.rp k g wd (lo + q) 0))) :=
  .value hd fun γ a w hR => by
    have hex : (execOp a.eval o).run P w = ((do pure (.value (← Instr.indexAt t (a.eval x) (a.eval ix)))) : Sem Next).run P w := by unfold execOp; rw [ho]
    have hv := hR.ev x
    rw [hx] at hv
    have hi := hR.ev ix
    rw [hix] at hi
    obtain ⟨kd, e1, hlt⟩ := ZeK hq
    rw [(AR.sc_inv hi).1, e1] at hex
    rcases hv.rs_inv with ⟨cap, b, E, n, e, hβ, hg, _⟩ | ⟨_, _, hl, _⟩
    · refine ⟨γ, w, .pointer (some ⟨b, lo * wd + q * wd, none⟩), ?_, γ.le_refl, hR, ?_⟩
      · rw [hex, e, Sem.run_bind, run_indexAt_slice ht hs hlt]; rfl
      · have := CR.rp (γ := γ) (w := w) k g wd (lo + q) 0 b hg hβ
        rw [Nat.add_mul, Nat.add_zero] at this
        exact .c _ _ this
    · omega
theorem Zpt {o : Oper} {t e : TypeId} {x ix : Operand} {tg sz q : Nat} {rows spare : List (List D)} {r : List D} {u : Value} (hd : st.fits o.dst = true) (ho : o.op = .indexAddr t x ix) (hx : evA st x = .c (.d (.s tg sz rows spare))) (hix : evA st ix = sc u) (ht : elT P t = some e) (hs : szT P e = some sz) (hq : idx u rows.length = some q)
    (hr : rows[q]? = some r) : OpOK P w0 own o st (st.put o.dst (.c (.d (.p tg r 0)))) :=
  .value hd fun γ a w hR => by
    have hex : (execOp a.eval o).run P w = ((do pure (.value (← Instr.indexAt t (a.eval x) (a.eval ix)))) : Sem Next).run P w := by unfold execOp; rw [ho]
    have hv := hR.ev x
    rw [hx] at hv
    have hi := hR.ev ix
    rw [hix] at hi
    obtain ⟨kd, e1, hlt⟩ := ZeK hq
    rw [(AR.sc_inv hi).1, e1] at hex
    have hv := hv.d_inv
    generalize a.eval x = v at hv hex
    have hr' : (rows ++ spare)[q]? = some r := by rw [List.getElem?_append_left hlt]; exact hr
    cases hv with
    | e a' _ _ cap => simp at hlt
    | s _ _ _ b off cap sz' vs h1 h2 h3 h4 h5 =>
      have hl := h2 r (List.mem_of_getElem? hr')
      refine ⟨γ, w, .pointer (some ⟨b, off + q * sz, none⟩), ?_, γ.le_refl, hR, ?_⟩
      · rw [hex, Sem.run_bind, run_indexAt_slice ht hs hlt]; rfl
      · have := DR.p (w := w) (G := γ.at (D.top0 (.s tg sz rows spare))) tg r b (off + q * sz) 0 (vs q) h1 (fun j hj => by rw [Nat.add_assoc]; exact h4 q j (by omega) (by omega)) (fun j d hd => h5 q j r d hr' hd)
        exact .c _ _ (.d _ _ this)
theorem ZlM {o : Oper} {x : Operand} {y : A} (hd : st.fits o.dst = true) (ho : o.op = .nilCheck x) (hx : evA st x = y) (hy : y.isPtr = true) : OpOK P w0 own o st (st.put o.dst y) :=
  .value hd fun γ a w hR => by
    have hv := hR.ev x
    rw [hx] at hv
    obtain ⟨b, o', e, _⟩ := hv.ptr hy
    refine ⟨γ, w, a.eval x, ?_, γ.le_refl, hR, hv⟩
    unfold execOp
    rw [ho]
    simp only [e]
    rfl
theorem ZnG {o : Oper} {x : Operand} {i : Nat} {xs : List A} {y : A} (hd : st.fits o.dst = true) (ho : o.op = .extract x i) (hx : evA st x = .tup xs) (hy : xs[i]? = some y) : OpOK P w0 own o st (st.put o.dst y) :=
  .value hd fun γ a w hR => by
    have hv := hR.ev x
    rw [hx] at hv
    have hex : (execOp a.eval o).run P w = ((do pure (.value (← Instr.extract (a.eval x) i))) : Sem Next).run P w := by unfold execOp; rw [ho]
    generalize a.eval x = v at hv hex
    cases hv with
    | tup vs _ hs hc =>
      have hi : i < vs.size := by rw [hs]; exact (List.getElem?_eq_some_iff.1 hy).1
      refine ⟨γ, w, vs.getD i undef, ?_, γ.le_refl, hR, hc i y hy⟩
      rw [hex]
      simp [Instr.extract, Sem.run, hi]
end

section
open Go
variable {P : Program} {w0 : World} {own : Nat → Prop} {γ : Gh} {st : St} {a : Act} {w : World}
theorem ZjY {t : TypeId} {v : Value} {b o : Nat} {arr : Array Value} {E : TypeId} (hn : szT P t = some v.cells.size) (hb : w.heap[b]? = some (.cells arr E (0, 0))) (hf : o + v.cells.size ≤ arr.size) (h1 : ∀ x ∈ v.cells.toList, x.oneCell' = true) :
    (storeVar t ⟨b, o, none⟩ v).run P w = .ok () (w.setRow b (poke arr o v.cells.toList)) := by
  unfold storeVar
  rw [Sem.run_bind, Zbg hn]
  simp only [Result.andThen_ok, ne_eq, not_true_eq_false, if_false]
  have := run_storeCells_at P b o E v.cells.toList 0 arr w hb (by simpa using hf) h1
  simp only [Nat.add_zero] at this
  simp [this, poke]
theorem Zq7 {o : Oper} {t : TypeId} {x y : Operand} {k g wd i j : Nat} {R : Root} {r cs : List C} (hd : st.fits o.dst = true) (ho : o.op = .store t x y) (hx : evA st x = .c (.rp k g wd i j)) (hk : st.store k = some R) (hg : R.tag = g) (hw : R.wd = wd)
    (hr : R.rows[i]? = some r) (hy : (evA st y).cells = some cs) (hok : ZbB cs = true) (hn : szT P t = some cs.length) (hj : j + cs.length ≤ wd) :
    OpOK P w0 own o st ((st.set k { R with rows := R.rows.set i (splice r j cs) }).put o.dst .dead) :=
  .skip (by cases h : o.dst <;> simp_all [St.fits, St.set]) fun γ a w hR => by
    subst hg hw
    have hex : (execOp a.eval o).run P w = ((do Instr.storeAt t (a.eval x) (a.eval y); pure .skip) : Sem Next).run P w := by unfold execOp; rw [ho]
    have hv := hR.ev x
    rw [hx] at hv
    obtain ⟨b, e, hβ, _⟩ := hv.rp_inv
    obtain ⟨hs, hc⟩ := (hR.ev y).cells hy
    have hm := hR.mem k R hk
    unfold RootOK at hm
    rw [hβ] at hm
    obtain ⟨arr, E, harr, hwd, hsz, hcell⟩ := hm
    have hi : i < R.rows.length := (List.getElem?_eq_some_iff.1 hr).1
    have hfit : i * R.wd + j + (a.eval y).cells.size ≤ arr.size := by
      have : (i + 1) * R.wd ≤ R.rows.length * R.wd := Nat.mul_le_mul_right _ hi
      have : (i + 1) * R.wd = i * R.wd + R.wd := Nat.succ_mul _ _
      omega
    refine ⟨γ.drop k i j cs.length, w.setRow b (poke arr (i * R.wd + j) (a.eval y).cells.toList), ?_, γ.drop_le k i j cs.length, ?_⟩
    · rw [hex, e]
      simp only [Instr.storeAt, Instr.sureAddr, Sem.run_bind]
      rw [show ((pure (⟨b, i * R.wd + j, none⟩ : Addr) : Sem Addr).run P w) = .ok ⟨b, i * R.wd + j, none⟩ w from rfl]
      simp only [Result.andThen_ok]
      rw [ZjY (by rw [hs]; exact hn) harr hfit ?_]
      · rfl
      · intro z hz
        obtain ⟨q, hq, rfl⟩ := List.mem_iff_getElem.1 hz
        simp at hq
        have hcs := hc q cs[q] (by simp [← hs, hq])
        have := (hcs.one (Zbv hok (by simp [← hs, hq] : cs[q]? = some cs[q])).2).2
        simpa [Array.getD, hq] using this
    · refine hR.write hk hβ harr hr hj (by simp [hs]) fun q z hz => ?_
      have := hc q z hz
      refine ⟨?_, (Zbv hok hz).1⟩
      have hq : q < (a.eval y).cells.size := by rw [hs]; exact (List.getElem?_eq_some_iff.1 hz).1
      simpa [List.getD, Array.getD, hq] using this
def A.one : A → Option C
  | .c .non => none
  | .c y => some y
  | .agg cs => some (.cf AG [] cs)
  | _ => none
theorem AR.one {v : Value} {y : A} {z : C} (h : AR γ w v y) (hy : y.one = some z) : CR γ w v z := by
  cases y with
  | c y =>
    have : z = y := by cases y <;> simp_all [A.one]
    subst this
    cases h with
    | c _ _ h => exact h
  | agg cs =>
    simp [A.one] at hy
    subst hy
    cases h with
    | agg vs _ hs hc => exact .ca cs vs hs hc
  | _ => simp [A.one] at hy
def ones (st : St) : List Operand → Option (List C)
  | [] => some []
  | x :: l => match (evA st x).one, ones st l with | some y, some r => some (y :: r) | _, _ => none
theorem ZgI (hR : Rel w0 own γ st a w) : ∀ (l : List Operand) (cs : List C), ones st l = some cs → l.length = cs.length ∧ ∀ i c, cs[i]? = some c → CR γ w ((l.map a.eval).toArray.getD i undef) c
  | [], cs, h => by simp [ones] at h; subst h; exact ⟨rfl, by simp⟩
  | x :: l, cs, h => by
    simp only [ones] at h
    split at h
    · rename_i y r h1 h2
      cases h
      obtain ⟨i1, i2⟩ := ZgI hR l r h2
      refine ⟨by simp [i1], fun i c hc => ?_⟩
      cases i with
      | zero => simp at hc; subst hc; simpa [Array.getD] using (hR.ev x).one h1
      | succ i =>
        have := i2 i c (by simpa using hc)
        simpa [Array.getD_eq_getD_getElem?] using this
    · cases h
theorem ZlW {o : Oper} {f : FuncId} (hAG : f ≠ AG) {fst cap : List Operand} {cf cc : List C} (hd : st.fits o.dst = true) (ho : o.op = .makeFunc (.func f) fst.toArray cap.toArray) (h1 : ones st fst = some cf) (h2 : ones st cap = some cc) : OpOK P w0 own o st (st.put o.dst (.c (.cf f cf cc))) :=
  .value hd fun γ a w hR => by
    obtain ⟨l1, c1⟩ := ZgI hR fst cf h1
    obtain ⟨l2, c2⟩ := ZgI hR cap cc h2
    refine ⟨γ, w, .func (.func f) (fst.map a.eval).toArray (cap.map a.eval).toArray, ?_, γ.le_refl, hR, .c _ _ (.cf f cf cc _ _ hAG (by simp [l1]) (by simp [l2]) c1 c2)⟩
    unfold execOp
    rw [ho]
    simp [Instr.makeFunc, Sem.run]
theorem ZmO {t : TypeId} {vs : Array Value} {cs r : List C} {off n : Nat} {ag : Bool} {y : A} (hs : vs.size = cs.length) (hc : ∀ i c, cs[i]? = some c → CR γ w (vs.getD i undef) c) (ha : aggT P t = some ag) (hn : szT P t = some n) (hr : seg cs off n = some r) (hy : mkA ag r = some y) :
    ∃ v, (part t vs off).run P w = .ok v w ∧ AR γ w v y := by
  obtain ⟨hl, hle, hget⟩ := ZfZ hr
  have hAR := AR.mkA (γ := γ) (w := w) (f := fun q => vs.getD (off + q) undef) hl hy (fun q z hz => by
    have hq : q < n := by have := (List.getElem?_eq_some_iff.1 hz).1; omega
    rw [hget q hq] at hz
    exact hc (off + q) z hz)
  refine ⟨_, ?_, hAR.1⟩
  unfold part
  rw [Sem.run_bind, ZgL ha]
  simp only [Result.andThen_ok]
  cases ag with
  | true =>
    simp only [if_true]
    rw [Sem.run_bind, Zbg hn]
    simp only [Result.andThen_ok]
    show Result.ok _ w = _
    congr 2
    apply Array.ext
    · simp; omega
    · intro i h1 h2
      simp at h1 h2
      have : off + i < vs.size := by omega
      simp [Array.getD, this]
  | false =>
    have := hAR.2 rfl
    have hlt : off < vs.size := by omega
    simp [Sem.run, hlt, Array.getD]
theorem Zqn {o : Oper} {t ft : TypeId} {x : Operand} {f off n : Nat} {cs r : List C} {ag : Bool} {y : A} (hd : st.fits o.dst = true) (ho : o.op = .field t x f) (hx : evA st x = .agg cs) (hf : fldT P t f = some (off, ft)) (ha : aggT P ft = some ag) (hn : szT P ft = some n) (hr : seg cs off n = some r) (hy : mkA ag r = some y) :
    OpOK P w0 own o st (st.put o.dst y) :=
  .value hd fun γ a w hR => by
    have hv := hR.ev x
    rw [hx] at hv
    have hex : (execOp a.eval o).run P w = ((do pure (.value (← Instr.field t (a.eval x) f))) : Sem Next).run P w := by unfold execOp; rw [ho]
    generalize a.eval x = v at hv hex
    cases hv with
    | agg vs _ hs hc =>
      obtain ⟨v, h1, h2⟩ := ZmO hs hc ha hn hr hy
      refine ⟨γ, w, v, ?_, γ.le_refl, hR, h2⟩
      rw [hex]
      unfold fldT at hf
      split at hf
      · rename_i fs hu
        obtain ⟨fi, hfi, e⟩ := Option.map_eq_some_iff.1 hf
        cases e
        simp [Instr.field, Zbh hu, hfi, asAgg, Sem.run, h1]
      · cases hf
theorem Zrr {o : Oper} {t e : TypeId} {x ix : Operand} {n sz q : Nat} {u : Value} {cs r : List C} {ag : Bool} {y : A} (hd : st.fits o.dst = true) (ho : o.op = .index t x ix) (hx : evA st x = .agg cs) (hix : evA st ix = sc u) (ht : arT P t = some (n, e)) (hq : idx u n = some q) (ha : aggT P e = some ag) (hn : szT P e = some sz)
    (hr : seg cs (q * sz) sz = some r) (hy : mkA ag r = some y) : OpOK P w0 own o st (st.put o.dst y) :=
  .value hd fun γ a w hR => by
    have hv := hR.ev x
    rw [hx] at hv
    have hi := hR.ev ix
    rw [hix] at hi
    obtain ⟨kd, e1, hlt⟩ := ZeK hq
    have hex : (execOp a.eval o).run P w = ((do pure (.value (← Instr.index t (a.eval x) (a.eval ix)))) : Sem Next).run P w := by unfold execOp; rw [ho]
    rw [(AR.sc_inv hi).1, e1] at hex
    generalize a.eval x = v at hv hex
    cases hv with
    | agg vs _ hs hc =>
      obtain ⟨v, h1, h2⟩ := ZmO hs hc ha hn hr hy
      refine ⟨γ, w, v, ?_, γ.le_refl, hR, h2⟩
      rw [hex]
      unfold arT at ht
      split at ht
      · rename_i n' e' hu
        cases ht
        have h0 : (0 : Int) ≤ (q : Int) ∧ (q : Int) < (n : Int) := by omega
        simp [Instr.index, Zbh hu, asIntOf, Sem.run, Zbg hn, h1, h0]
        intro h; omega
      · cases ht
theorem ZpQ (off : Nat) : ∀ (vs : List Value) (k : Nat) (arr : Array Value), off + k + vs.length ≤ arr.size →
    ((vs.zipIdx k).foldl (fun cs (c, j) => cs.setIfInBounds (off + j) c) arr).size = arr.size ∧
    ∀ i, ((vs.zipIdx k).foldl (fun cs (c, j) => cs.setIfInBounds (off + j) c) arr).getD i undef = if off + k ≤ i ∧ i < off + k + vs.length then vs.getD (i - (off + k)) undef else arr.getD i undef
  | [], k, arr, _ => ⟨rfl, fun i => by simp; intro h1 h2; omega⟩
  | v :: vs, k, arr, h => by
    simp only [List.length_cons] at h
    obtain ⟨h1, h2⟩ := ZpQ off vs (k + 1) (arr.setIfInBounds (off + k) v) (by simp; omega)
    refine ⟨by simpa using h1, fun i => ?_⟩
    have := h2 i
    simp only [List.zipIdx_cons, List.foldl_cons, List.length_cons]
    rw [this]
    by_cases hi : i = off + k
    · subst hi
      rw [if_neg (by omega), if_pos (by omega)]
      have hlt : off + k < arr.size := by omega
      simp [Array.getD_eq_getD_getElem?, hlt]
    · by_cases hb : off + (k + 1) ≤ i ∧ i < off + (k + 1) + vs.length
      · rw [if_pos hb, if_pos (by omega)]
        have e : i - (off + k) = (i - (off + (k + 1))) + 1 := by omega
        rw [e]; simp
      · rw [if_neg hb, if_neg (by omega)]
        rw [Array.getD_eq_getD_getElem?, Array.getElem?_setIfInBounds_ne (fun e => hi e.symm), ← Array.getD_eq_getD_getElem?]
def Ze3 (place : Nat → Option (Nat × Nat)) (cells : List C) : List (Nat × A) → Option (List C)
  | [] => some cells
  | (i, y) :: rest =>
    match place i, y.cells with
    | some (off, size), some cs => if cs.length = size ∧ off + size ≤ cells.length then Ze3 place (splice cells off cs) rest else none
    | _, _ => none
theorem ZdH (place : Nat → Option (Nat × Nat)) : ∀ (ps : List (Nat × A)) (vs : List (Nat × Value)) (arr : Array Value) (cells out : List C), Ze3 place cells ps = some out → arr.size = cells.length → (∀ i c, cells[i]? = some c → CR γ w (arr.getD i undef) c) →
    vs.length = ps.length → (∀ (i : Nat) p u, ps[i]? = some p → vs[i]? = some u → p.1 = u.1 ∧ AR γ w u.2 p.2) →
    ∃ arr', Instr.fill place arr vs = some arr' ∧ arr'.size = out.length ∧ ∀ i c, out[i]? = some c → CR γ w (arr'.getD i undef) c
  | [], vs, arr, cells, out, h, hs, hc, hl, _ => by
    simp [Ze3] at h; subst h
    simp at hl; subst hl
    exact ⟨arr, rfl, hs, hc⟩
  | (i, y) :: ps, [], arr, cells, out, h, hs, hc, hl, _ => by simp at hl
  | (i, y) :: ps, (i', v) :: vs, arr, cells, out, h, hs, hc, hl, hp => by
    obtain ⟨e, hAR⟩ := hp 0 (i, y) (i', v) rfl rfl
    simp only at e hAR
    subst e
    simp only [Ze3] at h
    split at h
    · rename_i off size cs hpl hcs
      split at h
      · rename_i hfit
        obtain ⟨s1, s2⟩ := hAR.cells hcs
        have hsz : v.cells.size = size := by omega
        have hz := ZpQ off v.cells.toList 0 arr (by simp; omega)
        have hne : ¬ ((decide (v.cells.size ≠ size) || decide (off + v.cells.size > arr.size)) = true) := by simp; omega
        simp only [Instr.fill, hpl]
        rw [if_neg (by simpa using hne)]
        have hfold : v.cells.zipIdx.foldl (fun cs (c, j) => cs.setIfInBounds (off + j) c) arr = (v.cells.toList.zipIdx 0).foldl (fun cs (c, j) => cs.setIfInBounds (off + j) c) arr := by
          rw [← Array.foldl_toList, Array.toList_zipIdx]
        rw [hfold]
        refine ZdH place ps vs _ (splice cells off cs) out h ?_ ?_ (by simpa using hl) (fun j p u h1 h2 => hp (j + 1) p u (by simpa using h1) (by simpa using h2))
        · rw [hz.1, Zdo _ _ _ (by omega)]; exact hs
        · intro j c hj
          rw [Zfi _ _ _ (by omega)] at hj
          rw [hz.2]
          simp only [Nat.add_zero, Array.length_toList]
          by_cases hb : off ≤ j ∧ j < off + cs.length
          · rw [if_pos hb] at hj
            rw [if_pos (by omega)]
            have := s2 _ _ hj
            have hq : j - off < v.cells.size := by omega
            simpa [List.getD, Array.getD, hq] using this
          · rw [if_neg hb] at hj
            rw [if_neg (by omega)]
            exact hc j c hj
      · cases h
    · cases h
theorem ZeD {α β : Type} (g : α → Sem β) (f : α → β) : ∀ l : List α, (∀ x ∈ l, (g x).run P w = .ok (f x) w) → (l.mapM g).run P w = .ok (l.map f) w
  | [], _ => by simp [Sem.run]
  | x :: l, h => by
    have ih := ZeD g f l fun y hy => h y (List.mem_cons_of_mem _ hy)
    simp [List.mapM_cons, h x (List.mem_cons_self ..), ih, Sem.run]
theorem Zro {α β : Type} (g : α → Sem β) (f : α → β) (xs : Array α) (h : ∀ x ∈ xs.toList, (g x).run P w = .ok (f x) w) : (xs.mapM g).run P w = .ok (xs.map f) w := by
  have h1 := ZeD (P := P) (w := w) g f xs.toList h
  rw [← Array.toList_mapM, Sem.run_map] at h1
  cases hm : (xs.mapM g).run P w with
  | ok arr w' =>
    rw [hm] at h1
    simp only [Result.andThen_ok, Result.ok.injEq] at h1
    obtain ⟨e1, e2⟩ := h1
    subst e2
    congr 1
    apply Array.ext'
    rw [e1]; simp
  | halt x w' => rw [hm] at h1; simp at h1
def ZgN (P : Program) (t : TypeId) (i : Nat) : Option (Nat × Nat) := (fldT P t i).bind fun (off, ft) => (szT P ft).map fun n => (off, n)
def Zbz (st : St) (l : List (Nat × Operand)) : List (Nat × A) := l.map fun (i, x) => (i, evA st x)
theorem ZcY (hR : Rel w0 own γ st a w) (ps : List (Nat × Operand)) (i : Nat) (p : Nat × A) (u : Nat × Value) (h1 : (Zbz st ps)[i]? = some p) (h2 : (ps.map fun (i, x) => (i, a.eval x))[i]? = some u) : p.1 = u.1 ∧ AR γ w u.2 p.2 := by
  simp only [Zbz, List.getElem?_map] at h1 h2
  cases hq : ps[i]? with
  | none => simp [hq] at h1
  | some q => simp [hq] at h1 h2; subst h1 h2; exact ⟨rfl, hR.ev q.2⟩
theorem Zh6 {l : List Value} {z : Value} (hz2 : z.cells.toList = l) (hp : l.all plain = true) (i : Nat) (c : C) (hc : (l.map fun x => C.d (.v x))[i]? = some c) : CR γ w (z.cells.getD i undef) c := by
  rw [List.getElem?_map] at hc
  obtain ⟨x, hx, rfl⟩ := Option.map_eq_some_iff.1 hc
  rw [← hz2] at hx
  simp at hx
  have : z.cells.getD i undef = x := by simp [Array.getD_eq_getD_getElem?, hx]
  rw [this]
  exact .d _ _ (.v x (List.all_eq_true.1 hp x (by rw [← hz2]; simp; exact Array.mem_of_getElem? hx)))
theorem Zp8 {P : Program} {t : TypeId} {fs : Array Field} (hu : P.underlying t = some (.struct fs)) (hsome : ∀ f ∈ fs.toList, (szT P f.type).isSome = true) (i : Nat) :
    (fs.map fun f => (f.offset, (szT P f.type).getD 0))[i]? = ZgN P t i := by
  simp only [ZgN, fldT, hu, Array.getElem?_map]
  cases hq : fs[i]? with
  | none => rfl
  | some f =>
    have := hsome f (by simp; exact Array.mem_of_getElem? hq)
    obtain ⟨n, hn⟩ := Option.isSome_iff_exists.1 this
    simp [hn]
theorem Zqi {o : Oper} {t : TypeId} {ps : List (Nat × Operand)} {l : List Value} {out : List C} {fs : Array Field} (hd : st.fits o.dst = true) (ho : o.op = .build t ps.toArray) (hz : Zd3 P t = some l) (hp : l.all plain = true)
    (hf : Ze3 (ZgN P t) (l.map fun x => .d (.v x)) (Zbz st ps) = some out) (hu : P.underlying t = some (.struct fs)) (hsome : ∀ f ∈ fs.toList, (szT P f.type).isSome = true) :
    OpOK P w0 own o st (st.put o.dst (.agg out)) :=
  .value hd fun γ a w hR => by
    obtain ⟨z, hz1, hz2⟩ := ZeR hz w
    have hex : (execOp a.eval o).run P w = ((do pure (.value (← Instr.build t (ps.toArray.map fun (i, x) => (i, a.eval x))))) : Sem Next).run P w := by unfold execOp; rw [ho]
    obtain ⟨arr', f1, f2, f3⟩ := ZdH (γ := γ) (w := w) (ZgN P t) (Zbz st ps) (ps.map fun (i, x) => (i, a.eval x)) z.cells _ out hf (by rw [← hz2]; simp) (Zh6 hz2 hp) (by simp [Zbz]) (fun i p u h1 h2 => ZcY hR ps i p u h1 h2)
    refine ⟨γ, w, .agg arr', ?_, γ.le_refl, hR, .agg _ _ f2 f3⟩
    have hplaces : (fs.mapM fun f => do pure (f.offset, ← Go.sizeOf f.type) : Sem (Array (Nat × Nat))).run P w = .ok (fs.map fun f => (f.offset, (szT P f.type).getD 0)) w := by
      refine Zro _ _ fs fun f hf => ?_
      obtain ⟨n, hn⟩ := Option.isSome_iff_exists.1 (hsome f hf)
      simp [Zbg hn, hn, Sem.run]
    have hfun : (fun i => (fs.map fun f => (f.offset, (szT P f.type).getD 0))[i]?) = ZgN P t := funext fun i => Zp8 hu hsome i
    rw [hex]
    simp only [Instr.build, Sem.run_bind, hz1, Result.andThen_ok, Zbh hu, hplaces]
    rw [hfun]
    simp [f1, Sem.run]
theorem Zlq {o : Oper} {t e : TypeId} {n sz : Nat} {ps : List (Nat × Operand)} {l : List Value} {out : List C} (hd : st.fits o.dst = true) (ho : o.op = .build t ps.toArray) (hz : Zd3 P t = some l) (hp : l.all plain = true) (ht : arT P t = some (n, e)) (hsz : szT P e = some sz)
    (hf : Ze3 (fun i => some (i * sz, sz)) (l.map fun x => .d (.v x)) (Zbz st ps) = some out) :
    OpOK P w0 own o st (st.put o.dst (.agg out)) :=
  .value hd fun γ a w hR => by
    obtain ⟨z, hz1, hz2⟩ := ZeR hz w
    have hex : (execOp a.eval o).run P w = ((do pure (.value (← Instr.build t (ps.toArray.map fun (i, x) => (i, a.eval x))))) : Sem Next).run P w := by unfold execOp; rw [ho]
    obtain ⟨arr', f1, f2, f3⟩ := ZdH (γ := γ) (w := w) (fun i => some (i * sz, sz)) (Zbz st ps) (ps.map fun (i, x) => (i, a.eval x)) z.cells _ out hf (by rw [← hz2]; simp) (Zh6 hz2 hp) (by simp [Zbz]) (fun i p u h1 h2 => ZcY hR ps i p u h1 h2)
    refine ⟨γ, w, .agg arr', ?_, γ.le_refl, hR, .agg _ _ f2 f3⟩
    unfold arT at ht
    split at ht
    · rename_i n' e' hu
      cases ht
      rw [hex]
      simp only [Instr.build, Sem.run_bind, hz1, Result.andThen_ok, Zbh hu, Zbg hsz]
      simp [f1, Sem.run]
    · cases ht
end

section
open Go
variable {P : Program} {w0 : World} {own : Nat → Prop} {γ : Gh} {st : St} {a : Act} {w : World}
def D.keeps : D → Bool
  | .s t _ _ _ => t == 0 || t == 1
  | .p t _ _ => t == 0
  | _ => true
def emb (rows : List (List D)) : List (List C) := rows.map fun r => r.map C.d
theorem ZiI {rows : List (List D)} {i j : Nat} {r : List D} {d : D} (h : rows[i]? = some r) (h2 : r[j]? = some d) : ∃ r', (emb rows)[i]? = some r' ∧ r'[j]? = some (.d d) := by
  refine ⟨r.map C.d, ?_, ?_⟩
  · simp [emb, h]
  · simp [h2]
def Gh.move (γ : Gh) (k i j k2 g2 len : Nat) : Gh :=
  { γ with
    F := fun c => γ.F c ∨ γ.FP k i j c ∨ ∃ i' j', len ≤ i' ∧ γ.FP k2 i' j' c
    FP := fun k' i' j' c => if k' = k ∧ i' = i ∧ j' = j then γ.β k2 g2 = some c ∨ ∃ i2 j2, i2 < len ∧ γ.FP k2 i2 j2 c else k' ≠ k2 ∧ γ.FP k' i' j' c }
theorem Gh.move_G {γ : Gh} {k i j k2 g2 len : Nat} (c : Nat) (h : γ.G c) : (γ.move k i j k2 g2 len).G c := by
  rcases h with h | ⟨k', i', j', h⟩
  · exact .inl (.inl h)
  · by_cases e : k' = k ∧ i' = i ∧ j' = j
    · obtain ⟨rfl, rfl, rfl⟩ := e; exact .inl (.inr (.inl h))
    · by_cases e2 : k' = k2
      · subst e2
        by_cases hl : i' < len
        · exact .inr ⟨k, i, j, by simp only [Gh.move, and_self, if_true]; exact .inr ⟨i', j', hl, h⟩⟩
        · exact .inl (.inr (.inr ⟨i', j', by omega, h⟩))
      · exact .inr ⟨k', i', j', by simp only [Gh.move, e, if_false]; exact ⟨e2, h⟩⟩
theorem Gh.move_G' {γ : Gh} {k i j k2 g2 len : Nat} (c : Nat) (h : (γ.move k i j k2 g2 len).G c) : γ.G c ∨ γ.β k2 g2 = some c := by
  rcases h with (h | h | ⟨i', j', _, h⟩) | ⟨k', i', j', h⟩
  · exact .inl (.inl h)
  · exact .inl (.inr ⟨_, _, _, h⟩)
  · exact .inl (.inr ⟨_, _, _, h⟩)
  · simp only [Gh.move] at h
    split at h
    · rcases h with h | ⟨i2, j2, _, h⟩
      · exact .inr h
      · exact .inl (.inr ⟨_, _, _, h⟩)
    · exact .inl (.inr ⟨_, _, _, h.2⟩)
theorem Gh.move_le (γ : Gh) (k i j k2 g2 len : Nat) : γ.le (γ.move k i j k2 g2 len) :=
  { gen := fun _ => Nat.le_refl _, β := fun _ _ _ => rfl, F := fun c hc => .inl hc, G := fun c hc => Gh.move_G c hc, F0 := rfl }
def St.del (st : St) (k : Nat) : St := { st with store := fun i => if i = k then none else st.store i }
theorem Rel.movein (h : Rel w0 own γ st a w) {k k2 i j len kn : Nat} {R R2 : Root} {r : List C} {rowsD : List (List D)} (hk : st.store k = some R) (hr : R.rows[i]? = some r) (hj : r[j]? = some (.rs k2 R2.tag R2.wd 0 len kn)) (hne : k2 ≠ k) (hk2 : st.store k2 = some R2)
    (hlen : len ≤ R2.rows.length) (hD : R2.rows = emb rowsD) (hkeep : (rowsD.all fun r => r.all D.keeps) = true) :
    Rel w0 own (γ.move k i j k2 R2.tag len) ((st.del k2).set k { R with rows := R.rows.set i (r.set j (.d (.s 1 R2.wd (rowsD.take len) []))) }) a w := by
  have hle := γ.move_le k i j k2 R2.tag len
  have hS : Same γ.G w w := .refl _ _
  have hz := Shapes.refl w
  have hi : i < R.rows.length := (List.getElem?_eq_some_iff.1 hr).1
  have hjl : j < r.length := (List.getElem?_eq_some_iff.1 hj).1
  have hstore : ∀ k' R', ((st.del k2).set k { R with rows := R.rows.set i (r.set j (.d (.s 1 R2.wd (rowsD.take len) []))) }).store k' = some R' → (k' = k ∧ R' = { R with rows := R.rows.set i (r.set j (.d (.s 1 R2.wd (rowsD.take len) []))) }) ∨ (k' ≠ k ∧ k' ≠ k2 ∧ st.store k' = some R') := by
    intro k' R' h1
    simp only [St.set, St.del] at h1
    split at h1
    · cases h1; exact .inl ⟨‹_›, rfl⟩
    · split at h1
      · cases h1
      · exact .inr ⟨‹_›, ‹_›, h1⟩
  have hold : ∀ k' R', ((st.del k2).set k { R with rows := R.rows.set i (r.set j (.d (.s 1 R2.wd (rowsD.take len) []))) }).store k' = some R' → ∃ R0, st.store k' = some R0 ∧ R0.tag = R'.tag ∧ k' ≠ k2 := by
    intro k' R' h1
    rcases hstore k' R' h1 with ⟨rfl, rfl⟩ | ⟨_, h2, h3⟩
    · exact ⟨R, hk, rfl, fun e => hne e.symm⟩
    · exact ⟨R', h3, rfl, h2⟩
  have hb2 : ∀ c, γ.β k2 R2.tag = some c → ¬ γ.F c ∧ (∀ k' i j, ¬ γ.FP k' i j c) ∧ (own c ∨ w0.heap.size ≤ c) := fun c hc => h.rootF k2 R2 c hk2 hc
  refine { env := h.env, size := h.size, defers := h.defers, tmps := fun q => (h.tmps q).mono hle hS hz, ghost := fun q => (h.ghost q).mono hle hS hz, gen := h.gen, tag := ?_, mem := ?_, inj := ?_, rootF := ?_, fpF := ?_, fpD := ?_, fs := fun b hF => hF.elim (h.fs b) fun hF => hF.elim (fun hf => .inr (h.fpF _ _ _ _ hf).2) fun ⟨_, _, _, hf⟩ => .inr (h.fpF _ _ _ _ hf).2, lt := ?_, ltβ := h.ltβ }
  · intro k' R' h1
    obtain ⟨R0, q1, q2, _⟩ := hold k' R' h1
    rw [← q2]; exact h.tag k' R0 q1
  · intro k' R' h1
    rcases hstore k' R' h1 with ⟨rfl, rfl⟩ | ⟨n1, n2, h3⟩
    · have hm := h.mem k' R hk
      unfold RootOK at hm ⊢
      show match γ.β k' R.tag with | none => _ | some b => _
      split at hm
      · rename_i hn; rw [hm] at hi; simp at hi
      · rename_i b hβ
        simp only [hβ]
        obtain ⟨arr, E, harr, hw, hsz, hcell⟩ := hm
        have hcell0 := hcell i j r _ hr hj
        refine ⟨arr, E, harr, ?_, by simpa using hsz, ?_⟩
        · intro x hx
          rcases List.mem_or_eq_of_mem_set hx with hx | hx
          · exact hw x hx
          · subst hx; simpa using hw r (List.mem_of_getElem? hr)
        · intro i' j' r' c hr' hc'
          by_cases e : i' = i ∧ j' = j
          · obtain ⟨rfl, rfl⟩ := e
            rw [List.getElem?_set_self hi] at hr'
            cases hr'
            rw [List.getElem?_set_self hjl] at hc'
            cases hc'
            simp only [SR]
            have hcr : CR γ w (arr.getD (i' * R.wd + j') undef) (.rs k2 R2.tag R2.wd 0 len kn) := hcell0
            generalize arr.getD (i' * R.wd + j') undef = v at hcr
            have hm2 := h.mem k2 R2 hk2
            unfold RootOK at hm2
            rcases (AR.c (γ := γ) _ _ hcr).rs_inv with ⟨cap, b2, E2, n, rfl, hβ2, hg2, hsh, hcap, hlc, _⟩ | ⟨⟨_, rfl⟩, _, hl0, _, hβ2, _⟩
            · rw [hβ2] at hm2
              obtain ⟨arr2, E2', harr2, hw2, hsz2, hcell2⟩ := hm2
              have hn : n = arr2.size := by simp [World.shape?, harr2] at hsh; exact hsh.2.symm
              have hlen' : (rowsD.take len).length = len := by have : rowsD.length = R2.rows.length := by rw [hD]; simp [emb]
                                                               simp; omega
              have hget : ∀ q x y (rr : List D) d, (rowsD.take len ++ [])[x]? = some rr → rr[y]? = some d → q = OD w (γ.move k' i' j' k2 R2.tag len).F (arr2.getD (x * R2.wd + y) undef) d (γ.FP k2 x y) → q := by
                intro q x y rr d h1 h2 hq
                subst hq
                rw [List.append_nil] at h1
                have hx : x < len := by have := (List.getElem?_eq_some_iff.1 h1).1; omega
                rw [List.getElem?_take, if_pos hx] at h1
                obtain ⟨r2, g1, g2⟩ := ZiI h1 h2
                rw [← hD] at g1
                have hsr := hcell2 x y r2 _ g1 g2
                have hk : d.keeps = true := List.all_eq_true.1 (List.all_eq_true.1 hkeep rr (List.mem_of_getElem? h1)) d (List.mem_of_getElem? h2)
                have hFle : ∀ b, γ.F b → (γ.move k' i' j' k2 R2.tag len).F b := fun b hb => .inl hb
                unfold SR at hsr
                split at hsr
                · rename_i heq; cases heq; exact OD.mono hFle (Same.refl _ _) hsr (Same.refl _ _)
                · rename_i hne'
                  have ht : d.top0 = true := by
                    cases d with
                    | s t z rr' sp =>
                      simp [D.keeps] at hk
                      rcases hk with rfl | rfl
                      · rfl
                      · exact (hne' z rr' sp rfl).elim
                    | p t cells off => simpa [D.keeps, D.top0] using hk
                    | _ => rfl
                  have hdr : DR w γ.F (arr2.getD (x * R2.wd + y) undef) d := by
                    have hh := (AR.c (γ := γ) _ _ hsr).d_inv
                    rw [ht] at hh; exact hh
                  refine .r _ _ _ (fun z rr' sp e => ?_) (hdr.mono hFle (Same.refl _ _))
                  exact hne' z rr' sp (by rw [e])
              have := OD.s (w := w) (G := (γ.move k' i' j' k2 R2.tag len).F) (rowsD.take len) [] b2 cap R2.wd arr2 E2' ((γ.move k' i' j' k2 R2.tag len).FP k' i' j') (fun x y => if x < len then γ.FP k2 x y else fun _ => False)
                (by simp only [Gh.move, and_self, if_true]; exact .inl hβ2) harr2 ?_ (by rw [hlen']; simpa using hlc) (by rw [← hn]; simpa using hcap) ?_ ?_ ?_
              · rw [hlen'] at this
                simpa using this
              · intro rr hrr
                rw [List.append_nil] at hrr
                obtain ⟨x, hx⟩ := List.getElem?_of_mem hrr
                have hxl : x < len := by have := (List.getElem?_eq_some_iff.1 hx).1; omega
                rw [List.getElem?_take, if_pos hxl] at hx
                have : rr.map C.d ∈ R2.rows := by rw [hD]; exact List.mem_map.2 ⟨rr, List.mem_of_getElem? hx, rfl⟩
                simpa using hw2 _ this
              · intro x y rr d h1 h2
                have hx : x < len := by
                  rw [List.append_nil] at h1
                  have := (List.getElem?_eq_some_iff.1 h1).1; omega
                simp only [hx, if_true]
                exact hget _ x y rr d h1 h2 rfl
              · intro x y c hc
                split at hc
                · rename_i hx
                  refine ⟨?_, fun e => ?_⟩
                  · simp only [Gh.move, and_self, if_true]; exact .inr ⟨x, y, hx, hc⟩
                  · subst e; exact (hb2 c hβ2).2.1 _ _ _ hc
                · exact hc.elim
              · intro x y x' y' c h1 h2
                split at h1
                · split at h2
                  · obtain ⟨_, e1, e2⟩ := h.fpD _ _ _ _ _ _ _ h1 h2; exact ⟨e1, e2⟩
                  · exact h2.elim
                · exact h1.elim
            · subst hl0
              simp only [List.take_zero]
              exact .n _ _ _
          · have hc2 : ∃ r0, R.rows[i']? = some r0 ∧ r0[j']? = some c := by
              by_cases ei : i' = i
              · subst ei
                rw [List.getElem?_set_self hi] at hr'
                cases hr'
                rw [List.getElem?_set_ne (fun e2 => e ⟨rfl, e2.symm⟩)] at hc'
                exact ⟨r, hr, hc'⟩
              · rw [List.getElem?_set_ne (fun e2 => ei e2.symm)] at hr'
                exact ⟨r', hr', hc'⟩
            obtain ⟨r0, g1, g2⟩ := hc2
            have e2 : (γ.move k' i j k2 R2.tag len).FP k' i' j' = γ.FP k' i' j' := by
              funext c
              simp only [Gh.move, true_and, e, if_false]
              exact propext ⟨fun q => q.2, fun q => ⟨fun e => hne e.symm, q⟩⟩
            rw [e2]
            exact (hcell i' j' r0 c g1 g2).mono hle hS hz (Same.refl _ _)
    · refine (h.mem k' R' h3).mono hle hS hz (by rw [h.gen]; exact h.tag k' R' h3) (fun _ _ => rfl) (fun i' j' r' c _ _ b => ?_)
      simp [Gh.move, n1, n2]
  · intro k1 R1 k3 R3 b h1 h3 h4 h5
    obtain ⟨R1', g1, e1, _⟩ := hold k1 R1 h1
    obtain ⟨R3', g3, e3, _⟩ := hold k3 R3 h3
    exact h.inj k1 R1' k3 R3' b g1 g3 (by rw [e1]; exact h4) (by rw [e3]; exact h5)
  · intro k1 R1 b h1 h3
    obtain ⟨R1', g1, e1, n2⟩ := hold k1 R1 h1
    have hβ1 : γ.β k1 R1'.tag = some b := by rw [e1]; exact h3
    obtain ⟨p1, p2, p3⟩ := h.rootF k1 R1' b g1 hβ1
    refine ⟨fun hF => ?_, fun k' i' j' hf => ?_, p3⟩
    · rcases hF with hF | hF | ⟨_, _, _, hF⟩
      · exact p1 hF
      · exact p2 _ _ _ hF
      · exact p2 _ _ _ hF
    · simp only [Gh.move] at hf
      split at hf
      · rcases hf with hf | ⟨_, _, _, hf⟩
        · exact n2 (h.inj k1 R1' k2 R2 b g1 hk2 hβ1 hf)
        · exact p2 _ _ _ hf
      · exact p2 _ _ _ hf.2
  · intro k1 i1 j1 b hf
    simp only [Gh.move] at hf
    split at hf
    · rename_i e
      rcases hf with hf | ⟨i2, j2, hl2, hf⟩
      · obtain ⟨p1, p2, p3⟩ := hb2 b hf
        refine ⟨fun hF => ?_, p3⟩
        rcases hF with hF | hF | ⟨_, _, _, hF⟩
        · exact p1 hF
        · exact p2 _ _ _ hF
        · exact p2 _ _ _ hF
      · obtain ⟨p1, p2⟩ := h.fpF _ _ _ _ hf
        refine ⟨fun hF => ?_, p2⟩
        rcases hF with hF | hF | ⟨i3, j3, hl3, hF⟩
        · exact p1 hF
        · exact hne (h.fpD _ _ _ _ _ _ _ hf hF).1
        · have := (h.fpD _ _ _ _ _ _ _ hf hF).2.1; omega
    · rename_i e
      obtain ⟨n2, hf⟩ := hf
      obtain ⟨p1, p2⟩ := h.fpF _ _ _ _ hf
      refine ⟨fun hF => ?_, p2⟩
      rcases hF with hF | hF | ⟨i3, j3, hl3, hF⟩
      · exact p1 hF
      · exact e (h.fpD _ _ _ _ _ _ _ hf hF)
      · exact n2 (h.fpD _ _ _ _ _ _ _ hf hF).1
  · intro k1 i1 j1 k3 i3 j3 b h1 h3
    simp only [Gh.move] at h1 h3
    split at h1 <;> split at h3
    · rename_i e1 e3; obtain ⟨rfl, rfl, rfl⟩ := e1; obtain ⟨rfl, rfl, rfl⟩ := e3; exact ⟨rfl, rfl, rfl⟩
    · rcases h1 with h1 | ⟨_, _, _, h1⟩
      · exact ((hb2 b h1).2.1 _ _ _ h3.2).elim
      · exact (h3.1 (h.fpD _ _ _ _ _ _ _ h1 h3.2).1.symm).elim
    · rcases h3 with h3 | ⟨_, _, _, h3⟩
      · exact ((hb2 b h3).2.1 _ _ _ h1.2).elim
      · exact (h1.1 (h.fpD _ _ _ _ _ _ _ h3 h1.2).1.symm).elim
    · exact h.fpD _ _ _ _ _ _ _ h1.2 h3.2
  · intro b hG
    rcases Gh.move_G' b hG with hG | hβ
    · exact h.lt b hG
    · exact h.ltβ k2 R2.tag b (by rw [h.gen]; exact h.tag k2 R2 hk2) hβ
end

section
open Go
variable {P : Program} {w0 : World} {own : Nat → Prop} {γ : Gh} {st : St} {a : Act} {w : World}
inductive DV where
  | c (x : D)
  | agg (xs : List D)
  | tup (xs : List DV)
  deriving Inhabited
inductive OV (w : World) (G : Nat → Prop) : Value → DV → (Nat → Prop) → Prop
  | c (v : Value) (x : D) (S : Nat → Prop) : OD w G v x S → OV w G v (.c x) S
  | agg (vs : Array Value) (xs : List D) (S : Nat → Prop) (sub : Nat → Nat → Prop) : vs.size = xs.length → (∀ i d, xs[i]? = some d → OD w G (vs.getD i undef) d (sub i)) → (∀ i b, sub i b → S b) →
      (∀ i i' b, sub i b → sub i' b → i = i') → OV w G (.agg vs) (.agg xs) S
  | tup (vs : Array Value) (xs : List DV) (S : Nat → Prop) (sub : Nat → Nat → Prop) : vs.size = xs.length → (∀ i d, xs[i]? = some d → OV w G (vs.getD i undef) d (sub i)) → (∀ i b, sub i b → S b) →
      (∀ i i' b, sub i b → sub i' b → i = i') → OV w G (.tuple vs) (.tup xs) S
def CT (P : Program) (f : FuncId) (args : List DV) (res : DV) : Prop :=
  ∀ (w : World) (vs : Array Value) (S G : Nat → Prop), OV w G (.tuple vs) (.tup args) S → (∀ b, G b → b < w.heap.size ∧ ¬ S b) → (∀ b, S b → b < w.heap.size) →
    Calls P f vs w fun e w' => ∃ v S', e = .returned v ∧ OV w' (fun b => (G b ∨ S b ∨ w.heap.size ≤ b) ∧ b < w'.heap.size ∧ ¬ S' b) v res S' ∧ (∀ b, S' b → (S b ∨ w.heap.size ≤ b) ∧ b < w'.heap.size) ∧ Env w S w'
def strip : List (List C) → Option (List (List D))
  | [] => some []
  | r :: l => match stripRow r, strip l with | some x, some y => some (x :: y) | _, _ => none
where
  stripRow : List C → Option (List D)
    | [] => some []
    | .d x :: l => (stripRow l).map (x :: ·)
    | _ :: _ => none
theorem Za0 : ∀ (r : List C) (x : List D), strip.stripRow r = some x → r = x.map C.d
  | [], x, h => by simp [strip.stripRow] at h; subst h; rfl
  | c :: r, x, h => by
    cases c with
    | d y =>
      simp only [strip.stripRow, Option.map_eq_some_iff] at h
      obtain ⟨x', h1, rfl⟩ := h
      rw [Za0 r x' h1]; rfl
    | _ => simp [strip.stripRow] at h
theorem Zid : ∀ (rows : List (List C)) (x : List (List D)), strip rows = some x → rows = emb x
  | [], x, h => by simp [strip] at h; subst h; rfl
  | r :: rows, x, h => by
    simp only [strip] at h
    split at h
    · rename_i y z h1 h2
      cases h
      rw [Za0 r y h1, Zid rows z h2]; rfl
    · cases h
theorem ZjU (x : List D) : strip.stripRow (x.map C.d) = some x := by
  induction x with
  | nil => rfl
  | cons d x ih => simp [strip.stripRow, ih]
@[simp] theorem ZpW (x : List (List D)) : strip (emb x) = some x := by
  induction x with
  | nil => rfl
  | cons r x ih => simp only [emb, List.map_cons, strip, ZjU]; rw [show List.map (fun r => List.map C.d r) x = emb x from rfl, ih]
theorem SR.read {v : Value} {d : D} {k i j : Nat} (h : SR γ w v (.d d) (γ.FP k i j)) : DR w γ.G v d := by
  unfold SR at h
  split at h
  · rename_i heq; cases heq; exact h.read (fun b hb => .inl hb) (fun b hb => .inr ⟨k, i, j, hb⟩)
  · exact (AR.c (γ := γ) _ _ h).d_inv.mono (γ.at_G _) (Same.refl _ _)
end

section
open Go
variable {P : Program} {w0 : World} {own : Nat → Prop} {γ : Gh} {st : St} {a : Act} {w : World}
def Free (w0 : World) (own : Nat → Prop) (γ : Gh) (st : St) (w : World) (S : Nat → Prop) : Prop :=
  ∀ b, S b → ¬ γ.G b ∧ (∀ k R, st.store k = some R → γ.β k R.tag ≠ some b) ∧ (own b ∨ w0.heap.size ≤ b) ∧ b < w.heap.size
def Gh.still (γ : Gh) (N : Nat → Prop) : Gh := { γ with F := fun b => γ.F b ∨ N b }
theorem Rel.still (h : Rel w0 own γ st a w) {N : Nat → Prop} (hN : Free w0 own γ st w N) : Rel w0 own (γ.still N) st a w ∧ γ.le (γ.still N) := by
  have hG : ∀ b, (γ.still N).G b → γ.G b ∨ N b := by
    rintro b ((h | h) | h)
    · exact .inl (.inl h)
    · exact .inr h
    · exact .inl (.inr h)
  have hle : γ.le (γ.still N) := { gen := fun _ => Nat.le_refl _, β := fun _ _ _ => rfl, F := fun b hb => .inl hb, G := fun b hb => hb.elim (fun h => .inl (.inl h)) .inr, F0 := rfl }
  refine ⟨{ env := h.env, size := h.size, defers := h.defers, tmps := fun i => (h.tmps i).mono hle (.refl _ _) (.refl _), ghost := fun i => (h.ghost i).mono hle (.refl _ _) (.refl _), gen := h.gen, tag := h.tag, mem := fun k R hk => ?_, inj := h.inj, rootF := fun k R b hk hβ => ?_, fpF := fun k i j b hf => ?_, fpD := h.fpD, fs := fun b hF => hF.elim (h.fs b) fun hn => .inr (hN b hn).2.2.1, lt := fun b hb => ?_, ltβ := h.ltβ }, hle⟩
  · exact (h.mem k R hk).mono hle (.refl _ _) (.refl _) (by rw [h.gen]; exact h.tag k R hk) (fun _ _ => rfl) (fun _ _ _ _ _ _ _ => Iff.rfl)
  · obtain ⟨p1, p2, p3⟩ := h.rootF k R b hk hβ
    exact ⟨fun hF => hF.elim p1 fun hn => (hN b hn).2.1 k R hk hβ, p2, p3⟩
  · obtain ⟨p1, p2⟩ := h.fpF k i j b hf
    exact ⟨fun hF => hF.elim p1 fun hn => (hN b hn).1 (.inr ⟨k, i, j, hf⟩), p2⟩
  · rcases hG b hb with hb | hb
    · exact h.lt b hb
    · exact (hN b hb).2.2.2
def Gh.adopt (γ : Gh) (k : Nat) (b : Option Nat) (sub : Nat → Nat → Nat → Prop) : Gh :=
  { γ.fresh k b with FP := fun k' i j c => if k' = k then sub i j c else γ.FP k' i j c }
theorem OD.not_own {G : Nat → Prop} {v : Value} {d : D} {S : Nat → Prop} (h : OD w G v d S) (hne : ∀ z rows spare, d ≠ .s 1 z rows spare) : DR w G v d := by
  cases h with
  | r _ _ _ _ h => exact h
  | n => exact (hne _ _ _ rfl).elim
  | s => exact (hne _ _ _ rfl).elim
def ZqE (γ' : Gh) (w : World) (b : Option Nat) (z : Nat) (rows : List (List C)) (sub : Nat → Nat → Nat → Prop) : Prop :=
  match b with
  | none => rows = []
  | some c => ∃ arr E, w.heap[c]? = some (.cells arr E (0, 0)) ∧ (∀ r ∈ rows, r.length = z) ∧ rows.length * z ≤ arr.size ∧
      ∀ (i j : Nat) (r : List C) (y : C), rows[i]? = some r → r[j]? = some y → SR γ' w (arr.getD (i * z + j) undef) y (sub i j)
theorem Rel.adopt (h : Rel w0 own γ st a w) (k : Nat) {v : Value} {z : Nat} {rows sp : List (List D)} {S : Nat → Prop} (hv : OD w γ.F v (.s 1 z rows sp) S) (hS : Free w0 own γ st w S) :
    ∃ γ', γ.le γ' ∧ Rel w0 own γ' (st.root k false z (emb (rows ++ sp))) a w ∧ CR γ' w v (.rs k (st.gen k + 1) z 0 rows.length (rows.length + sp.length)) ∧ (∀ b, γ.F b → γ'.F b) ∧
      (∀ S2, Free w0 own γ st w S2 → (∀ b, S b → ¬ S2 b) → Free w0 own γ' (st.root k false z (emb (rows ++ sp))) w S2) := by
  have hgk : γ.gen k = st.gen k := congrFun h.gen k
  have key : ∀ (b : Option Nat) (sub : Nat → Nat → Nat → Prop), (∀ c, b = some c → S c ∧ ∀ i j, ¬ sub i j c) → (∀ i j c, sub i j c → S c) → (∀ i j i' j' c, sub i j c → sub i' j' c → i = i' ∧ j = j') →
      (∀ γ' : Gh, γ' = γ.adopt k b sub → γ.le γ' → ZqE γ' w b z (emb (rows ++ sp)) sub) →
      γ.le (γ.adopt k b sub) ∧ Rel w0 own (γ.adopt k b sub) (st.root k false z (emb (rows ++ sp))) a w ∧ (∀ b', γ.F b' → (γ.adopt k b sub).F b') ∧
        (∀ S2, Free w0 own γ st w S2 → (∀ b, S b → ¬ S2 b) → Free w0 own (γ.adopt k b sub) (st.root k false z (emb (rows ++ sp))) w S2) := by
    intro b sub hb hsub hdis hmem
    have hGto : ∀ c, (γ.adopt k b sub).G c → γ.G c ∨ S c := by
      rintro c ((hF | ⟨i, j, hf⟩) | ⟨k', i, j, hf⟩)
      · exact .inl (.inl hF)
      · exact .inl (.inr ⟨_, _, _, hf⟩)
      · simp only [Gh.adopt] at hf
        split at hf
        · exact .inr (hsub _ _ _ hf)
        · exact .inl (.inr ⟨_, _, _, hf⟩)
    have hGfrom : ∀ c, γ.G c → (γ.adopt k b sub).G c := by
      rintro c (hF | ⟨k', i, j, hf⟩)
      · exact .inl (.inl hF)
      · by_cases e : k' = k
        · subst e; exact .inl (.inr ⟨i, j, hf⟩)
        · exact .inr ⟨k', i, j, by simp only [Gh.adopt, e, if_false]; exact hf⟩
    have hle0 := γ.fresh_le k b
    have hle : γ.le (γ.adopt k b sub) := { gen := hle0.gen, β := hle0.β, F := hle0.F, G := hGfrom, F0 := rfl }
    have hold : ∀ k' R, k' ≠ k → (γ.adopt k b sub).β k' R = γ.β k' R := fun k' R hk => by simp [Gh.adopt, Gh.fresh, hk]
    have hnew : (γ.adopt k b sub).β k (γ.gen k + 1) = b := γ.fresh_new k b
    have hst : ∀ k' R, (st.root k false z (emb (rows ++ sp))).store k' = some R → (k' = k ∧ R = ⟨st.gen k + 1, false, z, emb (rows ++ sp)⟩) ∨ (k' ≠ k ∧ st.store k' = some R) := by
      intro k' R h1
      simp only [St.root] at h1
      split at h1
      · cases h1; exact .inl ⟨‹_›, rfl⟩
      · exact .inr ⟨‹_›, h1⟩
    have hroot : ∀ k' R c, (st.root k false z (emb (rows ++ sp))).store k' = some R → (γ.adopt k b sub).β k' R.tag = some c → (k' = k ∧ b = some c) ∨ (k' ≠ k ∧ st.store k' = some R ∧ γ.β k' R.tag = some c) := by
      intro k' R c h1 h2
      rcases hst k' R h1 with ⟨rfl, rfl⟩ | ⟨n1, h3⟩
      · left; refine ⟨rfl, ?_⟩
        have : (γ.adopt k' b sub).β k' (st.gen k' + 1) = some c := h2
        rw [← hgk, hnew] at this
        exact this
      · right; rw [hold k' _ n1] at h2; exact ⟨n1, h3, h2⟩
    refine ⟨hle, { env := h.env, size := h.size, defers := h.defers, tmps := fun i => (h.tmps i).mono hle (.refl _ _) (.refl _), ghost := fun i => (h.ghost i).mono hle (.refl _ _) (.refl _), gen := ?_, tag := ?_, mem := ?_, inj := ?_, rootF := ?_, fpF := ?_, fpD := ?_, fs := fun b hF => hF.elim (h.fs b) fun ⟨i, j, hf⟩ => .inr (h.fpF _ _ _ _ hf).2, lt := ?_, ltβ := ?_ }, hle0.F, ?_⟩
    · funext k'; simp only [Gh.adopt, Gh.fresh, St.root]; split
      · rw [hgk]
      · exact congrFun h.gen k'
    · intro k' R h1
      rcases hst k' R h1 with ⟨rfl, rfl⟩ | ⟨n1, h3⟩
      · simp [St.root]
      · simp [St.root, n1]; exact h.tag k' R h3
    · intro k' R h1
      rcases hst k' R h1 with ⟨rfl, rfl⟩ | ⟨n1, h3⟩
      · unfold RootOK
        simp only [← hgk, hnew]
        have := hmem _ rfl hle
        cases b with
        | none => exact this
        | some c =>
          obtain ⟨arr, E, q1, q2, q3, q4⟩ := this
          refine ⟨arr, E, q1, q2, q3, fun i j r y hr hy => ?_⟩
          have e : (γ.adopt k' (some c) sub).FP k' i j = sub i j := by funext x; simp [Gh.adopt]
          rw [e]; exact q4 i j r y hr hy
      · refine (h.mem k' R h3).mono hle (.refl _ _) (.refl _) (by rw [h.gen]; exact h.tag k' R h3) (fun _ _ => rfl) (fun i j r c _ _ x => ?_)
        simp [Gh.adopt, n1]
    · intro k1 R1 k2 R2 c h1 h2 h3 h4
      rcases hroot k1 R1 c h1 h3 with ⟨rfl, e1⟩ | ⟨n1, g1, e1⟩ <;> rcases hroot k2 R2 c h2 h4 with ⟨rfl, e2⟩ | ⟨n2, g2, e2⟩
      · rfl
      · exact ((hS c (hb c e1).1).2.1 k2 R2 g2 e2).elim
      · exact ((hS c (hb c e2).1).2.1 k1 R1 g1 e1).elim
      · exact h.inj k1 R1 k2 R2 c g1 g2 e1 e2
    · intro k1 R1 c h1 h3
      rcases hroot k1 R1 c h1 h3 with ⟨rfl, e1⟩ | ⟨n1, g1, e1⟩
      · obtain ⟨s1, s2⟩ := hb c e1
        obtain ⟨f1, f2, f3, f4⟩ := hS c s1
        refine ⟨fun hF => ?_, fun k' i j hf => ?_, f3⟩
        · rcases hF with hF | ⟨i, j, hF⟩
          · exact f1 (.inl hF)
          · exact f1 (.inr ⟨_, _, _, hF⟩)
        · simp only [Gh.adopt] at hf
          split at hf
          · exact s2 i j hf
          · exact f1 (.inr ⟨_, _, _, hf⟩)
      · obtain ⟨p1, p2, p3⟩ := h.rootF k1 R1 c g1 e1
        refine ⟨fun hF => ?_, fun k' i j hf => ?_, p3⟩
        · rcases hF with hF | ⟨i, j, hF⟩
          · exact p1 hF
          · exact p2 _ _ _ hF
        · simp only [Gh.adopt] at hf
          split at hf
          · exact (hS c (hsub _ _ _ hf)).2.1 k1 R1 g1 e1
          · exact p2 _ _ _ hf
    · intro k1 i j c hf
      simp only [Gh.adopt] at hf
      split at hf
      · obtain ⟨f1, f2, f3, f4⟩ := hS c (hsub _ _ _ hf)
        refine ⟨fun hF => ?_, f3⟩
        rcases hF with hF | ⟨i, j, hF⟩
        · exact f1 (.inl hF)
        · exact f1 (.inr ⟨_, _, _, hF⟩)
      · rename_i n1
        obtain ⟨p1, p2⟩ := h.fpF k1 i j c hf
        refine ⟨fun hF => ?_, p2⟩
        rcases hF with hF | ⟨i', j', hF⟩
        · exact p1 hF
        · exact n1 (h.fpD _ _ _ _ _ _ _ hf hF).1
    · intro k1 i j k2 i2 j2 c h1 h2
      simp only [Gh.adopt] at h1 h2
      split at h1 <;> split at h2
      · rename_i e1 e2; subst e1 e2; exact ⟨rfl, hdis _ _ _ _ _ h1 h2⟩
      · exact ((hS c (hsub _ _ _ h1)).1 (.inr ⟨_, _, _, h2⟩)).elim
      · exact ((hS c (hsub _ _ _ h2)).1 (.inr ⟨_, _, _, h1⟩)).elim
      · exact h.fpD _ _ _ _ _ _ _ h1 h2
    · intro c hc
      rcases hGto c hc with hc | hc
      · exact h.lt c hc
      · exact (hS c hc).2.2.2
    · intro k1 g c hg hβ
      by_cases e : k1 = k ∧ g = γ.gen k + 1
      · obtain ⟨rfl, rfl⟩ := e
        rw [hnew] at hβ
        exact (hS c (hb c hβ).1).2.2.2
      · have hβ' : γ.β k1 g = some c := by
          have : (γ.adopt k b sub).β k1 g = γ.β k1 g := by simp only [Gh.adopt, Gh.fresh]; rw [if_neg e]
          rw [this] at hβ; exact hβ
        refine h.ltβ k1 g c ?_ hβ'
        have hg' : g ≤ if k1 = k then γ.gen k + 1 else γ.gen k1 := hg
        split at hg'
        · rename_i e1; subst e1; simp at e; omega
        · exact hg'
    · intro S2 hS2 hd c hc
      obtain ⟨f1, f2, f3, f4⟩ := hS2 c hc
      refine ⟨fun hG => ?_, fun k' R h1 h2 => ?_, f3, f4⟩
      · rcases hGto c hG with hG | hs
        · exact f1 hG
        · exact hd c hs hc
      · rcases hroot k' R c h1 h2 with ⟨rfl, e1⟩ | ⟨n1, g1, e1⟩
        · exact hd c (hb c e1).1 hc
        · exact f2 k' R g1 e1
  cases hv with
  | r _ _ _ hne _ => exact (hne _ _ _ rfl).elim
  | n av _ _ =>
    obtain ⟨q1, q2, q3, q4⟩ := key none (fun _ _ _ => False) (by simp) (by simp) (by simp) (fun _ _ _ => rfl)
    exact ⟨_, q1, q2, .rn av k (st.gen k + 1) z (by rw [← hgk]; exact Nat.le_of_eq (γ.fresh_gen k none).symm) (by rw [← hgk]; exact γ.fresh_new k none), q3, q4⟩
  | s _ _ b cap _ arr E _ sub hb ha hr hl hc hn hsub hdis =>
    obtain ⟨q1, q2, q3, q4⟩ := key (some b) sub (fun c e => by cases e; exact ⟨hb, fun i j hx => (hsub i j b hx).2 rfl⟩) (fun i j c hx => (hsub i j c hx).1) hdis (fun γ' e hle => by
      refine ⟨arr, E, ha, ?_, ?_, ?_⟩
      · intro r hr'
        obtain ⟨r0, h0, rfl⟩ := List.mem_map.1 hr'
        simpa using hr r0 h0
      · have : (emb (rows ++ sp)).length = rows.length + sp.length := by simp [emb]
        rw [this]
        exact Nat.le_trans (Nat.mul_le_mul_right _ hl) hc
      · intro i j r y hr' hy
        simp only [emb, List.getElem?_map] at hr'
        obtain ⟨r0, h0, rfl⟩ := Option.map_eq_some_iff.1 hr'
        rw [List.getElem?_map] at hy
        obtain ⟨d, hd, rfl⟩ := Option.map_eq_some_iff.1 hy
        have hod := hn i j r0 d h0 hd
        unfold SR
        split
        · rename_i heq; cases heq; exact hod.mono hle.F (.refl _ _) (.refl _ _)
        · rename_i hne
          have hdr := hod.not_own fun z rows spare e => hne z rows spare (by rw [e])
          exact .d _ _ (hdr.mono (fun c hc => by
              cases d.top0
              · exact .inl (hle.F c hc)
              · exact hle.F c hc) (.refl _ _)))
    refine ⟨_, q1, q2, ?_, q3, q4⟩
    have := CR.rs (γ := γ.adopt k (some b) sub) (w := w) k (st.gen k + 1) z 0 rows.length (rows.length + sp.length) cap b E arr.size (by rw [← hgk]; exact Nat.le_of_eq (γ.fresh_gen k (some b)).symm) (by rw [← hgk]; exact γ.fresh_new k (some b))
      (by simp [World.shape?, ha]) (by simpa using hc) (by omega) hl
    simpa using this
end

section
open Go
variable {P : Program} {w0 : World} {own : Nat → Prop} {γ : Gh} {st : St} {a : Act} {w : World}
def matD (st : St) (k : Nat) (d : D) : St × C :=
  match d with
  | .s 1 z rows sp => (st.root k false z (emb (rows ++ sp)), .rs k (st.gen k + 1) z 0 rows.length (rows.length + sp.length))
  | d => (st, .d d)
def matL (st : St) (k : Nat) : List D → St × List C
  | [] => (st, [])
  | d :: l => ((matL (matD st k d).1 (k + 1) l).1, (matD st k d).2 :: (matL (matD st k d).1 (k + 1) l).2)
def ZgH (st : St) (k : Nat) : DV → St × A
  | .c d => ((matD st k d).1, .c (matD st k d).2)
  | .agg xs => ((matL st k xs).1, .agg (matL st k xs).2)
  | .tup _ => (st, .dead)
def matT (st : St) (k : Nat) : List DV → St × List A
  | [] => (st, [])
  | d :: l => ((matT (ZgH st k d).1 (k + 32) l).1, (ZgH st k d).2 :: (matT (ZgH st k d).1 (k + 32) l).2)
def matV (st : St) (k : Nat) : DV → St × A
  | .tup xs => ((matT st k xs).1, .tup (matT st k xs).2)
  | d => ZgH st k d
def Took (P : Prop) (w0 : World) (own : Nat → Prop) (γ : Gh) (st st' : St) (a : Act) (w : World) (S : Nat → Prop) (K : Gh → Prop) : Prop :=
  ∃ γ', γ.le γ' ∧ Rel w0 own γ' st' a w ∧ K γ' ∧ (∀ S2, Free w0 own γ st w S2 → (∀ b, S b → ¬ S2 b) → Free w0 own γ' st' w S2)
theorem ZkV (h : Rel w0 own γ st a w) (k : Nat) {v : Value} {d : D} {S : Nat → Prop} (hv : OD w γ.F v d S) (hS : Free w0 own γ st w S) :
    Took True w0 own γ st (matD st k d).1 a w S fun γ' => CR γ' w v (matD st k d).2 := by
  unfold matD
  split
  · rename_i z rows sp
    obtain ⟨γ', q1, q2, q3, q4, q5⟩ := h.adopt k hv hS
    exact ⟨γ', q1, q2, q3, q5⟩
  · rename_i hne
    have hdr := hv.not_own fun z rows spare e => hne z rows spare e
    refine ⟨γ, γ.le_refl, h, .d _ _ (hdr.mono (fun c hc => ?_) (.refl _ _)), fun S2 h2 _ => h2⟩
    cases d.top0
    · exact .inl hc
    · exact hc
theorem Zkd : ∀ (ds : List D) (γ : Gh) (st : St) (k : Nat) (vs : Nat → Value) (sub : Nat → Nat → Prop), Rel w0 own γ st a w → (∀ i d, ds[i]? = some d → OD w γ.F (vs i) d (sub i)) → (∀ i, Free w0 own γ st w (sub i)) → (∀ i i' b, sub i b → sub i' b → i = i') →
    Took True w0 own γ st (matL st k ds).1 a w (fun b => ∃ i, sub i b) fun γ' => (matL st k ds).2.length = ds.length ∧ ∀ i c, (matL st k ds).2[i]? = some c → CR γ' w (vs i) c
  | [], γ, st, k, vs, sub, h, _, _, _ => ⟨γ, γ.le_refl, h, ⟨rfl, by simp [matL]⟩, fun S2 h2 _ => h2⟩
  | d :: ds, γ, st, k, vs, sub, h, hv, hS, hdis => by
    obtain ⟨γ1, q1, q2, q3, q4⟩ := ZkV h k (hv 0 d rfl) (hS 0)
    obtain ⟨γ2, r1, r2, ⟨r3, r4⟩, r5⟩ := Zkd ds γ1 (matD st k d).1 (k + 1) (fun i => vs (i + 1)) (fun i => sub (i + 1)) q2 (fun i d' hd => (hv (i + 1) d' (by simpa using hd)).mono q1.F (.refl _ _) (.refl _ _))
      (fun i => q4 _ (hS (i + 1)) fun b hb hb' => by have := hdis _ _ b hb hb'; omega) (fun i i' b h1 h2 => by have := hdis _ _ b h1 h2; omega)
    refine ⟨γ2, Gh.le_trans q1 r1, r2, ⟨by simp [matL, r3], fun i c hc => ?_⟩, fun S2 h2 hd => r5 S2 (q4 S2 h2 fun b hb => hd b ⟨0, hb⟩) fun b ⟨i, hb⟩ => hd b ⟨i + 1, hb⟩⟩
    cases i with
    | zero => simp [matL] at hc; subst hc; exact q3.mono r1 (.refl _ _) (.refl _)
    | succ i => exact r4 i c (by simpa [matL] using hc)
theorem Zfh (h : Rel w0 own γ st a w) (k : Nat) {v : Value} {d : DV} {S : Nat → Prop} (hv : OV w γ.F v d S) (hS : Free w0 own γ st w S) :
    Took True w0 own γ st (ZgH st k d).1 a w S fun γ' => AR γ' w v (ZgH st k d).2 := by
  cases hv with
  | c _ x _ hx =>
    obtain ⟨γ1, q1, q2, q3, q4⟩ := ZkV h k hx hS
    exact ⟨γ1, q1, q2, .c _ _ q3, q4⟩
  | agg vs xs _ sub hs hx hsub hdis =>
    obtain ⟨γ1, q1, q2, ⟨q3, q4⟩, q5⟩ := Zkd xs γ st k (fun i => vs.getD i undef) sub h hx (fun i b hb => hS b (hsub i b hb)) hdis
    exact ⟨γ1, q1, q2, .agg _ _ (by rw [q3]; exact hs) q4, fun S2 h2 hd => q5 S2 h2 fun b ⟨i, hb⟩ => hd b (hsub i b hb)⟩
  | tup vs xs _ sub hs hx hsub hdis => exact ⟨γ, γ.le_refl, h, .dead _, fun S2 h2 _ => h2⟩
theorem OV.mono {w w' : World} {G G' : Nat → Prop} (hg : ∀ b, G b → G' b) (hs : Same G w w') {v : Value} {d : DV} {S : Nat → Prop} (h : OV w G v d S) : Same S w w' → OV w' G' v d S := by
  induction h with
  | c v x S h => exact fun hS => .c v x S (h.mono hg hs hS)
  | agg vs xs S sub h1 h2 h3 h4 => exact fun hS => .agg vs xs S sub h1 (fun i d hd => (h2 i d hd).mono hg hs (hS.mono (h3 i))) h3 h4
  | tup vs xs S sub h1 _ h3 h4 ih => exact fun hS => .tup vs xs S sub h1 (fun i d hd => ih i d hd (hS.mono (h3 i))) h3 h4
theorem ZeP : ∀ (ds : List DV) (γ : Gh) (st : St) (k : Nat) (vs : Nat → Value) (sub : Nat → Nat → Prop), Rel w0 own γ st a w → (∀ i d, ds[i]? = some d → OV w γ.F (vs i) d (sub i)) → (∀ i, Free w0 own γ st w (sub i)) → (∀ i i' b, sub i b → sub i' b → i = i') →
    Took True w0 own γ st (matT st k ds).1 a w (fun b => ∃ i, sub i b) fun γ' => (matT st k ds).2.length = ds.length ∧ ∀ i c, (matT st k ds).2[i]? = some c → AR γ' w (vs i) c
  | [], γ, st, k, vs, sub, h, _, _, _ => ⟨γ, γ.le_refl, h, ⟨rfl, by simp [matT]⟩, fun S2 h2 _ => h2⟩
  | d :: ds, γ, st, k, vs, sub, h, hv, hS, hdis => by
    obtain ⟨γ1, q1, q2, q3, q4⟩ := Zfh h k (hv 0 d rfl) (hS 0)
    obtain ⟨γ2, r1, r2, ⟨r3, r4⟩, r5⟩ := ZeP ds γ1 (ZgH st k d).1 (k + 32) (fun i => vs (i + 1)) (fun i => sub (i + 1)) q2 (fun i d' hd => (hv (i + 1) d' (by simpa using hd)).mono q1.F (.refl _ _) (.refl _ _))
      (fun i => q4 _ (hS (i + 1)) fun b hb hb' => by have := hdis _ _ b hb hb'; omega) (fun i i' b h1 h2 => by have := hdis _ _ b h1 h2; omega)
    refine ⟨γ2, Gh.le_trans q1 r1, r2, ⟨by simp [matT, r3], fun i c hc => ?_⟩, fun S2 h2 hd => r5 S2 (q4 S2 h2 fun b hb => hd b ⟨0, hb⟩) fun b ⟨i, hb⟩ => hd b ⟨i + 1, hb⟩⟩
    cases i with
    | zero => simp [matT] at hc; subst hc; exact q3.mono r1 (.refl _ _) (.refl _)
    | succ i => exact r4 i c (by simpa [matT] using hc)
theorem Zg2 (h : Rel w0 own γ st a w) (k : Nat) {v : Value} {d : DV} {S : Nat → Prop} (hv : OV w γ.F v d S) (hS : Free w0 own γ st w S) :
    Took True w0 own γ st (matV st k d).1 a w S fun γ' => AR γ' w v (matV st k d).2 := by
  cases d with
  | tup xs =>
    cases hv with
    | tup vs _ _ sub hs hx hsub hdis =>
      obtain ⟨γ1, q1, q2, ⟨q3, q4⟩, q5⟩ := ZeP xs γ st k (fun i => vs.getD i undef) sub h hx (fun i b hb => hS b (hsub i b hb)) hdis
      exact ⟨γ1, q1, q2, .tup _ _ (by rw [q3]; exact hs) q4, fun S2 h2 hd => q5 S2 h2 fun b ⟨i, hb⟩ => hd b (hsub i b hb)⟩
  | c x => exact Zfh h k hv hS
  | agg xs => exact Zfh h k hv hS
mutual
def D.pureOwn : D → Bool
  | .v _ => true
  | .s t _ rows spare => t == 1 && Zdt rows && Zdt spare
  | _ => false
def ownL : List D → Bool
  | [] => true
  | d :: l => d.pureOwn && ownL l
def Zdt : List (List D) → Bool
  | [] => true
  | r :: l => ownL r && Zdt l
end
theorem ZeB : ∀ {l : List D} {d : D}, ownL l = true → d ∈ l → d.pureOwn = true
  | e :: l, d, h, hm => by
    simp only [ownL, Bool.and_eq_true] at h
    cases hm with
    | head => exact h.1
    | tail _ hm => exact ZeB h.2 hm
theorem Zgp : ∀ {l : List (List D)} {r : List D}, Zdt l = true → r ∈ l → ownL r = true
  | e :: l, d, h, hm => by
    simp only [Zdt, Bool.and_eq_true] at h
    cases hm with
    | head => exact h.1
    | tail _ hm => exact Zgp h.2 hm
theorem OD.pure {G G' : Nat → Prop} {v : Value} {d : D} {S : Nat → Prop} (h : OD w G v d S) : d.pureOwn = true → OD w G' v d S := by
  induction h with
  | r v d S hne hd =>
    intro hp
    cases d with
    | v x => cases hd with
      | v _ hx => exact .r _ _ _ (by simp) (.v _ hx)
    | s t z rows sp => simp only [D.pureOwn, Bool.and_eq_true, beq_iff_eq] at hp; obtain ⟨⟨rfl, _⟩, _⟩ := hp; exact (hne _ _ _ rfl).elim
    | _ => simp [D.pureOwn] at hp
  | n a z S => exact fun _ => .n a z S
  | s rows spare b cap sz arr E S sub hb ha hr hl hc _ hsub hdis ih =>
    intro hp
    simp only [D.pureOwn, Bool.and_eq_true, beq_iff_eq] at hp
    refine .s rows spare b cap sz arr E S sub hb ha hr hl hc (fun i j r d h1 h2 => ih i j r d h1 h2 ?_) hsub hdis
    have hm := List.mem_of_getElem? h1
    rcases List.mem_append.1 hm with hm | hm
    · exact ZeB (Zgp hp.1.2 hm) (List.mem_of_getElem? h2)
    · exact ZeB (Zgp hp.2 hm) (List.mem_of_getElem? h2)
def DV.pure1 : DV → Bool
  | .c x => x.pureOwn
  | .agg xs => ownL xs
  | .tup _ => false
def DV.pureOwn : DV → Bool
  | .c d => d.pureOwn
  | .agg xs => ownL xs
  | .tup xs => go xs
where go : List DV → Bool
  | [] => true
  | .c d :: l => d.pureOwn && go l
  | .agg xs :: l => ownL xs && go l
  | .tup _ :: _ => false
theorem OV.pure1 {G G' : Nat → Prop} {v : Value} {d : DV} {S : Nat → Prop} (h : OV w G v d S) (hp : d.pure1 = true) : OV w G' v d S := by
  cases h with
  | c _ x _ hx => exact .c _ _ _ (hx.pure hp)
  | agg vs xs _ sub h1 h2 h3 h4 => exact .agg vs xs _ sub h1 (fun i d hd => (h2 i d hd).pure (ZeB hp (List.mem_of_getElem? hd))) h3 h4
  | tup => cases hp
theorem Zpq : ∀ {l : List DV} {d : DV}, DV.pureOwn.go l = true → d ∈ l → d.pure1 = true
  | e :: l, d, h, hm => by
    cases e <;> simp only [DV.pureOwn.go, Bool.and_eq_true] at h
    · cases hm with
      | head => exact h.1
      | tail _ hm => exact Zpq h.2 hm
    · cases hm with
      | head => exact h.1
      | tail _ hm => exact Zpq h.2 hm
    · cases h
theorem OV.pure {G G' : Nat → Prop} {v : Value} {d : DV} {S : Nat → Prop} (h : OV w G v d S) (hp : d.pureOwn = true) : OV w G' v d S := by
  cases h with
  | c _ x _ hx => exact .c _ _ _ (hx.pure hp)
  | agg vs xs _ sub h1 h2 h3 h4 => exact .agg vs xs _ sub h1 (fun i d hd => (h2 i d hd).pure (ZeB hp (List.mem_of_getElem? hd))) h3 h4
  | tup vs xs _ sub h1 h2 h3 h4 => exact .tup vs xs _ sub h1 (fun i d hd => (h2 i d hd).pure1 (Zpq hp (List.mem_of_getElem? hd))) h3 h4
def Goes (P : Program) (f : FuncId) : Prop := ∀ (args : Array Value) (w : World), (callFunc f args).run P w = .ok (.enter f args) w
theorem Zaq {f : FuncId} {fn : Func} (h : P.funcs[f]? = some fn) (hn : (fn.name == "runtime.NumGoroutine") = false) (hb : fn.body.isNone = false) : Goes P f := fun args w => by
  have hb' : fn.body ≠ none := fun e => by rw [e] at hb; cases hb
  have hn' : ¬ fn.name = "runtime.NumGoroutine" := fun e => by rw [e] at hn; simp at hn
  unfold callFunc
  simp [program, Sem.run, h, hn', hb']
end

section
open Go
variable {P : Program} {w0 : World} {own : Nat → Prop} {γ : Gh} {st : St} {a : Act} {w : World}
structure Patch where
  dst : Option Nat
  val : A
  ups : List (Nat × Option Root × Nat)
def Za4 : List (Nat × Option Root × Nat) → Nat → Option (Option Root × Nat)
  | [], _ => none
  | (k, u) :: l, i => if i = k then some u else Za4 l i
def St.patch (st : St) (p : Patch) : St :=
  { st with
    tmps := fun i => if p.dst = some i then p.val else st.tmps i
    store := fun i => match Za4 p.ups i with | some u => u.1 | none => st.store i
    gen := fun i => match Za4 p.ups i with | some u => u.2 | none => st.gen i }
def Zbo (l : List (Nat × Option Root × Nat)) : List Nat := l.map (·.1)
theorem ZbJ : ∀ (l : List (Nat × Option Root × Nat)) (i : Nat), i ∉ Zbo l → Za4 l i = none
  | [], _, _ => rfl
  | (k, u) :: l, i, h => by
    simp [Zbo] at h
    simp only [Za4, h.1, if_false]
    exact ZbJ l i (by simp [Zbo]; exact h.2)
structure Alike (ops : Array Oper) (o : Oper) (K : List Nat) (st st' : St) : Prop where
  n : st'.n = st.n
  lvl : st'.lvl = st.lvl
  tmps : ∀ t, t ∈ o.looksAt ops → st'.tmps t = st.tmps t
  store : ∀ k, k ∈ K → st'.store k = st.store k
  gen : ∀ k, k ∈ K → st'.gen k = st.gen k
theorem Alike.refl (ops : Array Oper) (o : Oper) (K : List Nat) (st : St) : Alike ops o K st st := ⟨rfl, rfl, fun _ _ => rfl, fun _ _ => rfl, fun _ _ => rfl⟩
theorem Alike.symm {ops : Array Oper} {o : Oper} {K : List Nat} {st st' : St} (h : Alike ops o K st st') : Alike ops o K st' st := ⟨h.n.symm, h.lvl.symm, fun t ht => (h.tmps t ht).symm, fun k hk => (h.store k hk).symm, fun k hk => (h.gen k hk).symm⟩
theorem Alike.trans {ops : Array Oper} {o : Oper} {K : List Nat} {st st' st'' : St} (h : Alike ops o K st st') (h' : Alike ops o K st' st'') : Alike ops o K st st'' :=
  ⟨h'.n.trans h.n, h'.lvl.trans h.lvl, fun t ht => (h'.tmps t ht).trans (h.tmps t ht), fun k hk => (h'.store k hk).trans (h.store k hk), fun k hk => (h'.gen k hk).trans (h.gen k hk)⟩
theorem Alike.ev {ops : Array Oper} {o : Oper} {K : List Nat} {st' : St} (h : Alike ops o K st st') {x : Operand} (hx : x ∈ o.op.operands.toList) : evA st' x = evA st x := by
  cases x with
  | tmp t => exact h.tmps t (by unfold Oper.looksAt; refine List.mem_append_left _ (List.mem_filterMap.2 ⟨_, hx, rfl⟩))
  | _ => rfl
def PatchOK (P : Program) (w0 : World) (own : Nat → Prop) (ops : Array Oper) (o : Oper) (K : List Nat) (st : St) (p : Patch) : Prop :=
  p.dst = o.dst ∧ (∀ k, k ∈ Zbo p.ups → k ∈ K) ∧ ∀ st', Alike ops o K st st' → OpOK P w0 own o st' (st'.patch p)
def ZcT (ops : Array Oper) (st : St) (o : Oper) : Option Bool :=
  match o.guard with
  | none => some true
  | some (j, want) =>
    match (ops[j]?).bind (·.dst) with
    | some d => match st.tmps d with | .c (.d (.v (.bool b))) => if d < st.n then some (b == want) else none | .tup [] => if d < st.n then some false else none | _ => none
    | none => none
def StepA (P : Program) (w0 : World) (own : Nat → Prop) (ops : Array Oper) (o : Oper) (K : List Nat) (st : St) (p : Patch) : Prop :=
  (ZcT ops st o = some true ∧ PatchOK P w0 own ops o K st p) ∨ (ZcT ops st o = some false ∧ p = ⟨o.dst, .tup [], []⟩ ∧ st.fits o.dst = true)
theorem ZfP {ops : Array Oper} {o : Oper} {K : List Nat} {st' : St} (h : Alike ops o K st st') : ZcT ops st' o = ZcT ops st o := by
  unfold ZcT
  cases hg : o.guard with
  | none => rfl
  | some q =>
    obtain ⟨j, want⟩ := q
    simp only
    cases hd : (ops[j]?).bind (·.dst) with
    | none => rfl
    | some d =>
      simp only
      have : st'.tmps d = st.tmps d := h.tmps d (by unfold Oper.looksAt; refine List.mem_append_right _ ?_; simp [hg, hd])
      rw [this, h.n]
theorem StepA.alike {ops : Array Oper} {o : Oper} {K : List Nat} {st' : St} {p : Patch} (h : Alike ops o K st st') (hs : StepA P w0 own ops o K st p) : StepA P w0 own ops o K st' p := by
  rcases hs with ⟨h1, h2, h3, h4⟩ | ⟨h1, h2, h3⟩
  · exact .inl ⟨by rw [ZfP h]; exact h1, h2, h3, fun st'' h'' => h4 st'' (h.trans h'')⟩
  · exact .inr ⟨by rw [ZfP h]; exact h1, h2, by cases hd : o.dst <;> simp_all [St.fits, h.n]⟩
theorem ZgA {ops : Array Oper} {o : Oper} {b : Bool} (hR : Rel w0 own γ st a w) (h : ZcT ops st o = some b) : Region.wanted o (yielded ops a.tmps) = b := by
  unfold ZcT at h
  unfold Region.wanted
  split at h
  · rename_i hg; rw [hg]; simpa using h
  · rename_i j want hg
    rw [hg]
    simp only
    split at h
    · rename_i d hd
      split at h
      · rename_i b' ht
        split at h
        · rename_i hlt
          cases h
          have := hR.tmps d
          rw [ht] at this
          have e := (AR.sc_inv this).1
          have hsz : d < a.tmps.size := by rw [hR.size]; exact hlt
          have e2 : a.tmps[d]? = some (.bool b') := by
            rw [Array.getD_eq_getD_getElem?, Array.getElem?_eq_getElem hsz] at e
            rw [Array.getElem?_eq_getElem hsz]
            simpa using e
          simp only [yielded, hd, Option.bind_some, e2]
          cases b' <;> cases want <;> rfl
        · cases h
      · rename_i ht
        split at h
        · rename_i hlt
          cases h
          have hth := hR.tmps d
          rw [ht] at hth
          have hsz : d < a.tmps.size := by rw [hR.size]; exact hlt
          have e2 : a.tmps[d]? = some undef := by
            rw [Array.getD_eq_getD_getElem?, Array.getElem?_eq_getElem hsz] at hth
            rw [Array.getElem?_eq_getElem hsz]
            simp only [Option.getD_some] at hth
            generalize a.tmps[d] = v at hth
            cases hth with
            | tup vs _ hs _ =>
              have : vs = #[] := Array.eq_empty_of_size_eq_zero (by simpa using hs)
              rw [this]; rfl
          simp only [yielded, hd, Option.bind_some, e2]
          cases want <;> rfl
        · cases h
      · cases h
    · cases h
theorem Rel.stepA {ops : Array Oper} {o : Oper} {K : List Nat} {p : Patch} {i : Nat} (ho : ops[i]? = some o) (hs : StepA P w0 own ops o K st p) (hR : Rel w0 own γ st a w) {next : Act → World → Prop} {Q : Exit → Act → World → Prop}
    (hn : ∀ γ' a' w', γ.le γ' → Rel w0 own γ' (st.patch p) a' w' → next a' w') : wpOp P ops Q i next a w := by
  unfold wpOp
  simp only [ho]
  rcases hs with ⟨h1, _, _, h4⟩ | ⟨h1, rfl, h3⟩
  · rw [if_pos (ZgA hR h1)]
    exact .inl (h4 st (.refl _ _ _ _) γ a w next Q hR hn)
  · rw [if_neg (by rw [ZgA hR h1]; simp)]
    refine hn γ _ w γ.le_refl ?_
    have := hR.put (d := o.dst) (v := undef) (x := .tup []) (.tup #[] [] rfl (by simp)) h3
    have e : st.patch ⟨o.dst, .tup [], []⟩ = st.put o.dst (.tup []) := by
      cases hd : o.dst with
      | none => simp [St.patch, St.put, Za4]
      | some d =>
        simp only [St.patch, St.put, Za4]
        congr 1
        funext i
        by_cases hi : i = d
        · simp [hi]
        · simp [hi, Ne.symm hi]
    rw [e]; exact this
variable (ops : Array Oper) (K : Nat → List Nat) (pat : Nat → Patch)
def AAny (P : Program) (w0 : World) (own : Nat → Prop) (Q : St → Prop) : Nat → Array Bool → St → Prop
  | 0, listed, st => Region.ready .any ops listed = [] ∧ Q st
  | fuel + 1, listed, st => (Region.ready .any ops listed = [] → Q st) ∧ ∀ i ∈ Region.ready .any ops listed, ∀ o, ops[i]? = some o → StepA P w0 own ops o (K i) st (pat i) ∧ AAny P w0 own Q fuel (listed.setIfInBounds i true) (st.patch (pat i))
def ZfM (i j : Nat) : Bool :=
  match ops[i]?, ops[j]? with
  | some x, some y => x.apart ops y && (Zbo (pat i).ups).all (fun k => !(K j).contains k) && (Zbo (pat j).ups).all fun k => !(K i).contains k
  | _, _ => true
theorem Zhg {ops : Array Oper} {x y : Oper} {K : List Nat} {p : Patch} (hx : p.dst = x.dst) (hap : ∀ d, x.dst = some d → d ∉ y.looksAt ops) (hk : ∀ k, k ∈ Zbo p.ups → k ∉ K) (st : St) : Alike ops y K st (st.patch p) :=
  { n := rfl, lvl := rfl
    tmps := fun t ht => by
      simp only [St.patch]
      rw [if_neg]
      intro e
      exact hap t (hx.symm.trans e) ht
    store := fun k hkK => by
      simp only [St.patch]
      rw [ZbJ _ _ fun hm => hk k hm hkK]
    gen := fun k hkK => by
      simp only [St.patch]
      rw [ZbJ _ _ fun hm => hk k hm hkK] }
theorem Znt {p q : Patch} (hd : ∀ d, p.dst = some d → q.dst ≠ some d) (hk : ∀ k, k ∈ Zbo p.ups → k ∉ Zbo q.ups) (st : St) : (st.patch p).patch q = (st.patch q).patch p := by
  simp only [St.patch]
  have ht : (fun i => if q.dst = some i then q.val else if p.dst = some i then p.val else st.tmps i) = fun i => if p.dst = some i then p.val else if q.dst = some i then q.val else st.tmps i := by
    funext i
    by_cases h1 : p.dst = some i
    · simp [h1, hd i h1]
    · simp [h1]
  have hu : ∀ i, (Za4 p.ups i = none ∨ Za4 q.ups i = none) := fun i => by
    by_cases h1 : i ∈ Zbo p.ups
    · exact .inr (ZbJ _ _ (hk i h1))
    · exact .inl (ZbJ _ _ h1)
  rw [ht]
  congr 1
  · funext i
    rcases hu i with h | h <;> simp [h]
  · funext i
    rcases hu i with h | h <;> simp [h]
variable {ops : Array Oper} {K : Nat → List Nat} {pat : Nat → Patch}
theorem Zmn {i j : Nat} {x y : Oper} (hx : ops[i]? = some x) (hy : ops[j]? = some y) (h : ZfM ops K pat i j = true) : x.apart ops y = true ∧ (∀ k, k ∈ Zbo (pat i).ups → k ∉ K j) ∧ (∀ k, k ∈ Zbo (pat j).ups → k ∉ K i) := by
  unfold ZfM at h
  simp only [hx, hy, Bool.and_eq_true] at h
  refine ⟨h.1.1, fun k hk => ?_, fun k hk => ?_⟩
  · have := List.all_eq_true.1 h.1.2 k hk; simpa using this
  · have := List.all_eq_true.1 h.2 k hk; simpa using this
theorem Za1 {l : Array Bool} {i j : Nat} (h : j ≠ i) (d : Bool) : (l.setIfInBounds i true).getD j d = l.getD j d := by
  rw [Array.getD_eq_getD_getElem?, Array.getElem?_setIfInBounds_ne (fun e => h e.symm), ← Array.getD_eq_getD_getElem?]
theorem ZaW {listed : Array Bool} {i : Nat} : i ∈ Region.ready .any ops listed ↔ i < ops.size ∧ listed.getD i true = false ∧ ∃ o, ops[i]? = some o ∧ ∀ e ∈ o.after, Region.binds .any e = true → listed.getD e.on false = true := by
  unfold Region.ready
  rw [List.mem_filter, List.mem_range]
  constructor
  · rintro ⟨h1, h2⟩
    simp only [Bool.and_eq_true, Bool.not_eq_true'] at h2
    refine ⟨h1, h2.1, ?_⟩
    obtain ⟨o, ho⟩ : ∃ o, ops[i]? = some o := ⟨_, Array.getElem?_eq_getElem h1⟩
    refine ⟨o, ho, fun e he hb => ?_⟩
    have := h2.2
    simp only [ho, Option.map_some, Option.getD_some, Array.all_eq_true_iff_forall_mem] at this
    have := this e he
    simpa [hb] using this
  · rintro ⟨h1, h2, o, ho, h3⟩
    refine ⟨h1, ?_⟩
    simp only [Bool.and_eq_true, Bool.not_eq_true', h2, true_and, ho, Option.map_some, Option.getD_some, Array.all_eq_true_iff_forall_mem]
    intro e he
    cases hb : Region.binds .any e with
    | false => simp
    | true => simpa using h3 e he hb
theorem Zem {listed : Array Bool} {i j : Nat} (hj : j ∈ Region.ready .any ops listed) (hne : j ≠ i) : j ∈ Region.ready .any ops (listed.setIfInBounds i true) := by
  rw [ZaW] at hj ⊢
  obtain ⟨h1, h2, o, ho, h3⟩ := hj
  refine ⟨h1, by rw [Za1 hne]; exact h2, o, ho, fun e he hb => ?_⟩
  have := h3 e he hb
  by_cases he' : e.on = i
  · subst he'
    have hlt : e.on < listed.size := by
      rcases Nat.lt_or_ge e.on listed.size with h | h
      · exact h
      · simp [Array.getD_eq_getD_getElem?, Array.getElem?_eq_none h] at this
    simp [Array.getD_eq_getD_getElem?, hlt]
  · rw [Za1 he']; exact this
def Closed (ops : Array Oper) (listed : Array Bool) : Prop := ∀ k ok, ops[k]? = some ok → listed.getD k true = true → ∀ e ∈ ok.after, Region.binds .any e = true → listed.getD e.on true = true
def Back (ops : Array Oper) : Prop := ∀ k ok, ops[k]? = some ok → ∀ e ∈ ok.after, Region.binds .any e = true → e.on < k
def Zri (ops : Array Oper) (dep : Nat → Nat → Bool) : Prop := ∀ i j oj, ops[j]? = some oj → dep j i = true → ∃ e ∈ oj.after, Region.binds .any e = true ∧ (e.on = i ∨ dep e.on i = true)
theorem Zh0 {ops : Array Oper} {listed : Array Bool} {dep : Nat → Nat → Bool} (hb : Back ops) (hd : Zri ops dep) (hc : Closed ops listed) (i : Nat) : ∀ (k : Nat), k < ops.size → listed.getD k true = true → dep k i = true → listed.getD i true = true := by
  intro k
  induction k using Nat.strongRecOn with
  | _ k ih =>
    intro hk hl hdep
    have hok : ops[k]? = some ops[k] := Array.getElem?_eq_getElem hk
    obtain ⟨e, he, hbi, h⟩ := hd i k _ hok hdep
    have hl2 := hc k _ hok hl e he hbi
    rcases h with rfl | h
    · exact hl2
    · have hlt := hb k _ hok e he hbi
      exact ih e.on hlt (by omega) hl2 h
theorem ZgX {l : Array Bool} {i : Nat} (h : l.getD i false = true) : l.getD i true = true := by
  rcases Nat.lt_or_ge i l.size with h' | h'
  · simp [Array.getD_eq_getD_getElem?, h'] at h ⊢; exact h
  · simp [Array.getD_eq_getD_getElem?, Array.getElem?_eq_none h'] at h
theorem Zh9 {ops : Array Oper} {listed : Array Bool} {j : Nat} {oj : Oper} (hc : Closed ops listed) (hoj : ops[j]? = some oj) (hr : ∀ e ∈ oj.after, Region.binds .any e = true → listed.getD e.on false = true) : Closed ops (listed.setIfInBounds j true) := by
  intro k ok hok hl e he hb
  have key : listed.getD e.on true = true → (listed.setIfInBounds j true).getD e.on true = true := fun h => by
    by_cases hej : e.on = j
    · subst hej
      rcases Nat.lt_or_ge e.on listed.size with h' | h'
      · simp [Array.getD_eq_getD_getElem?, h']
      · simp [Array.getD_eq_getD_getElem?, h']
    · rw [Za1 hej]; exact h
  by_cases hkj : k = j
  · subst hkj; rw [hoj] at hok; cases hok
    exact key (ZgX (hr e he hb))
  · rw [Za1 hkj] at hl
    exact key (hc k ok hok hl e he hb)
theorem AAny.first {Q : St → Prop} {i : Nat} {oi : Oper} (hi : ops[i]? = some oi) {dep : Nat → Nat → Bool} (hback : Back ops) (hdep : Zri ops dep) : ∀ (fuel : Nat) (listed : Array Bool) (st : St), Closed ops listed →
    (∀ j oj, ops[j]? = some oj → j ≠ i → listed.getD j true = false → dep j i = false → ZfM ops K pat i j = true) →
    i ∈ Region.ready .any ops listed → StepA P w0 own ops oi (K i) st (pat i) → (pat i).dst = oi.dst → (∀ j oj, ops[j]? = some oj → (pat j).dst = oj.dst ∧ ∀ k, k ∈ Zbo (pat j).ups → k ∈ K j) →
    AAny ops K pat P w0 own Q fuel (listed.setIfInBounds i true) (st.patch (pat i)) → AAny ops K pat P w0 own Q (fuel + 1) listed st := by
  intro fuel
  induction fuel with
  | zero =>
    intro listed st _ _ hr hs _ _ H
    refine ⟨fun h => (by rw [h] at hr; cases hr), fun j hj oj hoj => ?_⟩
    by_cases hji : j = i
    · subst hji; rw [hi] at hoj; cases hoj; exact ⟨hs, H⟩
    · have := Zem (i := i) hj hji
      rw [H.1] at this
      cases this
  | succ fuel ih =>
    intro listed st hcl hfree hr hs hd hall H
    refine ⟨fun h => (by rw [h] at hr; cases hr), fun j hj oj hoj => ?_⟩
    by_cases hji : j = i
    · subst hji; rw [hi] at hoj; cases hoj; exact ⟨hs, H⟩
    · obtain ⟨hj1, hj2, oj', hoj', hj3⟩ := ZaW.1 hj
      rw [hoj] at hoj'; cases hoj'
      have hiun : listed.getD i true = false := (ZaW.1 hr).2.1
      have hno : dep j i = false := by
        cases hdji : dep j i with
        | false => rfl
        | true =>
          exfalso
          obtain ⟨e, he, hb, hor⟩ := hdep i j oj hoj hdji
          have hle := ZgX (hj3 e he hb)
          rcases hor with rfl | hor
          · rw [hiun] at hle; cases hle
          · have hlt := hback j oj hoj e he hb
            have := Zh0 hback hdep hcl i e.on (by omega) hle hor
            rw [hiun] at this; cases this
      obtain ⟨ap, c1, c2⟩ := Zmn hi hoj (hfree j oj hoj hji hj2 hno)
      obtain ⟨a1, a2, a3⟩ := Oper.apart_spec ap
      obtain ⟨hdj, hKj⟩ := hall j oj hoj
      obtain ⟨s1, s2⟩ := H.2 j (Zem hj hji) oj hoj
      have hal : Alike ops oj (K j) st (st.patch (pat i)) := Zhg hd a1 c1 st
      have hal2 : Alike ops oi (K i) st (st.patch (pat j)) := Zhg hdj a3 c2 st
      refine ⟨s1.alike hal.symm, ?_⟩
      refine ih (listed.setIfInBounds j true) (st.patch (pat j)) (Zh9 hcl hoj hj3) (fun k ok hk hki hun hno' => hfree k ok hk hki ?_ hno') (Zem hr (Ne.symm hji)) (hs.alike hal2) hd hall ?_
      · by_cases hjk : k = j
        · subst hjk; exact hj2
        · rw [Za1 hjk] at hun; exact hun
      · rw [Array.setIfInBounds_comm _ _ hji, Znt (fun d hdd he => ?_) (fun k hk hk' => ?_)]
        · exact s2
        · rw [hdj] at hdd
          rw [hd] at he
          exact a2 d he hdd
        · exact c1 k hk' (hKj k hk)
end

section
open Go
variable {P : Program} {w0 : World} {own : Nat → Prop} {γ : Gh} {st : St} {a : Act} {w : World}
def Post (w0 : World) (own : Nat → Prop) (γ : Gh) (Q : Exit → St → Prop) (e : Exit) (a : Act) (w : World) : Prop := ∃ γ' st', γ.le γ' ∧ Rel w0 own γ' st' a w ∧ Q e st'
def AWP (P : Program) (w0 : World) (own : Nat → Prop) (c : Code) (Q : Exit → St → Prop) (st : St) : Prop :=
  ∀ γ a w, Rel w0 own γ st a w → c.wp P (Post w0 own γ Q) a w
variable {ops : Array Oper} {K : Nat → List Nat} {pat : Nat → Patch} {Q : Exit → St → Prop}
theorem AAny.sound {γ0 : Gh} : ∀ (fuel : Nat) (listed : Array Bool) (st : St) (γ : Gh) (a : Act) (w : World), γ0.le γ → Rel w0 own γ st a w → AAny ops K pat P w0 own (Q .normal) fuel listed st → wpAny P .any ops (Post w0 own γ0 Q) fuel listed a w
  | 0, listed, st, γ, a, w, hle, hR, h => ⟨h.1, γ, st, hle, hR, h.2⟩
  | fuel + 1, listed, st, γ, a, w, hle, hR, h => ⟨fun hr => ⟨γ, st, hle, hR, h.1 hr⟩, fun i hi => by
      obtain ⟨_, _, o, ho, _⟩ := ZaW.1 hi
      obtain ⟨s1, s2⟩ := h.2 i hi o ho
      exact hR.stepA ho s1 fun γ' a' w' h1 h2 => AAny.sound fuel _ _ γ' a' w' (Gh.le_trans hle h1) h2 s2⟩
def Zlx (ops : Array Oper) (dep : Nat → Nat → Bool) (K : Nat → List Nat) (pat : Nat → Patch) : Nat → Nat → Bool
  | 0, _ => true
  | m + 1, k =>
    ((List.range ops.size).all fun j => decide (j ≤ k) || dep j k || ZfM ops K pat k j) &&
    Zlx ops dep K pat m (k + 1)
theorem AAny.lex {dep : Nat → Nat → Bool} (hback : Back ops) (hdep : Zri ops dep) : ∀ (m k : Nat) (listed : Array Bool) (st : St), k + m = ops.size → listed.size = ops.size → (∀ j, j < ops.size → listed.getD j true = decide (j < k)) → Zlx ops dep K pat m k = true →
    (∀ j oj, ops[j]? = some oj → (pat j).dst = oj.dst ∧ ∀ q, q ∈ Zbo (pat j).ups → q ∈ K j) →
    (∃ sts : Nat → St, sts k = st ∧ (∀ j, k ≤ j → j < ops.size → ∀ o, ops[j]? = some o → StepA P w0 own ops o (K j) (sts j) (pat j) ∧ sts (j + 1) = (sts j).patch (pat j)) ∧ Q .normal (sts ops.size)) →
    AAny ops K pat P w0 own (Q .normal) m listed st
  | 0, k, listed, st, hk, hl, hlisted, _, _, ⟨sts, h0, hs, hQ⟩ => by
    refine ⟨?_, ?_⟩
    · rw [List.eq_nil_iff_forall_not_mem]
      intro i hi
      obtain ⟨h1, h2, _⟩ := ZaW.1 hi
      rw [hlisted i h1] at h2
      simp at h2
      omega
    · have : k = ops.size := by omega
      rw [← h0, this]; exact hQ
  | m + 1, k, listed, st, hk, hl, hlisted, hok, hall, ⟨sts, h0, hs, hQ⟩ => by
    have hk' : k < ops.size := by omega
    obtain ⟨o, ho⟩ : ∃ o, ops[k]? = some o := ⟨_, Array.getElem?_eq_getElem hk'⟩
    simp only [Zlx, Bool.and_eq_true, ho] at hok
    obtain ⟨ok2, ok3⟩ := hok
    obtain ⟨s1, s2⟩ := hs k (Nat.le_refl _) hk' o ho
    have hset : ∀ j, j < ops.size → (listed.setIfInBounds k true).getD j true = decide (j < k + 1) := by
      intro j hj
      by_cases e : j = k
      · subst e; simp [Array.getD_eq_getD_getElem?, hl, hk']
      · rw [Za1 e, hlisted j hj]
        have : (j < k) ↔ (j < k + 1) := by omega
        simp [this]
    have ih := AAny.lex hback hdep m (k + 1) (listed.setIfInBounds k true) (sts (k + 1)) (by omega) (by simpa using hl) hset ok3 hall ⟨sts, rfl, fun j h1 h2 => hs j (by omega) h2, hQ⟩
    rw [s2, h0] at ih
    rw [h0] at s1
    refine AAny.first ho hback hdep m listed st ?_ ?_ ?_ s1 (hall k o ho).1 hall ih
    · intro j oj hoj hl' e he hb
      have hj : j < ops.size := by
        rcases Nat.lt_or_ge j ops.size with h | h
        · exact h
        · rw [Array.getElem?_eq_none h] at hoj; cases hoj
      have hlt := hback j oj hoj e he hb
      rw [hlisted j hj] at hl'
      rw [hlisted e.on (by omega)]
      simp at hl' ⊢; omega
    · intro j oj hoj hne hun hno
      have hj : j < ops.size := by
        rcases Nat.lt_or_ge j ops.size with h | h
        · exact h
        · rw [Array.getElem?_eq_none h] at hoj; cases hoj
      have hjk : ¬ j ≤ k := by
        rw [hlisted j hj] at hun
        simp at hun
        omega
      have := List.all_eq_true.1 ok2 j (List.mem_range.2 hj)
      simp only [Bool.or_eq_true, decide_eq_true_eq, hjk, false_or, hno, Bool.false_eq_true] at this
      exact this
    · rw [ZaW]
      refine ⟨hk', by rw [hlisted k hk']; simp, o, ho, fun e he hb => ?_⟩
      have this := hback k o ho e he hb
      have hlt : e.on < listed.size := by omega
      have h2 := hlisted e.on (by omega)
      simp only [Array.getD_eq_getD_getElem?, Array.getElem?_eq_getElem hlt, Option.getD_some] at h2 ⊢
      rw [h2]; simpa using this
def ALex (P : Program) (w0 : World) (own : Nat → Prop) (ops : Array Oper) (Q : List (List Nat × List Nat) → St → Prop) : List Oper → List (List Nat × List Nat) → St → Prop
  | [], acc, st => Q acc st
  | o :: l, acc, st => ∃ K p, StepA P w0 own ops o K st p ∧ p.dst = o.dst ∧ (∀ q, q ∈ Zbo p.ups → q ∈ K) ∧ ALex P w0 own ops Q l ((K, Zbo p.ups) :: acc) (st.patch p)
def ZdK (acc : List (List Nat × List Nat)) (j : Nat) : List Nat := (acc.getD j ([], [])).1
def ZkQ (acc : List (List Nat × List Nat)) (j : Nat) : List Nat := (acc.getD j ([], [])).2
def Zgm (ops : Array Oper) (acc : List (List Nat × List Nat)) (i j : Nat) : Bool :=
  match ops[i]?, ops[j]? with
  | some x, some y => x.apart ops y && (ZkQ acc i).all (fun k => !(ZdK acc j).contains k) && (ZkQ acc j).all fun k => !(ZdK acc i).contains k
  | _, _ => true
def ZjI : List Oper → Nat → Bool
  | [], _ => true
  | o :: l, k => (o.after.toList.all fun e => !Region.binds .any e || Nat.ble (e.on + 1) k) && ZjI l (k + 1)
def Zn1 (acc : List Nat) : List Edge → Nat → Nat
  | [], s => s
  | e :: l, s => Zn1 acc l (match Region.binds .any e with | true => s ||| (2 ^ e.on ||| acc.getD e.on 0) | false => s)
def Zgg : List Oper → List Nat → List Nat
  | [], acc => acc
  | o :: l, acc => Zgg l (acc ++ [Zn1 acc o.after.toList 0])
def depM (ops : Array Oper) (j i : Nat) : Bool := ((Zgg ops.toList []).getD j 0).testBit i
theorem Zdj : ∀ (l : List Oper) (k : Nat), ZjI l k = true → ∀ j o, l[j]? = some o → ∀ e ∈ o.after, Region.binds .any e = true → e.on < k + j
  | [], k, _, j, o, h => by simp at h
  | x :: l, k, h, j, o, ho => by
    simp only [ZjI, Bool.and_eq_true] at h
    intro e he hb
    cases j with
    | zero =>
      simp at ho; subst ho
      have := List.all_eq_true.1 h.1 e (by simpa using he)
      simp only [hb, Bool.not_true, Bool.false_or] at this
      have := Nat.le_of_ble_eq_true this
      omega
    | succ j =>
      have := Zdj l (k + 1) h.2 j o (by simpa using ho) e he hb
      omega
theorem ZhY (acc : List Nat) (i : Nat) : ∀ (l : List Edge) (s : Nat), (Zn1 acc l s).testBit i = true → s.testBit i = true ∨ ∃ e ∈ l, Region.binds .any e = true ∧ (e.on = i ∨ (acc.getD e.on 0).testBit i = true)
  | [], s, h => .inl h
  | e :: l, s, h => by
    simp only [Zn1] at h
    rcases ZhY acc i l _ h with h | ⟨e', he, h1, h2⟩
    · split at h
      · rename_i hb
        rw [Nat.testBit_or, Nat.testBit_or, Bool.or_eq_true, Bool.or_eq_true] at h
        rcases h with h | h | h
        · exact .inl h
        · refine .inr ⟨e, by simp, hb, .inl ?_⟩
          rw [Nat.testBit_two_pow] at h
          simpa using h
        · exact .inr ⟨e, by simp, hb, .inr h⟩
      · exact .inl h
    · exact .inr ⟨e', by simp [he], h1, h2⟩
theorem Zf9 : ∀ (l : List Oper) (acc : List Nat) (j : Nat), j < acc.length → (Zgg l acc).getD j 0 = acc.getD j 0
  | [], _, _, _ => rfl
  | o :: l, acc, j, h => by
    simp only [Zgg]
    rw [Zf9 l _ j (by simp; omega)]
    simp [List.getD_eq_getElem?_getD, List.getElem?_append_left h]
theorem ZjG : ∀ (l : List Oper) (acc : List Nat) (j : Nat) (o : Oper), l[j]? = some o → ∃ pre : List Nat, pre.length = acc.length + j ∧ (Zgg l acc).getD (acc.length + j) 0 = Zn1 pre o.after.toList 0 ∧ ∀ q, q < pre.length → (Zgg l acc).getD q 0 = pre.getD q 0
  | [], _, j, o, h => by simp at h
  | x :: l, acc, 0, o, h => by
    simp at h; subst h
    refine ⟨acc, by simp, ?_, fun q hq => Zf9 (x :: l) acc q hq⟩
    simp only [Zgg, Nat.add_zero]
    rw [Zf9 l _ _ (by simp)]
    simp [List.getD_eq_getElem?_getD]
  | x :: l, acc, j + 1, o, h => by
    obtain ⟨pre, h1, h2, h3⟩ := ZjG l (acc ++ [Zn1 acc x.after.toList 0]) j o (by simpa using h)
    simp only [List.length_append, List.length_singleton] at h1 h2
    refine ⟨pre, by omega, ?_, h3⟩
    simp only [Zgg]
    rw [← h2]; congr 1; omega
theorem ZiT (ops : Array Oper) : Zri ops (depM ops) := by
  intro i j oj hoj h
  obtain ⟨pre, h1, h2, h3⟩ := ZjG ops.toList [] j oj (by simpa using hoj)
  simp only [List.length_nil, Nat.zero_add] at h1 h2
  unfold depM at h
  rw [h2] at h
  rcases ZhY pre i _ _ h with h | ⟨e, he, hb, hor⟩
  · simp at h
  · refine ⟨e, by simpa using he, hb, hor.imp id fun h4 => ?_⟩
    unfold depM
    rcases Nat.lt_or_ge e.on pre.length with hq | hq
    · rw [h3 _ hq]; exact h4
    · simp [List.getD_eq_getElem?_getD, List.getElem?_eq_none hq] at h4
def ZhR (ops : Array Oper) (M : List Nat) (acc : List (List Nat × List Nat)) : Nat → Nat → Bool
  | 0, _ => true
  | m + 1, k =>
    ((List.range ops.size).all fun j => Nat.ble j k || (M.getD j 0).testBit k || Zgm ops acc k j) && ZhR ops M acc m (k + 1)
def ZeA (ops : Array Oper) (acc : List (List Nat × List Nat)) (m k : Nat) : Bool := ZjI ops.toList 0 && ZhR ops (Zgg ops.toList []) acc m k
theorem ALex.run {ops : Array Oper} {Q : List (List Nat × List Nat) → St → Prop} : ∀ (l : List Oper) (acc : List (List Nat × List Nat)) (st : St), (∀ j, l[j]? = ops[acc.length + j]?) → ALex P w0 own ops Q l acc st →
    ∃ (add : List (List Nat × List Nat)) (pat : Nat → Patch) (sts : Nat → St), add.length = l.length ∧ sts acc.length = st ∧ Q (add.reverse ++ acc) (sts (acc.length + l.length)) ∧
      ∀ j, j < l.length → ∀ o, l[j]? = some o → ∃ f, add[j]? = some f ∧ f.2 = Zbo (pat (acc.length + j)).ups ∧ (pat (acc.length + j)).dst = o.dst ∧ (∀ q, q ∈ f.2 → q ∈ f.1) ∧ StepA P w0 own ops o f.1 (sts (acc.length + j)) (pat (acc.length + j)) ∧ sts (acc.length + j + 1) = (sts (acc.length + j)).patch (pat (acc.length + j))
  | [], acc, st, _, h => ⟨[], fun _ => ⟨none, .dead, []⟩, fun _ => st, rfl, rfl, h, fun j hj => by simp at hj⟩
  | o :: l, acc, st, hl, ⟨K, p, h1, h2, h3, h4⟩ => by
    obtain ⟨add, pat, sts, e1, e2, e3, e4⟩ := ALex.run l ((K, Zbo p.ups) :: acc) (st.patch p) (fun j => by have := hl (j + 1); simpa [Nat.add_assoc, Nat.add_comm 1 j] using this) h4
    refine ⟨(K, Zbo p.ups) :: add, fun i => if i = acc.length then p else pat i, fun i => if i = acc.length then st else sts i, by simp [e1], by simp, ?_, ?_⟩
    · have : ¬ (acc.length + (o :: l).length = acc.length) := by simp
      simp only [if_neg this]
      have e : acc.length + (o :: l).length = ((K, Zbo p.ups) :: acc).length + l.length := by simp; omega
      rw [e]
      simpa using e3
    · intro j hj o' ho'
      cases j with
      | zero =>
        simp at ho'; subst ho'
        refine ⟨_, rfl, by simp, by simpa using h2, h3, by simpa using h1, ?_⟩
        simp only [Nat.add_zero, if_true]
        rw [if_neg (by omega)]
        have := e2
        simpa using this
      | succ j =>
        obtain ⟨f, g1, g2, g3, g4, g5, g6⟩ := e4 j (by simpa using hj) o' (by simpa using ho')
        have e : acc.length + (j + 1) = ((K, Zbo p.ups) :: acc).length + j := by simp; omega
        have n1 : ¬ (acc.length + (j + 1) = acc.length) := by omega
        have n2 : ¬ (acc.length + (j + 1) + 1 = acc.length) := by omega
        refine ⟨f, by simpa using g1, ?_, ?_, g4, ?_, ?_⟩
        · simp only [if_neg n1]; rw [e]; exact g2
        · simp only [if_neg n1]; rw [e]; exact g3
        · simp only [if_neg n1]; rw [e]; exact g5
        · simp only [if_neg n1, if_neg n2]; rw [e]; exact g6
theorem Zg7 {id : Nat} {l : List Oper} {Q : Exit → St → Prop} (hm : P.follows .mixedOrders = true) (h : ALex P w0 own l.toArray (fun acc st' => ZeA l.toArray acc.reverse l.length 0 = true ∧ Q .normal st') l [] st) :
    AWP P w0 own (.region id l.toArray true) Q st := by
  intro γ a w hR
  refine wp_region_any hm ?_
  obtain ⟨add, pat, sts, e1, e2, ⟨e3, e3'⟩, e4⟩ := ALex.run l [] st (by simp) h
  simp only [List.append_nil, List.reverse_reverse, List.length_nil, Nat.zero_add] at e2 e3 e3' e4
  have hfoot : ∀ j, j < l.length → ZkQ add j = Zbo (pat j).ups := by
    intro j hj
    obtain ⟨f, g1, g2, _⟩ := e4 j hj l[j] (List.getElem?_eq_getElem hj)
    simp [ZkQ, List.getD, g1, g2]
  have hpair : ∀ i j, i < l.length → j < l.length → Zgm l.toArray add i j = ZfM l.toArray (ZdK add) pat i j := by
    intro i j hi hj
    unfold Zgm ZfM
    rw [hfoot i hi, hfoot j hj]
    all_goals (cases l.toArray[i]? <;> cases l.toArray[j]? <;> rfl)
  have hlex : ∀ m k, k + m = l.length → ZhR l.toArray (Zgg l.toArray.toList []) add m k = true → Zlx l.toArray (depM l.toArray) (ZdK add) pat m k = true := by
    intro m
    induction m with
    | zero => intro _ _ _; rfl
    | succ m ih =>
      intro k hk hx
      simp only [ZhR, Zlx, Bool.and_eq_true] at hx ⊢
      refine ⟨?_, ih (k + 1) (by omega) hx.2⟩
      have this := hx.1
      rw [List.all_eq_true] at this ⊢
      intro j hj
      have hj' : j < l.length := by simpa using hj
      rw [← hpair k j (by omega) hj']
      have h2 := this j hj
      simp only [Bool.or_eq_true, decide_eq_true_eq] at h2 ⊢
      rcases h2 with (h2 | h2) | h2
      · exact .inl (.inl (Nat.le_of_ble_eq_true h2))
      · exact .inl (.inr h2)
      · exact .inr h2
  unfold ZeA at e3
  rw [Bool.and_eq_true] at e3
  have hbk : Back l.toArray := fun k ok hok e he hb => by
    have := Zdj _ 0 e3.1 k ok (by simpa using hok) e he hb
    omega
  have hsize : l.toArray.size = l.length := by simp
  refine AAny.sound (K := ZdK add) (pat := pat) _ _ st γ a _ γ.le_refl hR.drew ?_
  rw [hsize]
  refine AAny.lex (K := ZdK add) (pat := pat) hbk (ZiT _) l.length 0 _ st (by simp) (by simp) (fun j hj => by simp at hj; simp [Array.getD_eq_getD_getElem?, Array.getElem?_replicate, hj]) (hlex _ 0 (by simp) e3.2) ?_ ⟨sts, e2, ?_, by simpa using e3'⟩
  · intro j oj hoj
    have hj : j < l.length := by
      rcases Nat.lt_or_ge j l.length with h | h
      · exact h
      · simp [List.getElem?_eq_none h] at hoj
    obtain ⟨f, g1, g2, g3, g4, _⟩ := e4 j hj oj (by simpa using hoj)
    refine ⟨g3, fun q hq => ?_⟩
    have : ZdK add j = f.1 := by simp [ZdK, List.getD, g1]
    rw [this]; exact g4 q (by rw [g2]; exact hq)
  · intro j _ hj o ho
    have hj' : j < l.length := by simpa using hj
    obtain ⟨f, g1, g2, g3, g4, g5, g6⟩ := e4 j hj' o (by simpa using ho)
    have : ZdK add j = f.1 := by simp [ZdK, List.getD, g1]
    rw [this]; exact ⟨g5, g6⟩
end

section
open Go
variable {P : Program} {w0 : World} {own : Nat → Prop} {γ : Gh} {st : St} {a : Act} {w : World} {Q : Exit → St → Prop}
def ZaZ (fn : Func) : St := { n := fn.ntmps, lvl := 0, tmps := fun _ => .dead, store := fun _ => none, gen := fun _ => 0 }
def entry (fn : Func) (args : List DV) : St := { (matT (ZaZ fn) 1000000 args).1 with tmps := fun i => (matT (ZaZ fn) 1000000 args).2.getD i .dead }
def tkD : Nat → List D → (List D → List D → Prop) → Prop
  | 0, l, K => K [] l
  | _ + 1, [], K => K [] []
  | n + 1, d :: l, K => tkD n l fun r s => K (d :: r) s
theorem Znp : ∀ (n : Nat) (l : List D) (K : List D → List D → Prop), tkD n l K → K (l.take n) (l.drop n)
  | 0, _, _, h => by simpa [tkD] using h
  | _ + 1, [], _, h => by simpa [tkD] using h
  | n + 1, d :: l, K, h => by simpa using Znp n l _ h
def cutD (wd : Nat) : Nat → List D → List (List D)
  | 0, _ => []
  | n + 1, l => l.take wd :: cutD wd n (l.drop wd)
def chD (wd : Nat) : Nat → List D → (List (List D) → Prop) → Prop
  | 0, _, K => K []
  | n + 1, l, K => tkD wd l fun r s => chD wd n s fun rs => K (r :: rs)
theorem Zit (wd : Nat) : ∀ (n : Nat) (l : List D) (K : List (List D) → Prop), chD wd n l K → K (cutD wd n l)
  | 0, _, _, h => h
  | n + 1, l, K, h => Zit wd n _ _ (Znp _ _ _ h)
theorem ZcB (wd : Nat) : ∀ (n : Nat) (l : List D), (cutD wd n l).length = n
  | 0, _ => rfl
  | n + 1, l => by simp [cutD, ZcB wd n]
theorem ZiQ (wd : Nat) : ∀ (n : Nat) (l : List D) (i : Nat), i < n → (cutD wd n l)[i]? = some ((l.drop (i * wd)).take wd)
  | 0, _, _, h => by omega
  | n + 1, l, 0, _ => by simp [cutD]
  | n + 1, l, i + 1, h => by
    simp only [cutD, List.getElem?_cons_succ]
    rw [ZiQ wd n _ i (by omega), List.drop_drop]
    congr 3
    rw [Nat.succ_mul]; omega
theorem Zj5 {wd n : Nat} {l : List D} {i j : Nat} {r : List D} {c : D} (h1 : (cutD wd n l)[i]? = some r) (h2 : r[j]? = some c) : i < n ∧ j < wd ∧ l[i * wd + j]? = some c := by
  have hi : i < n := by have := (List.getElem?_eq_some_iff.1 h1).1; rwa [ZcB] at this
  rw [ZiQ wd n l i hi] at h1
  cases h1
  rw [List.getElem?_take] at h2
  split at h2
  · rename_i hj
    rw [List.getElem?_drop] at h2
    exact ⟨hi, hj, h2⟩
  · cases h2
theorem Znl {wd n : Nat} {l : List D} (h : n * wd ≤ l.length) : ∀ r ∈ cutD wd n l, r.length = wd := by
  intro r hr
  obtain ⟨i, hi⟩ := List.getElem?_of_mem hr
  have hin : i < n := by have := (List.getElem?_eq_some_iff.1 hi).1; rwa [ZcB] at this
  rw [ZiQ wd n l i hin] at hi
  cases hi
  have : (i + 1) * wd ≤ n * wd := Nat.mul_le_mul_right _ hin
  rw [Nat.succ_mul] at this
  simp; omega
inductive OutC0 (st : St) : C → D → List Nat → Prop
  | v (x : Value) : OutC0 st (.d (.v x)) (.v x) []
  | ro (x : D) : x.top0 = true → OutC0 st (.d x) x []
  | rs (k wd len kn : Nat) (R : Root) (rows : List (List D)) : st.store k = some R → R.wd = wd → R.rows = emb rows → len ≤ rows.length → (rows.all fun r => r.all D.keeps) = true →
      OutC0 st (.rs k R.tag wd 0 len kn) (.s 1 wd (rows.take len) ((rows.drop len).take (kn - len))) [k]
inductive OutL0 (st : St) : List C → List D → List Nat → Prop
  | nil : OutL0 st [] [] []
  | cons {c d ks cs ds kss} : OutC0 st c d ks → OutL0 st cs ds kss → OutL0 st (c :: cs) (d :: ds) (ks ++ kss)
inductive OutC (st : St) : C → D → List Nat → Prop
  | v (x : Value) : OutC st (.d (.v x)) (.v x) []
  | ro (x : D) : x.top0 = true → OutC st (.d x) x []
  | rs (k wd len kn : Nat) (R : Root) (rows : List (List D)) : st.store k = some R → R.wd = wd → R.rows = emb rows → len ≤ rows.length → (rows.all fun r => r.all D.keeps) = true →
      OutC st (.rs k R.tag wd 0 len kn) (.s 1 wd (rows.take len) ((rows.drop len).take (kn - len))) [k]
  | bx (k wd len kn : Nat) (R : Root) (row : List C) (ds : List D) (kss : List Nat) : st.store k = some R → R.rows = [row] → len * wd ≤ row.length → OutL0 st (row.take (len * wd)) ds kss →
      OutC st (.rs k R.tag wd 0 len kn) (.s 1 wd (cutD wd len ds) []) (k :: kss)
inductive OutL (st : St) : List C → List D → List Nat → Prop
  | nil : OutL st [] [] []
  | cons {c d ks cs ds kss} : OutC st c d ks → OutL st cs ds kss → OutL st (c :: cs) (d :: ds) (ks ++ kss)
inductive OutA (st : St) : A → DV → List Nat → Prop
  | c {y d ks} : OutC st y d ks → OutA st (.c y) (.c d) ks
  | agg {ys ds ks} : OutL st ys ds ks → OutA st (.agg ys) (.agg ds) ks
inductive OutT (st : St) : List A → List DV → List Nat → Prop
  | nil : OutT st [] [] []
  | cons {c d ks cs ds kss} : OutA st c d ks → OutT st cs ds kss → OutT st (c :: cs) (d :: ds) (ks ++ kss)
def Gh.foot (γ : Gh) (st : St) (ks : List Nat) (b : Nat) : Prop := ∃ k R, k ∈ ks ∧ st.store k = some R ∧ (γ.β k R.tag = some b ∨ ∃ i j, γ.FP k i j b)
theorem ZdX (hR : Rel w0 own γ st a w) {v : Value} {y : C} {d : D} {ks : List Nat} (hv : CR γ w v y) (h : OutC0 st y d ks) : OD w γ.F v d (γ.foot st ks) := by
  cases h with
  | v x => cases hv with
    | d _ _ h => exact .r _ _ _ (by simp) h
  | ro x ht =>
    have hd := (AR.c (γ := γ) _ _ hv).d_inv
    rw [ht] at hd
    refine .r _ _ _ (fun z rows sp e => ?_) hd
    subst e; simp [D.top0] at ht
  | rs k wd len kn R rows hk hw hrows hlen hkeep =>
    subst hw
    have hm := hR.mem k R hk
    unfold RootOK at hm
    rcases (AR.c (γ := γ) _ _ hv).rs_inv with ⟨cap, b, E, n, rfl, hβ, hg, hsh, hcap, hlc, hkn⟩ | ⟨⟨_, rfl⟩, _, hl0, hk0, hβ, _⟩
    · rw [hβ] at hm
      obtain ⟨arr, E', harr, hw2, hsz, hcell⟩ := hm
      have hn : n = arr.size := by simp [World.shape?, harr] at hsh; exact hsh.2.symm
      have hll : (rows.take len).length = len := by simp; omega
      generalize hsp : (rows.drop len).take (kn - len) = sp
      have hspl : sp.length ≤ kn - len := by rw [← hsp]; simp; omega
      have hget : ∀ (i : Nat) r, (rows.take len ++ sp)[i]? = some r → rows[i]? = some r := by
        intro i r hi
        by_cases hi2 : i < len
        · rw [List.getElem?_append_left (by omega), List.getElem?_take, if_pos hi2] at hi
          exact hi
        · rw [List.getElem?_append_right (by omega), hll, ← hsp, List.getElem?_take] at hi
          split at hi
          · rw [List.getElem?_drop] at hi
            rw [← hi]; congr 1; omega
          · cases hi
      have := OD.s (w := w) (G := γ.F) (rows.take len) sp b cap R.wd arr E' (γ.foot st [k]) (fun i j => γ.FP k i j) ⟨k, R, by simp, hk, .inl hβ⟩ harr ?_ (by omega) (by rw [← hn]; simpa using hcap) ?_ ?_ ?_
      · rw [hll] at this
        simpa using this
      · intro r hr
        obtain ⟨i, hi⟩ := List.getElem?_of_mem hr
        have : r.map C.d ∈ R.rows := by rw [hrows]; exact List.mem_map.2 ⟨r, List.mem_of_getElem? (hget i r hi), rfl⟩
        simpa using hw2 _ this
      · intro i j r d h1 h2
        obtain ⟨r', g1, g2⟩ := ZiI (hget i r h1) h2
        rw [← hrows] at g1
        have hsr := hcell i j r' _ g1 g2
        have hkp : d.keeps = true := List.all_eq_true.1 (List.all_eq_true.1 hkeep r (List.mem_of_getElem? (hget i r h1))) d (List.mem_of_getElem? h2)
        unfold SR at hsr
        split at hsr
        · rename_i heq; cases heq; exact hsr
        · rename_i hne'
          have ht : d.top0 = true := by
            cases d with
            | s t z rr' sp =>
              simp [D.keeps] at hkp
              rcases hkp with rfl | rfl
              · rfl
              · exact (hne' z rr' sp rfl).elim
            | p t cells off => simpa [D.keeps, D.top0] using hkp
            | _ => rfl
          have hh := (AR.c (γ := γ) _ _ hsr).d_inv
          rw [ht] at hh
          exact .r _ _ _ (fun z rr' sp e => hne' z rr' sp (by rw [e])) hh
      · intro i j c hc
        exact ⟨⟨k, R, by simp, hk, .inr ⟨i, j, hc⟩⟩, fun e => by subst e; exact (hR.rootF k R c hk hβ).2.1 _ _ _ hc⟩
      · intro i j i' j' c h1 h2
        exact (hR.fpD _ _ _ _ _ _ _ h1 h2).2
    · subst hl0 hk0
      simp only [List.take_zero, Nat.sub_self]
      exact .n _ _ _
theorem Zcn (hR : Rel w0 own γ st a w) {k1 k2 : List Nat} (hd : ∀ k, k ∈ k1 → k ∉ k2) (b : Nat) (h1 : γ.foot st k1 b) (h2 : γ.foot st k2 b) : False := by
  obtain ⟨ka, Ra, m1, s1, c1⟩ := h1
  obtain ⟨kb, Rb, m2, s2, c2⟩ := h2
  have hne : ka ≠ kb := fun e => hd ka m1 (e ▸ m2)
  rcases c1 with c1 | ⟨i, j, c1⟩ <;> rcases c2 with c2 | ⟨i', j', c2⟩
  · exact hne (hR.inj _ _ _ _ _ s1 s2 c1 c2)
  · exact (hR.rootF _ _ _ s1 c1).2.1 _ _ _ c2
  · exact (hR.rootF _ _ _ s2 c2).2.1 _ _ _ c1
  · exact hne (hR.fpD _ _ _ _ _ _ _ c1 c2).1
theorem Zc5 {k1 k2 : List Nat} (h : ∀ k, k ∈ k1 → k ∈ k2) (b : Nat) (hb : γ.foot st k1 b) : γ.foot st k2 b := by
  obtain ⟨k, R, m, s, c⟩ := hb; exact ⟨k, R, h k m, s, c⟩
theorem ZhA (hR : Rel w0 own γ st a w) : ∀ (ys : List C) (ds : List D) (ks : List Nat) (vs : Nat → Value), OutL0 st ys ds ks → ks.Nodup → (∀ i c, ys[i]? = some c → CR γ w (vs i) c) →
    ys.length = ds.length ∧ ∃ sub : Nat → Nat → Prop, (∀ i d, ds[i]? = some d → OD w γ.F (vs i) d (sub i)) ∧ (∀ i b, sub i b → γ.foot st ks b) ∧ ∀ i i' b, sub i b → sub i' b → i = i'
  | _, _, _, vs, .nil, _, _ => ⟨rfl, fun _ _ => False, by simp, fun _ _ h => h.elim, fun _ _ _ h => h.elim⟩
  | _, _, _, vs, .cons (c := c) (d := d) (ks := ks) (cs := cs) (ds := ds) (kss := kss) h1 h2, hn, hv => by
    obtain ⟨n1, n2, n3⟩ := List.nodup_append.1 hn
    obtain ⟨e1, sub, s1, s2, s3⟩ := ZhA hR cs ds kss (fun i => vs (i + 1)) h2 n2 (fun i c hc => hv (i + 1) c (by simpa using hc))
    have hdis : ∀ k, k ∈ ks → k ∉ kss := fun k h1 h2 => n3 k h1 k h2 rfl
    refine ⟨by simp [e1], fun i => match i with | 0 => γ.foot st ks | i + 1 => sub i, fun i d' hd => ?_, fun i b hb => ?_, fun i i' b hb hb' => ?_⟩
    · cases i with
      | zero => simp at hd; subst hd; exact ZdX hR (hv 0 c rfl) h1
      | succ i => exact s1 i d' (by simpa using hd)
    · cases i with
      | zero => exact Zc5 (fun k hk => List.mem_append_left _ hk) b hb
      | succ i => exact Zc5 (fun k hk => List.mem_append_right _ hk) b (s2 i b hb)
    · cases i <;> cases i'
      · rfl
      · exact (Zcn hR hdis b hb (s2 _ b hb')).elim
      · exact (Zcn hR hdis b hb' (s2 _ b hb)).elim
      · rw [s3 _ _ b hb hb']
theorem OutC0.up {y : C} {d : D} {ks : List Nat} (h : OutC0 st y d ks) : y.flat = true := by
  cases h with
  | v x => rfl
  | ro _ ht =>
    cases d with
    | s t z rows sp =>
      match t, ht with
      | 0, _ => rfl
      | t + 1, ht => simp [D.top0] at ht
    | _ => rfl
  | rs => rfl
theorem Zia : ∀ (ys : List C) (ds : List D) (ks : List Nat), OutL0 st ys ds ks → ∀ c ∈ ys, c.flat = true
  | _, _, _, .nil, c, hc => by simp at hc
  | _, _, _, .cons h1 h2, c, hc => by
    rcases List.mem_cons.1 hc with rfl | hc
    · exact h1.up
    · exact Zia _ _ _ h2 c hc
theorem ZjL (hR : Rel w0 own γ st a w) {v : Value} {y : C} {d : D} {ks : List Nat} (hv : CR γ w v y) (h : OutC st y d ks) (hnd : ks.Nodup) : OD w γ.F v d (γ.foot st ks) := by
  cases h with
  | v x => exact ZdX hR hv (.v x)
  | ro _ ht => exact ZdX hR hv (.ro _ ht)
  | rs k wd len kn R rows h1 h2 h3 h4 h5 => exact ZdX hR hv (.rs k wd len kn R rows h1 h2 h3 h4 h5)
  | bx k wd len kn R row ds kss hk hrow hle hL =>
    have hm := hR.mem k R hk
    unfold RootOK at hm
    rcases (AR.c (γ := γ) _ _ hv).rs_inv with ⟨cap, b, E, n, rfl, hβ, hg, hsh, hcap, hlc, hkn⟩ | ⟨⟨_, rfl⟩, _, hl0, hk0, hβ, _⟩
    · rw [hβ] at hm
      obtain ⟨arr, E', harr, hw2, hsz, hcell⟩ := hm
      have hn : n = arr.size := by simp [World.shape?, harr] at hsh; exact hsh.2.symm
      obtain ⟨nd1, nd2⟩ := List.nodup_cons.1 hnd
      have hflat := Zia _ _ _ hL
      obtain ⟨e1, sub, s1, s2, s3⟩ := ZhA hR _ _ _ (fun q => arr.getD q undef) hL nd2 (fun q c hc => by
        have hq : q < len * wd := by have := (List.getElem?_eq_some_iff.1 hc).1; simp at this; omega
        have hf := hflat c (List.mem_of_getElem? hc)
        rw [List.getElem?_take, if_pos hq] at hc
        have := hcell 0 q row c (by rw [hrow]; rfl) hc
        rw [Nat.zero_mul, Nat.zero_add] at this
        unfold SR at this
        split at this
        · simp [C.flat] at hf
        · exact this)
      have hdl : ds.length = len * wd := by rw [← e1]; simp; omega
      have := OD.s (w := w) (G := γ.F) (cutD wd len ds) [] b cap wd arr E' (γ.foot st (k :: kss)) (fun i j c => j < wd ∧ sub (i * wd + j) c) ⟨k, R, by simp, hk, .inl hβ⟩ harr ?_ (by rw [ZcB]; simpa using hlc) (by rw [← hn]; simpa using hcap) ?_ ?_ ?_
      · rw [ZcB] at this
        simpa using this
      · intro r hr
        exact Znl (Nat.le_of_eq hdl.symm) r (by simpa using hr)
      · intro i j r d h1 h2
        rw [List.append_nil] at h1
        obtain ⟨hi, hj, hd⟩ := Zj5 h1 h2
        exact (s1 _ d hd).wider fun c hc => ⟨hj, hc⟩
      · intro i j c hc
        refine ⟨Zc5 (fun k' hk' => List.mem_cons_of_mem _ hk') c (s2 _ c hc.2), fun e => ?_⟩
        subst e
        exact Zcn hR (k1 := [k]) (k2 := kss) (fun k' h1 => by rw [List.mem_singleton.1 h1]; exact nd1) c ⟨k, R, by simp, hk, .inl hβ⟩ (s2 _ c hc.2)
      · intro i j i' j' c h1 h2
        have := s3 _ _ c h1.2 h2.2
        have hw0 : 0 < wd := by omega
        have d1 : (i * wd + j) / wd = i := by rw [Nat.mul_comm, Nat.mul_add_div hw0]; simp [Nat.div_eq_of_lt h1.1]
        have d2 : (i' * wd + j') / wd = i' := by rw [Nat.mul_comm, Nat.mul_add_div hw0]; simp [Nat.div_eq_of_lt h2.1]
        have m1 : (i * wd + j) % wd = j := by rw [Nat.mul_comm, Nat.mul_add_mod]; exact Nat.mod_eq_of_lt h1.1
        have m2 : (i' * wd + j') % wd = j' := by rw [Nat.mul_comm, Nat.mul_add_mod]; exact Nat.mod_eq_of_lt h2.1
        rw [this] at d1 m1
        exact ⟨d1.symm.trans d2, m1.symm.trans m2⟩
    · subst hl0
      exact .n _ _ _
theorem ZkX (hR : Rel w0 own γ st a w) : ∀ (ys : List C) (ds : List D) (ks : List Nat) (vs : Nat → Value), OutL st ys ds ks → ks.Nodup → (∀ i c, ys[i]? = some c → CR γ w (vs i) c) →
    ys.length = ds.length ∧ ∃ sub : Nat → Nat → Prop, (∀ i d, ds[i]? = some d → OD w γ.F (vs i) d (sub i)) ∧ (∀ i b, sub i b → γ.foot st ks b) ∧ ∀ i i' b, sub i b → sub i' b → i = i'
  | _, _, _, vs, .nil, _, _ => ⟨rfl, fun _ _ => False, by simp, fun _ _ h => h.elim, fun _ _ _ h => h.elim⟩
  | _, _, _, vs, .cons (c := c) (d := d) (ks := ks) (cs := cs) (ds := ds) (kss := kss) h1 h2, hn, hv => by
    obtain ⟨n1, n2, n3⟩ := List.nodup_append.1 hn
    obtain ⟨e1, sub, s1, s2, s3⟩ := ZkX hR cs ds kss (fun i => vs (i + 1)) h2 n2 (fun i c hc => hv (i + 1) c (by simpa using hc))
    have hdis : ∀ k, k ∈ ks → k ∉ kss := fun k h1 h2 => n3 k h1 k h2 rfl
    refine ⟨by simp [e1], fun i => match i with | 0 => γ.foot st ks | i + 1 => sub i, fun i d' hd => ?_, fun i b hb => ?_, fun i i' b hb hb' => ?_⟩
    · cases i with
      | zero => simp at hd; subst hd; exact ZjL hR (hv 0 c rfl) h1 n1
      | succ i => exact s1 i d' (by simpa using hd)
    · cases i with
      | zero => exact Zc5 (fun k hk => List.mem_append_left _ hk) b hb
      | succ i => exact Zc5 (fun k hk => List.mem_append_right _ hk) b (s2 i b hb)
    · cases i <;> cases i'
      · rfl
      · exact (Zcn hR hdis b hb (s2 _ b hb')).elim
      · exact (Zcn hR hdis b hb' (s2 _ b hb)).elim
      · rw [s3 _ _ b hb hb']
theorem Zhf (hR : Rel w0 own γ st a w) {v : Value} {y : A} {d : DV} {ks : List Nat} (hv : AR γ w v y) (h : OutA st y d ks) (hn : ks.Nodup) : OV w γ.F v d (γ.foot st ks) := by
  cases h with
  | c h => cases hv with
    | c _ _ hv => exact .c _ _ _ (ZjL hR hv h hn)
  | agg h => cases hv with
    | agg vs xs hs hc =>
      obtain ⟨e1, sub, s1, s2, s3⟩ := ZkX hR _ _ _ (fun i => vs.getD i undef) h hn hc
      exact .agg vs _ _ sub (by omega) s1 s2 s3
theorem ZeT (hR : Rel w0 own γ st a w) : ∀ (ys : List A) (ds : List DV) (ks : List Nat) (vs : Nat → Value), OutT st ys ds ks → ks.Nodup → (∀ i c, ys[i]? = some c → AR γ w (vs i) c) →
    ys.length = ds.length ∧ ∃ sub : Nat → Nat → Prop, (∀ i d, ds[i]? = some d → OV w γ.F (vs i) d (sub i)) ∧ (∀ i b, sub i b → γ.foot st ks b) ∧ ∀ i i' b, sub i b → sub i' b → i = i'
  | _, _, _, vs, .nil, _, _ => ⟨rfl, fun _ _ => False, by simp, fun _ _ h => h.elim, fun _ _ _ h => h.elim⟩
  | _, _, _, vs, .cons (c := c) (d := d) (ks := ks) (cs := cs) (ds := ds) (kss := kss) h1 h2, hn, hv => by
    obtain ⟨n1, n2, n3⟩ := List.nodup_append.1 hn
    obtain ⟨e1, sub, s1, s2, s3⟩ := ZeT hR cs ds kss (fun i => vs (i + 1)) h2 n2 (fun i c hc => hv (i + 1) c (by simpa using hc))
    have hdis : ∀ k, k ∈ ks → k ∉ kss := fun k h1 h2 => n3 k h1 k h2 rfl
    refine ⟨by simp [e1], fun i => match i with | 0 => γ.foot st ks | i + 1 => sub i, fun i d' hd => ?_, fun i b hb => ?_, fun i i' b hb hb' => ?_⟩
    · cases i with
      | zero => simp at hd; subst hd; exact Zhf hR (hv 0 c rfl) h1 n1
      | succ i => exact s1 i d' (by simpa using hd)
    · cases i with
      | zero => exact Zc5 (fun k hk => List.mem_append_left _ hk) b hb
      | succ i => exact Zc5 (fun k hk => List.mem_append_right _ hk) b (s2 i b hb)
    · cases i <;> cases i'
      · rfl
      · exact (Zcn hR hdis b hb (s2 _ b hb')).elim
      · exact (Zcn hR hdis b hb' (s2 _ b hb)).elim
      · rw [s3 _ _ b hb hb']
end

section
open Go
variable {P : Program} {w0 : World} {own : Nat → Prop} {γ : Gh} {st : St} {a : Act} {w : World} {Q : Exit → St → Prop}
def resV (P : Program) (st : St) : ResultVar → Option A
  | .tmp t => some (st.tmps t).wk
  | .cell t T =>
    match st.tmps t with
    | .c (.rp k g wd i j) =>
      match st.store k with
      | some R => if R.tag = g ∧ R.wd = wd then (R.rows[i]?).bind fun r => (szT P T).bind fun n => (seg r j n).bind fun cs => if ZbB cs then (aggT P T).bind fun ag => mkA ag cs else none else none
      | none => none
    | _ => none
def Zd4 (P : Program) (st : St) : List ResultVar → Option (List A)
  | [] => some []
  | r :: l => match resV P st r, Zd4 P st l with | some x, some y => some (x :: y) | _, _ => none
theorem Zou (hR : Rel w0 own γ st a w) {r : ResultVar} {x : A} (h : resV P st r = some x) :
    ∃ v, ((match r with | .tmp t => pure (a.tmps.getD t undef) | .cell t T => do loadVar T (← asAddr (a.tmps.getD t undef)) : Sem Value).run P w = .ok v w) ∧ AR γ w v x := by
  cases r with
  | tmp t => simp only [resV, Option.some.injEq] at h; subst h; exact ⟨_, rfl, (hR.tmps t).wk⟩
  | cell t T =>
    simp only [resV] at h
    split at h
    · rename_i k g wd i j ht
      split at h
      · rename_i R hk
        split at h
        · rename_i hc
          obtain ⟨rfl, rfl⟩ := hc
          obtain ⟨r, hr, h⟩ := Option.bind_eq_some_iff.1 h
          obtain ⟨n, hn, h⟩ := Option.bind_eq_some_iff.1 h
          obtain ⟨cs, hs, h⟩ := Option.bind_eq_some_iff.1 h
          split at h
          · rename_i hok
            obtain ⟨ag, ha, hy⟩ := Option.bind_eq_some_iff.1 h
            have hv := hR.tmps t
            rw [ht] at hv
            obtain ⟨b, e, hβ, _⟩ := hv.rp_inv
            have hm := hR.mem k R hk
            unfold RootOK at hm
            rw [hβ] at hm
            obtain ⟨arr, E, harr, hwd, hsz, hcell⟩ := hm
            obtain ⟨hl, hle, hget⟩ := ZfZ hs
            have hrl := hwd r (List.mem_of_getElem? hr)
            have hi : i < R.rows.length := (List.getElem?_eq_some_iff.1 hr).1
            have hpos : ∀ q, q < n → i * R.wd + j + q < arr.size := fun q hq => by
              have := Zbc (i := i) (j := j + q) (n := R.rows.length) (sz := R.wd) hi (by omega)
              omega
            have hread : ∀ q, q < n → w.cell? ⟨b, i * R.wd + j + q, none⟩ = some (arr.getD (i * R.wd + j + q) undef) := fun q hq => by
              simp [World.cell?, harr, hpos q hq]
            have hAR := AR.mkA (γ := γ) (w := w) (f := fun q => arr.getD (i * R.wd + j + q) undef) hl hy (fun q z hz => by
              have hq : q < n := by have := (List.getElem?_eq_some_iff.1 hz).1; omega
              have hflat := (Zbv hok hz).1
              rw [hget q hq] at hz
              have := hcell i (j + q) r z hr hz
              rw [← Nat.add_assoc] at this
              unfold SR at this
              split at this
              · simp [C.flat] at hflat
              · exact this)
            refine ⟨_, ?_, hAR.1⟩
            simp only [e, asAddr, Sem.run_bind]
            rw [show ((pure (⟨b, i * R.wd + j, none⟩ : Addr) : Sem Addr).run P w) = .ok ⟨b, i * R.wd + j, none⟩ w from rfl]
            simp only [Result.andThen_ok]
            rw [Zeu _ ha hn hread hAR.2]
          · cases h
        · cases h
      · cases h
    · cases h
theorem Zch (hR : Rel w0 own γ st a w) : ∀ (rs : List ResultVar) (xs : List A), Zd4 P st rs = some xs → ∃ vs : List Value, ((rs.mapM fun | .tmp t => pure (a.tmps.getD t undef) | .cell t T => do loadVar T (← asAddr (a.tmps.getD t undef)) : Sem (List Value)).run P w = .ok vs w) ∧
    vs.length = xs.length ∧ ∀ i x, xs[i]? = some x → AR γ w (vs.getD i undef) x
  | [], xs, h => by simp [Zd4] at h; subst h; exact ⟨[], rfl, rfl, by simp⟩
  | r :: rs, xs, h => by
    simp only [Zd4] at h
    split at h
    · rename_i x y h1 h2
      cases h
      obtain ⟨v, g1, g2⟩ := Zou hR h1
      obtain ⟨vs, i1, i2, i3⟩ := Zch hR rs y h2
      refine ⟨v :: vs, ?_, by simp [i2], fun i z hz => ?_⟩
      · rw [List.mapM_cons, Sem.run_bind, g1]
        simp only [Result.andThen_ok, Sem.run_bind, i1]
        rfl
      · cases i with
        | zero => simp at hz; subst hz; exact g2
        | succ i => simpa using i3 i z (by simpa using hz)
    · cases h
def FinA (P : Program) (fn : Func) (res : DV) (e : Exit) (st : St) : Prop :=
  (e = .ret ∨ e = .normal) ∧ ((∃ x ks, Zd4 P st fn.results.toList = some [x] ∧ OutA st x res ks ∧ ks.Nodup) ∨ (∃ xs ds ks, Zd4 P st fn.results.toList = some xs ∧ xs.length ≠ 1 ∧ res = .tup ds ∧ OutT st xs ds ks ∧ ks.Nodup))
def Zlm : List Value → Value
  | [v] => v
  | vs => .tuple vs.toArray
theorem ZbT {fn : Func} {vs : List Value} {tmps : Array Value} (h : (fn.results.toList.mapM fun | .tmp t => pure (tmps.getD t undef) | .cell t T => do loadVar T (← asAddr (tmps.getD t undef)) : Sem (List Value)).run P w = .ok vs w) :
    (results fn tmps).run P w = .ok (Zlm vs) w := by
  unfold results
  rw [← Array.toList_mapM, Sem.run_map] at h
  rw [Sem.run_bind]
  revert h
  generalize hm : (Sem.run P (Array.mapM (m := Sem) _ fn.results) w) = r
  intro h
  cases r with
  | halt x w' => simp at h
  | ok arr w' =>
    simp only [Result.andThen_ok, Result.ok.injEq] at h
    obtain ⟨e1, e2⟩ := h
    subst e2
    subst e1
    simp only [Result.andThen_ok]
    show Result.ok _ w' = _
    congr 1
    cases harr : arr.toList with
    | nil =>
      have : arr.size = 0 := by rw [← Array.length_toList, harr]; rfl
      rw [dif_neg (by omega)]
      have : arr = #[] := by apply Array.ext'; rw [harr]
      subst this; rfl
    | cons v l =>
      cases l with
      | nil =>
        have : arr.size = 1 := by rw [← Array.length_toList, harr]; rfl
        rw [dif_pos this]
        have : arr = #[v] := by apply Array.ext'; rw [harr]
        subst this; rfl
      | cons u l =>
        have : arr.size = l.length + 2 := by rw [← Array.length_toList, harr]; rfl
        rw [dif_neg (by omega)]
        show Value.tuple arr = Value.tuple _
        congr 1
        apply Array.ext'
        rw [harr]
theorem Rel.know (h : Rel w0 own γ st a w) {f : Nat → A} (hf : ∀ i, AR γ w (a.tmps.getD i undef) (f i)) : Rel w0 own γ { st with tmps := f } a w :=
  { h with size := h.size, defers := h.defers, tmps := hf, gen := h.gen, tag := h.tag, mem := h.mem, inj := h.inj, rootF := h.rootF }
theorem Rel.start (fn : Func) (w : World) (vs : Array Value) (S G : Nat → Prop) (hG : ∀ b, G b → b < w.heap.size ∧ ¬ S b) (hn : vs.size ≤ fn.ntmps) :
    Rel w S { β := fun _ _ => none, F := G, FP := fun _ _ _ _ => False, gen := fun _ => 0, F0 := ⟨G, fun _ => undef⟩ } (ZaZ fn) { tmps := vs ++ Array.replicate (fn.ntmps - vs.size) undef, defers := [] } w :=
  { env := Env.refl _ _
    size := by simp [ZaZ]; omega
    defers := rfl
    tmps := fun i => .dead _
    ghost := fun i => .dead _
    gen := rfl
    tag := fun k R h => by simp [ZaZ] at h
    mem := fun k R h => by simp [ZaZ] at h
    inj := fun k R k' R' b h => by simp [ZaZ] at h
    rootF := fun k R b h => by simp [ZaZ] at h
    fpF := fun k i j b h => h.elim
    fpD := fun k i j k' i' j' b h => h.elim
    fs := fun b h => .inl h
    lt := fun b h => by
      rcases h with h | ⟨_, _, _, h⟩
      · exact (hG b h).1
      · exact h.elim
    ltβ := fun k g b _ h => by simp at h }
end

section
open Go
variable {P : Program} {w0 : World} {own : Nat → Prop} {γ : Gh} {st : St} {a : Act} {w : World}
variable {ops : Array Oper} {Q : List (List Nat × List Nat) → St → Prop} {o : Oper} {l : List Oper} {acc : List (List Nat × List Nat)}
theorem ZbC (st : St) (d : Option Nat) (y : A) : st.put d y = st.patch ⟨d, y, []⟩ := by
  cases d with
  | none => simp [St.patch, St.put, Za4]
  | some d =>
    simp only [St.patch, St.put, Za4]
    congr 1
    funext i
    by_cases hi : i = d
    · simp [hi]
    · simp [hi, Ne.symm hi]
theorem Za8 (st : St) (d : Option Nat) (y : A) (k : Nat) (box : Bool) (wd : Nat) (rows : List (List C)) :
    (st.root k box wd rows).put d y = st.patch ⟨d, y, [(k, some ⟨st.gen k + 1, box, wd, rows⟩, st.gen k + 1)]⟩ := by
  rw [ZbC]
  simp only [St.patch, St.root, Za4]
  congr 1
  · funext i; by_cases hi : i = k <;> simp [hi]
  · funext i; by_cases hi : i = k <;> simp [hi]
theorem Zkj (st : St) (d : Option Nat) (y : A) (k : Nat) (R : Root) : (st.set k R).put d y = st.patch ⟨d, y, [(k, some R, st.gen k)]⟩ := by
  rw [ZbC]
  simp only [St.patch, St.set, Za4]
  congr 1
  · funext i; by_cases hi : i = k <;> simp [hi]
  · funext i; by_cases hi : i = k <;> simp [hi]
theorem Zpi {K : List Nat} {p : Patch} (hg : ZcT ops st o = some true) (hp : PatchOK P w0 own ops o K st p) (h : ALex P w0 own ops Q l ((K, Zbo p.ups) :: acc) (st.patch p)) : ALex P w0 own ops Q (o :: l) acc st :=
  ⟨K, p, .inl ⟨hg, hp⟩, hp.1, hp.2.1, h⟩
theorem ZuI (hg : ZcT ops st o = some false) (hd : st.fits o.dst = true) (h : ALex P w0 own ops Q l (([], []) :: acc) (st.patch ⟨o.dst, .tup [], []⟩)) : ALex P w0 own ops Q (o :: l) acc st :=
  ⟨[], ⟨o.dst, .tup [], []⟩, .inr ⟨hg, rfl, hd⟩, rfl, by simp [Zbo], h⟩
theorem Zaf {K : List Nat} {st' : St} (h : Alike ops o K st st') {d : Option Nat} (hd : st.fits d = true) : st'.fits d = true := by
  cases d <;> simp_all [St.fits, h.n]
theorem PatchOK.plain {y : A} (h : ∀ st', Alike ops o [] st st' → OpOK P w0 own o st' (st'.put o.dst y)) : PatchOK P w0 own ops o [] st ⟨o.dst, y, []⟩ :=
  ⟨rfl, by simp [Zbo], fun st' ha => by rw [← ZbC]; exact h st' ha⟩
theorem PatchOK.reads {K : List Nat} {y : A} (h : ∀ st', Alike ops o K st st' → OpOK P w0 own o st' (st'.put o.dst y)) : PatchOK P w0 own ops o K st ⟨o.dst, y, []⟩ :=
  ⟨rfl, by simp [Zbo], fun st' ha => by rw [← ZbC]; exact h st' ha⟩
theorem PatchOK.one {k g : Nat} {y : A} {R : Option Root} (h : ∀ st', Alike ops o [k] st st' → OpOK P w0 own o st' (st'.patch ⟨o.dst, y, [(k, R, g)]⟩)) : PatchOK P w0 own ops o [k] st ⟨o.dst, y, [(k, R, g)]⟩ :=
  ⟨rfl, by simp [Zbo], h⟩
theorem Zfe {K : List Nat} {st' : St} (h : Alike ops o K st st') : ∀ (xs : List Operand), (∀ x ∈ xs, x ∈ o.op.operands.toList) → ones st' xs = ones st xs
  | [], _ => rfl
  | x :: xs, hx => by
    simp only [ones, h.ev (hx x (by simp)), Zfe h xs fun y hy => hx y (List.mem_cons_of_mem _ hy)]
theorem Zb5 {K : List Nat} {st' : St} (h : Alike ops o K st st') (ps : List (Nat × Operand)) (hx : ∀ p ∈ ps, p.2 ∈ o.op.operands.toList) : Zbz st' ps = Zbz st ps := by
  unfold Zbz
  apply List.map_congr_left
  intro p hp
  simp [h.ev (hx p hp)]
end

section
open Go
variable {P : Program} {w0 : World} {own : Nat → Prop} {γ : Gh} {st : St} {a : Act} {w : World}
variable {ops : Array Oper} {o : Oper}
theorem ZtH {x : Operand} {y : A} (hd : st.fits o.dst = true) (ho : o.op = .move x ∨ o.op = .assign x) (hy : evA st x = y) : PatchOK P w0 own ops o [] st ⟨o.dst, y, []⟩ :=
  .plain fun st' ha => by
    have e := ha.ev (x := x) (by rcases ho with h | h <;> rw [h] <;> simp [Op.operands])
    rw [← hy, ← e]
    exact ZsA (Zaf ha hd) ho
theorem pk_pick {c x y : Operand} {t : Bool} {z : A} (hd : st.fits o.dst = true) (ho : o.op = .pick c x y) (hc : evA st c = sc (.bool t)) (hz : (if t then evA st x else evA st y) = z) : PatchOK P w0 own ops o [] st ⟨o.dst, z, []⟩ :=
  .plain fun st' ha => by
    have e1 := ha.ev (x := c) (by rw [ho]; simp [Op.operands])
    have e2 := ha.ev (x := x) (by rw [ho]; simp [Op.operands])
    have e3 := ha.ev (x := y) (by rw [ho]; simp [Op.operands])
    rw [← hz, ← e2, ← e3]
    exact Ztt (Zaf ha hd) ho (e1.trans hc)
theorem Zjt {b : BinOp} {t u : TypeId} {x y : Operand} {p q r : Value} (hd : st.fits o.dst = true) (ho : o.op = .binOp b t x y u) (hx : (evA st x).val = some p) (hy : (evA st y).val = some q)
    (hr : ZaU P (do eqGuard b t x y p q; binOp b t p q) = some r) (hp : plain r = true) : PatchOK P w0 own ops o [] st ⟨o.dst, sc r, []⟩ :=
  .plain fun st' ha => by
    have e1 := ha.ev (x := x) (by rw [ho]; simp [Op.operands])
    have e2 := ha.ev (x := y) (by rw [ho]; simp [Op.operands])
    exact Zu6 (Zaf ha hd) ho (by rw [e1]; exact hx) (by rw [e2]; exact hy) hr hp
theorem ZwN {b : UnOp} {t : TypeId} {x : Operand} {p r : Value} (hd : st.fits o.dst = true) (ho : o.op = .unOp b t x) (hx : (evA st x).val = some p)
    (hr : ZaU P (Op.unary b p) = some r) (hp : plain r = true) : PatchOK P w0 own ops o [] st ⟨o.dst, sc r, []⟩ :=
  .plain fun st' ha => by
    have e1 := ha.ev (x := x) (by rw [ho]; simp [Op.operands])
    exact Zxk (Zaf ha hd) ho (by rw [e1]; exact hx) hr hp
theorem Zli {t u : TypeId} {x : Operand} {p r : Value} (hd : st.fits o.dst = true) (ho : o.op = .convert t u x) (hx : (evA st x).val = some p)
    (hr : ZaU P (convert t u p) = some r) (hp : plain r = true) : PatchOK P w0 own ops o [] st ⟨o.dst, sc r, []⟩ :=
  .plain fun st' ha => by
    have e1 := ha.ev (x := x) (by rw [ho]; simp [Op.operands])
    exact Ztg (Zaf ha hd) ho (by rw [e1]; exact hx) hr hp
theorem Zrg {t : TypeId} {zs : List Value} (k : Nat) (hd : st.fits o.dst = true) (ho : o.op = .alloc t) (hz : Zd3 P t = some zs) (hp : zs.all plain = true)
    : PatchOK P w0 own ops o [k] st ⟨o.dst, .c (.rp k (st.gen k + 1) zs.length 0 0), [(k, some ⟨st.gen k + 1, true, zs.length, [zs.map fun x => .d (.v x)]⟩, st.gen k + 1)]⟩ :=
  .one fun st' ha => by
    have := Zrx (P := P) (w0 := w0) (own := own) k (Zaf ha hd) ho hz hp
    rw [Za8, ha.gen k (by simp)] at this
    exact this
theorem ZtL {t : TypeId} {x : Operand} {cs : List C} (k : Nat) (hd : st.fits o.dst = true) (ho : o.op = .box t x) (hx : (evA st x).cells = some cs) (hp : ZbB cs = true)
    : PatchOK P w0 own ops o [k] st ⟨o.dst, .c (.rp k (st.gen k + 1) cs.length 0 0), [(k, some ⟨st.gen k + 1, true, cs.length, [cs]⟩, st.gen k + 1)]⟩ :=
  .one fun st' ha => by
    have e1 := ha.ev (x := x) (by rw [ho]; simp [Op.operands])
    have := Zt6 (P := P) (w0 := w0) (own := own) k (Zaf ha hd) ho (by rw [e1]; exact hx) hp
    rw [Za8, ha.gen k (by simp)] at this
    exact this
theorem ZlO {t : TypeId} {x : Operand} {k g wd i j n : Nat} {R : Root} {r cs : List C} {ag : Bool} {y : A} (hd : st.fits o.dst = true) (ho : o.op = .load t x) (hx : evA st x = .c (.rp k g wd i j)) (hk : st.store k = some R) (hgw : R.tag = g ∧ R.wd = wd)
    (hr : R.rows[i]? = some r) (ha : aggT P t = some ag) (hn : szT P t = some n) (hs : seg r j n = some cs) (hy : mkA ag (cs.map C.lend) = some y) : PatchOK P w0 own ops o [k] st ⟨o.dst, y, []⟩ :=
  .reads fun st' hal => by
    have e1 := hal.ev (x := x) (by rw [ho]; simp [Op.operands])
    exact ZsC (Zaf hal hd) ho (e1.trans hx) ((hal.store k (by simp)).trans hk) hgw.1 hgw.2 hr ha hn hs hy
theorem ZqU {t : TypeId} {x : Operand} {tg off n : Nat} {cells cs : List D} {ag : Bool} {y : A} (hd : st.fits o.dst = true) (ho : o.op = .load t x) (hx : evA st x = .c (.d (.p tg cells off)))
    (ha : aggT P t = some ag) (hn : szT P t = some n) (hs : seg cells off n = some cs) (hy : mkA ag (cs.map (D.under tg)) = some y) : PatchOK P w0 own ops o [] st ⟨o.dst, y, []⟩ :=
  .plain fun st' hal => by
    have e1 := hal.ev (x := x) (by rw [ho]; simp [Op.operands])
    exact Zrh (Zaf hal hd) ho (e1.trans hx) ha hn hs hy
theorem ZjM {t ft : TypeId} {x : Operand} {f off n : Nat} {y z : A} (hd : st.fits o.dst = true) (ho : o.op = .fieldAddr t x f) (hx : evA st x = y) (hf : fldT P t f = some (off, ft)) (hn : szT P ft = some n) (h0 : n ≠ 0)
    (hz : y.ptrAdd off = some z) : PatchOK P w0 own ops o [] st ⟨o.dst, z, []⟩ :=
  .plain fun st' hal => by
    have e1 := hal.ev (x := x) (by rw [ho]; simp [Op.operands])
    exact Zjv (Zaf hal hd) ho (e1.trans hx) hf hn h0 hz
theorem Zer {t e : TypeId} {x ix : Operand} {n sz q : Nat} {u : Value} {y z : A} (hd : st.fits o.dst = true) (ho : o.op = .indexAddr t x ix) (hx : evA st x = y) (hix : evA st ix = sc u) (ht : arT P t = some (n, e)) (hs : szT P e = some sz) (hq : idx u n = some q)
    (hz : y.ptrAdd (q * sz) = some z) : PatchOK P w0 own ops o [] st ⟨o.dst, z, []⟩ :=
  .plain fun st' hal => by
    have e1 := hal.ev (x := x) (by rw [ho]; simp [Op.operands])
    have e2 := hal.ev (x := ix) (by rw [ho]; simp [Op.operands])
    exact Zl4 (Zaf hal hd) ho (e1.trans hx) (e2.trans hix) ht hs hq hz
theorem Zln {t e : TypeId} {x ix : Operand} {k g wd lo len kn q : Nat} {u : Value} (hd : st.fits o.dst = true) (ho : o.op = .indexAddr t x ix) (hx : evA st x = .c (.rs k g wd lo len kn)) (hix : evA st ix = sc u) (ht : elT P t = some e) (hs : szT P e = some wd) (hq : idx u len = some q)
    : PatchOK P w0 own ops o [] st ⟨o.dst, .c (.rp k g wd (lo + q) 0), []⟩ :=
  .plain fun st' hal => by
    have e1 := hal.ev (x := x) (by rw [ho]; simp [Op.operands])
    have e2 := hal.ev (x := ix) (by rw [ho]; simp [Op.operands])
    exact Zly (Zaf hal hd) ho (e1.trans hx) (e2.trans hix) ht hs hq
theorem Zhe {t e : TypeId} {x ix : Operand} {tg sz q : Nat} {rows spare : List (List D)} {r : List D} {u : Value} (hd : st.fits o.dst = true) (ho : o.op = .indexAddr t x ix) (hx : evA st x = .c (.d (.s tg sz rows spare))) (hix : evA st ix = sc u) (ht : elT P t = some e) (hs : szT P e = some sz) (hq : idx u rows.length = some q)
    (hr : rows[q]? = some r) : PatchOK P w0 own ops o [] st ⟨o.dst, .c (.d (.p tg r 0)), []⟩ :=
  .plain fun st' hal => by
    have e1 := hal.ev (x := x) (by rw [ho]; simp [Op.operands])
    have e2 := hal.ev (x := ix) (by rw [ho]; simp [Op.operands])
    exact Zpt (Zaf hal hd) ho (e1.trans hx) (e2.trans hix) ht hs hq hr
theorem Zk3 {x : Operand} {y : A} (hd : st.fits o.dst = true) (ho : o.op = .nilCheck x) (hx : evA st x = y) (hy : y.isPtr = true) : PatchOK P w0 own ops o [] st ⟨o.dst, y, []⟩ :=
  .plain fun st' hal => by
    have e1 := hal.ev (x := x) (by rw [ho]; simp [Op.operands])
    exact ZlM (Zaf hal hd) ho (e1.trans hx) hy
theorem ZnM {x : Operand} {i : Nat} {xs : List A} {y : A} (hd : st.fits o.dst = true) (ho : o.op = .extract x i) (hx : evA st x = .tup xs) (hy : xs[i]? = some y) : PatchOK P w0 own ops o [] st ⟨o.dst, y, []⟩ :=
  .plain fun st' hal => by
    have e1 := hal.ev (x := x) (by rw [ho]; simp [Op.operands])
    exact ZnG (Zaf hal hd) ho (e1.trans hx) hy
theorem Zf1 {t : TypeId} {x y : Operand} {k g wd i j : Nat} {R : Root} {r cs : List C} (hd : st.fits o.dst = true) (ho : o.op = .store t x y) (hx : evA st x = .c (.rp k g wd i j)) (hk : st.store k = some R) (hgw : R.tag = g ∧ R.wd = wd)
    (hr : R.rows[i]? = some r) (hy : (evA st y).cells = some cs) (hok : ZbB cs = true) (hn : szT P t = some cs.length) (hj : j + cs.length ≤ wd)
    : PatchOK P w0 own ops o [k] st ⟨o.dst, .dead, [(k, some { R with rows := R.rows.set i (splice r j cs) }, st.gen k)]⟩ :=
  .one fun st' hal => by
    have e1 := hal.ev (x := x) (by rw [ho]; simp [Op.operands])
    have e2 := hal.ev (x := y) (by rw [ho]; simp [Op.operands])
    have := Zq7 (P := P) (w0 := w0) (own := own) (Zaf hal hd) ho (e1.trans hx) ((hal.store k (by simp)).trans hk) hgw.1 hgw.2 hr (by rw [e2]; exact hy) hok hn hj
    rw [Zkj, hal.gen k (by simp)] at this
    exact this
theorem ZlF {f : FuncId} (hAG : f ≠ AG) {fst cap : List Operand} {cf cc : List C} (hd : st.fits o.dst = true) (ho : o.op = .makeFunc (.func f) fst.toArray cap.toArray) (h1 : ones st fst = some cf) (h2 : ones st cap = some cc) : PatchOK P w0 own ops o [] st ⟨o.dst, .c (.cf f cf cc), []⟩ :=
  .plain fun st' hal => by
    exact ZlW hAG (Zaf hal hd) ho (by rw [Zfe hal fst fun x hx => by rw [ho]; simp [Op.operands, hx]]; exact h1) (by rw [Zfe hal cap fun x hx => by rw [ho]; simp [Op.operands, hx]]; exact h2)
theorem Zqu {t ft : TypeId} {x : Operand} {f off n : Nat} {cs r : List C} {ag : Bool} {y : A} (hd : st.fits o.dst = true) (ho : o.op = .field t x f) (hx : evA st x = .agg cs) (hf : fldT P t f = some (off, ft)) (ha : aggT P ft = some ag) (hn : szT P ft = some n) (hr : seg cs off n = some r) (hy : mkA ag r = some y)
    : PatchOK P w0 own ops o [] st ⟨o.dst, y, []⟩ :=
  .plain fun st' hal => by
    have e1 := hal.ev (x := x) (by rw [ho]; simp [Op.operands])
    exact Zqn (Zaf hal hd) ho (e1.trans hx) hf ha hn hr hy
theorem ZmT {t e : TypeId} {x ix : Operand} {n sz q : Nat} {u : Value} {cs r : List C} {ag : Bool} {y : A} (hd : st.fits o.dst = true) (ho : o.op = .index t x ix) (hx : evA st x = .agg cs) (hix : evA st ix = sc u) (ht : arT P t = some (n, e)) (hq : idx u n = some q) (ha : aggT P e = some ag) (hn : szT P e = some sz)
    (hr : seg cs (q * sz) sz = some r) (hy : mkA ag r = some y) : PatchOK P w0 own ops o [] st ⟨o.dst, y, []⟩ :=
  .plain fun st' hal => by
    have e1 := hal.ev (x := x) (by rw [ho]; simp [Op.operands])
    have e2 := hal.ev (x := ix) (by rw [ho]; simp [Op.operands])
    exact Zrr (Zaf hal hd) ho (e1.trans hx) (e2.trans hix) ht hq ha hn hr hy
theorem Zqj {t : TypeId} {ps : List (Nat × Operand)} {zs : List Value} {out : List C} {fs : Array Field} (hd : st.fits o.dst = true) (ho : o.op = .build t ps.toArray) (hz : Zd3 P t = some zs) (hp : zs.all plain = true)
    (hf : Ze3 (ZgN P t) (zs.map fun x => .d (.v x)) (Zbz st ps) = some out) (hu : P.underlying t = some (.struct fs)) (hsome : ∀ f ∈ fs.toList, (szT P f.type).isSome = true) : PatchOK P w0 own ops o [] st ⟨o.dst, .agg out, []⟩ :=
  .plain fun st' hal => by
    exact Zqi (Zaf hal hd) ho hz hp (by rw [Zb5 hal ps fun p hp => by rw [ho]; simp only [Op.operands]; simp; exact ⟨p.1, hp⟩]; exact hf) hu hsome
theorem ZlQ {t e : TypeId} {n sz : Nat} {ps : List (Nat × Operand)} {zs : List Value} {out : List C} (hd : st.fits o.dst = true) (ho : o.op = .build t ps.toArray) (hz : Zd3 P t = some zs) (hp : zs.all plain = true) (ht : arT P t = some (n, e)) (hsz : szT P e = some sz)
    (hf : Ze3 (fun i => some (i * sz, sz)) (zs.map fun x => .d (.v x)) (Zbz st ps) = some out) : PatchOK P w0 own ops o [] st ⟨o.dst, .agg out, []⟩ :=
  .plain fun st' hal => by
    exact Zlq (Zaf hal hd) ho hz hp ht hsz (by rw [Zb5 hal ps fun p hp => by rw [ho]; simp only [Op.operands]; simp; exact ⟨p.1, hp⟩]; exact hf)
end

section
open Go
variable {P : Program} {w0 : World} {own : Nat → Prop} {γ : Gh} {st : St} {a : Act} {w : World}
variable {ops : Array Oper} {o : Oper}
def Zcy (σ : Nat → Option Root) : Nat → C → List Nat
  | 0, _ => []
  | _ + 1, .d _ => []
  | n + 1, .rs k _ _ _ _ _ => k :: (match σ k with | some R => (match R.box with | true => R.rows.flatMap fun r => r.flatMap (Zcy σ n) | false => []) | none => [])
  | n + 1, .rp k _ _ i _ => k :: (match σ k with | some R => ((R.rows[i]?).getD []).flatMap (Zcy σ n) | none => [])
  | n + 1, .cf _ fs cs => fs.flatMap (Zcy σ n) ++ cs.flatMap (Zcy σ n)
  | _ + 1, .non => []
def Zt2 (σ : Nat → Option Root) (n : Nat) : A → List Nat
  | .c y => Zcy σ n y
  | .agg cs => cs.flatMap (Zcy σ n)
  | _ => []
inductive XRoot where
  | bx (tag wd : Nat) (row : List C)
  | sl (tag wd : Nat) (rows : List (List D))
  | fo (tag wd : Nat) (rows : List (List D)) (i : Nat) (row : List C)
  deriving Inhabited
def XRoot.root : XRoot → Root
  | .bx t wd row => ⟨t, true, wd, [row]⟩
  | .sl t wd rows => ⟨t, false, wd, emb rows⟩
  | .fo t wd rows i row => ⟨t, false, wd, (emb rows).set i row⟩
abbrev Ups := List (Nat × Option XRoot × Nat)
def toU (u : Ups) : List (Nat × Option Root × Nat) := u.map fun (k, R, g) => (k, R.map XRoot.root, g)
theorem Zcu (u : Ups) : Zbo (toU u) = u.map (·.1) := by
  simp [Zbo, toU, List.map_map, Function.comp_def]
def upD (gen : Nat → Nat) (k : Nat) (d : D) : Ups × C :=
  match d with
  | .s 1 z rows sp => ([(k, some (.sl (gen k + 1) z (rows ++ sp)), gen k + 1)], .rs k (gen k + 1) z 0 rows.length (rows.length + sp.length))
  | d => ([], .d d)
def upL (gen : Nat → Nat) (k : Nat) : List D → Ups × List C
  | [] => ([], [])
  | d :: l => ((upD gen k d).1 ++ (upL gen (k + 1) l).1, (upD gen k d).2 :: (upL gen (k + 1) l).2)
def upV1 (gen : Nat → Nat) (k : Nat) : DV → Ups × A
  | .c d => ((upD gen k d).1, .c (upD gen k d).2)
  | .agg xs => ((upL gen k xs).1, .agg (upL gen k xs).2)
  | .tup _ => ([], .dead)
def upT (gen : Nat → Nat) (k : Nat) : List DV → Ups × List A
  | [] => ([], [])
  | d :: l => ((upV1 gen k d).1 ++ (upT gen (k + 32) l).1, (upV1 gen k d).2 :: (upT gen (k + 32) l).2)
def upV (gen : Nat → Nat) (k : Nat) : DV → Ups × A
  | .tup xs => ((upT gen k xs).1, .tup (upT gen k xs).2)
  | d => upV1 gen k d
def DV.width : DV → Nat
  | .c _ => 1
  | .agg xs => xs.length
  | .tup _ => 0
def DV.fit32 : DV → Bool
  | .tup xs => xs.all fun d => decide (d.width ≤ 32)
  | _ => true
def St.ups (st : St) (u : Ups) : St := st.patch ⟨none, .dead, toU u⟩
theorem ZdN (u v : List (Nat × Option Root × Nat)) (i : Nat) : Za4 (u ++ v) i = (Za4 u i).or (Za4 v i) := by
  induction u with
  | nil => simp [Za4]
  | cons p u ih =>
    obtain ⟨k, x⟩ := p
    simp only [List.cons_append, Za4]
    split
    · simp
    · exact ih
theorem Zg3 (st : St) : st.ups [] = st := by simp [St.ups, St.patch, toU, Za4]
theorem ZhJ (st : St) (u v : Ups) (h : ∀ k, k ∈ u.map (·.1) → k ∉ v.map (·.1)) : (st.ups u).ups v = st.ups (u ++ v) := by
  have key : ∀ i, Za4 (toU u) i = none ∨ Za4 (toU v) i = none := fun i => by
    by_cases hi : i ∈ Zbo (toU u)
    · exact .inr (ZbJ _ _ (by rw [Zcu]; rw [Zcu] at hi; exact h i hi))
    · exact .inl (ZbJ _ _ hi)
  simp only [St.ups, St.patch]
  have e : toU (u ++ v) = toU u ++ toU v := by simp [toU]
  rw [e]
  simp only [ZdN]
  congr 1
  · funext i
    rcases key i with h | h
    · simp [h]
    · rw [h]; cases Za4 (toU u) i <;> rfl
  · funext i
    rcases key i with h | h
    · simp [h]
    · rw [h]; cases Za4 (toU u) i <;> rfl
theorem Zqa (st : St) (u : Ups) (i : Nat) (h : i ∉ u.map (·.1)) : (st.ups u).gen i = st.gen i := by
  simp only [St.ups, St.patch]
  rw [ZbJ _ _ (by rw [Zcu]; exact h)]
theorem ZfY (gen : Nat → Nat) (k : Nat) (d : D) (i : Nat) (h : i ∈ (upD gen k d).1.map (·.1)) : i = k := by
  unfold upD at h
  split at h
  · simpa using h
  · simp at h
theorem Zf3 (gen : Nat → Nat) : ∀ (l : List D) (k i : Nat), i ∈ (upL gen k l).1.map (·.1) → k ≤ i ∧ i < k + l.length
  | [], k, i, h => by simp [upL] at h
  | d :: l, k, i, h => by
    simp only [upL, List.map_append, List.mem_append] at h
    rcases h with h | h
    · have := ZfY gen k d i h
      simp; omega
    · have := Zf3 gen l (k + 1) i h
      simp; omega
theorem ZgG (gen : Nat → Nat) (d : DV) (k i : Nat) (h : i ∈ (upV1 gen k d).1.map (·.1)) : k ≤ i ∧ i < k + d.width := by
  cases d with
  | c d => have := ZfY gen k d i h; simp [DV.width]; omega
  | agg xs => exact Zf3 gen xs k i h
  | tup _ => simp [upV1] at h
theorem ZiX (gen : Nat → Nat) : ∀ (l : List DV) (k i : Nat), i ∈ (upT gen k l).1.map (·.1) → k ≤ i
  | [], k, i, h => by simp [upT] at h
  | d :: l, k, i, h => by
    simp only [upT, List.map_append, List.mem_append] at h
    rcases h with h | h
    · exact (ZgG gen d k i h).1
    · have := ZiX gen l (k + 32) i h; omega
theorem ZkM {gen gen' : Nat → Nat} {k : Nat} {d : D} (h : ∀ i ∈ (upD gen k d).1.map (·.1), gen' i = gen i) : upD gen' k d = upD gen k d := by
  unfold upD at h ⊢
  split
  · simp at h; rw [h]
  · rfl
theorem ZgQ {gen gen' : Nat → Nat} : ∀ (l : List D) (k : Nat), (∀ i ∈ (upL gen k l).1.map (·.1), gen' i = gen i) → upL gen' k l = upL gen k l
  | [], _, _ => rfl
  | d :: l, k, h => by
    simp only [upL, List.map_append, List.mem_append] at h ⊢
    rw [ZkM fun i hi => h i (.inl hi), ZgQ l (k + 1) fun i hi => h i (.inr hi)]
theorem Ze1 {gen gen' : Nat → Nat} {k : Nat} {d : DV} (h : ∀ i ∈ (upV1 gen k d).1.map (·.1), gen' i = gen i) : upV1 gen' k d = upV1 gen k d := by
  cases d with
  | c d => simp only [upV1] at h ⊢; rw [ZkM h]
  | agg xs => simp only [upV1] at h ⊢; rw [ZgQ xs k h]
  | tup _ => rfl
theorem ZgY {gen gen' : Nat → Nat} : ∀ (l : List DV) (k : Nat), (∀ i ∈ (upT gen k l).1.map (·.1), gen' i = gen i) → upT gen' k l = upT gen k l
  | [], _, _ => rfl
  | d :: l, k, h => by
    simp only [upT, List.map_append, List.mem_append] at h ⊢
    rw [Ze1 fun i hi => h i (.inl hi), ZgY l (k + 32) fun i hi => h i (.inr hi)]
theorem Zgt {gen gen' : Nat → Nat} {k : Nat} {d : DV} (h : ∀ i ∈ (upV gen k d).1.map (·.1), gen' i = gen i) : upV gen' k d = upV gen k d := by
  cases d with
  | tup xs => simp only [upV] at h ⊢; rw [ZgY xs k h]
  | c d => exact Ze1 h
  | agg xs => exact Ze1 h
theorem ZoF (gen : Nat → Nat) (k : Nat) (d : D) (h : ∀ z rows sp, d ≠ .s 1 z rows sp) : upD gen k d = ([], .d d) := by
  unfold upD
  split
  · exact (h _ _ _ rfl).elim
  · rfl
theorem ZnY (st : St) (k : Nat) (d : D) (h : ∀ z rows sp, d ≠ .s 1 z rows sp) : matD st k d = (st, .d d) := by
  unfold matD
  split
  · exact (h _ _ _ rfl).elim
  · rfl
theorem Zpu (st : St) (k : Nat) (d : D) : matD st k d = (st.ups (upD st.gen k d).1, (upD st.gen k d).2) := by
  by_cases h : ∃ z rows sp, d = .s 1 z rows sp
  · obtain ⟨z, rows, sp, rfl⟩ := h
    have := Za8 st none .dead k false z (emb (rows ++ sp))
    simp only [St.put] at this
    show (st.root k false z (emb (rows ++ sp)), _) = _
    rw [this]
    rfl
  · have h' : ∀ z rows sp, d ≠ .s 1 z rows sp := fun z rows sp e => h ⟨z, rows, sp, e⟩
    rw [ZnY _ _ _ h', ZoF _ _ _ h', Zg3]
theorem Zqf : ∀ (l : List D) (st : St) (k : Nat), matL st k l = (st.ups (upL st.gen k l).1, (upL st.gen k l).2)
  | [], st, k => by simp [matL, upL, Zg3]
  | d :: l, st, k => by
    simp only [matL, Zpu, upL]
    have e : upL (st.ups (upD st.gen k d).1).gen (k + 1) l = upL st.gen (k + 1) l := ZgQ l (k + 1) fun i hi => by
      refine Zqa st _ i fun hk => ?_
      have := ZfY _ _ _ _ hk
      have := Zf3 _ _ _ _ hi
      omega
    rw [Zqf l, e, ZhJ _ _ _ fun i hi hi' => by
      have := ZfY _ _ _ _ hi
      have := Zf3 _ _ _ _ hi'
      omega]
theorem Zin (st : St) (k : Nat) (d : DV) : ZgH st k d = (st.ups (upV1 st.gen k d).1, (upV1 st.gen k d).2) := by
  cases d with
  | c d => simp only [ZgH, Zpu, upV1]
  | agg xs => simp only [ZgH, Zqf, upV1]
  | tup _ => simp only [ZgH, upV1, Zg3]
theorem Zmv : ∀ (l : List DV) (st : St) (k : Nat), (l.all fun d => decide (d.width ≤ 32)) = true → matT st k l = (st.ups (upT st.gen k l).1, (upT st.gen k l).2)
  | [], st, k, _ => by simp [matT, upT, Zg3]
  | d :: l, st, k, h => by
    simp only [List.all_cons, Bool.and_eq_true, decide_eq_true_eq] at h
    simp only [matT, Zin, upT]
    have e : upT (st.ups (upV1 st.gen k d).1).gen (k + 32) l = upT st.gen (k + 32) l := ZgY l (k + 32) fun i hi => by
      refine Zqa st _ i fun hk => ?_
      have := ZgG _ _ _ _ hk
      have := ZiX _ _ _ _ hi
      omega
    rw [Zmv l _ _ h.2, e, ZhJ _ _ _ fun i hi hi' => by
      have := ZgG _ _ _ _ hi
      have := ZiX _ _ _ _ hi'
      omega]
theorem Zl9 (st : St) (k : Nat) (d : DV) (h : d.fit32 = true) : matV st k d = (st.ups (upV st.gen k d).1, (upV st.gen k d).2) := by
  cases d with
  | c d => exact Zin st k (.c d)
  | agg xs => exact Zin st k (.agg xs)
  | tup xs => simp only [matV, Zmv xs st k h, upV]
theorem Zll (st : St) (u : Ups) (d : Option Nat) (y : A) : (st.ups u).put d y = st.patch ⟨d, y, toU u⟩ := by
  rw [ZbC]
  simp only [St.ups, St.patch, Za4]
  congr 1
end

section
open Go
variable {P : Program} {w0 : World} {own : Nat → Prop} {γ : Gh} {st : St} {a : Act} {w : World}
variable {ops : Array Oper} {o : Oper}
def Zar {α : Type} : List (Nat × α) → Nat → Option α
  | [], _ => none
  | (k, v) :: l, i => match Nat.beq k i with | true => some v | false => Zar l i
def setN {α : Type} : List (Nat × α) → Nat → α → List (Nat × α)
  | [], i, v => [(i, v)]
  | (k, u) :: l, i, v => match Nat.beq k i with | true => (k, v) :: l | false => (k, u) :: setN l i v
def delN {α : Type} : List (Nat × α) → Nat → List (Nat × α)
  | [], _ => []
  | (k, u) :: l, i => match Nat.beq k i with | true => delN l i | false => (k, u) :: delN l i
theorem Zaa {k i : Nat} (h : Nat.beq k i = true) : k = i := Nat.eq_of_beq_eq_true h
theorem Zbi {k i : Nat} (h : Nat.beq k i = false) : k ≠ i := Nat.ne_of_beq_eq_false h
theorem Zbm (k : Nat) : Nat.beq k k = true := Nat.beq_refl k
theorem ZkT {k i : Nat} (h : k ≠ i) : Nat.beq k i = false := by
  cases e : Nat.beq k i
  · rfl
  · exact (h (Zaa e)).elim
theorem Zci {α : Type} (l : List (Nat × α)) (i : Nat) (v : α) (j : Nat) : Zar (setN l i v) j = if j = i then some v else Zar l j := by
  induction l with
  | nil =>
    simp only [setN, Zar]
    by_cases h : j = i
    · subst h; simp [Zbm]
    · simp [ZkT (Ne.symm h), h]
  | cons p l ih =>
    obtain ⟨k, u⟩ := p
    simp only [setN]
    cases e : Nat.beq k i with
    | true =>
      have := Zaa e; subst this
      simp only [Zar]
      by_cases h : j = k
      · subst h; simp [Zbm]
      · simp [ZkT (Ne.symm h), h]
    | false =>
      have hk := Zbi e
      simp only [Zar]
      cases e2 : Nat.beq k j with
      | true => have := Zaa e2; subst this; simp [hk]
      | false => simp only [ih]
theorem ZhK {α : Type} (l : List (Nat × α)) (i : Nat) (j : Nat) : Zar (delN l i) j = if j = i then none else Zar l j := by
  induction l with
  | nil => simp [delN, Zar]
  | cons p l ih =>
    obtain ⟨k, u⟩ := p
    simp only [delN]
    cases e : Nat.beq k i with
    | true =>
      have := Zaa e; subst this
      simp only [ih, Zar]
      by_cases h : j = k
      · simp [h]
      · simp [ZkT (Ne.symm h), h]
    | false =>
      have hk := Zbi e
      simp only [Zar]
      cases e2 : Nat.beq k j with
      | true => have := Zaa e2; subst this; simp [hk]
      | false => simp only [ih]
structure X where
  tmps : List A
  store : List (Nat × XRoot)
  gens : List (Nat × Nat)
  gs : List A := []
def X.gen (x : X) (k : Nat) : Nat := (Zar x.gens k).getD 0
def X.S (x : X) : St := { n := x.tmps.length, lvl := 0, tmps := fun i => x.tmps.getD i .dead, store := fun k => (Zar x.store k).map XRoot.root, gen := x.gen, gs := fun i => x.gs.getD i .dead }
def X.up1 (x : X) (k : Nat) (R : Option XRoot) (g : Nat) : X :=
  { x with
    store := match R with | some R => setN x.store k R | none => delN x.store k
    gens := match Nat.beq (x.gen k) g with | true => x.gens | false => setN x.gens k g }
def X.ups (x : X) : Ups → X
  | [] => x
  | (k, R, g) :: l => (x.ups l).up1 k R g
def X.put (x : X) (d : Option Nat) (y : A) : X := match d with | some d => { x with tmps := x.tmps.set d y } | none => x
structure XP where
  val : A
  ups : Ups
def X.patch (x : X) (d : Option Nat) (p : XP) : X := (x.ups p.ups).put d p.val
def XP.patch (p : XP) (d : Option Nat) : Patch := ⟨d, p.val, toU p.ups⟩
theorem ZsY (x : X) (k : Nat) (R : Option XRoot) (g : Nat) : (x.up1 k R g).S = { x.S with store := fun i => if i = k then R.map XRoot.root else x.S.store i, gen := fun i => if i = k then g else x.S.gen i } := by
  have h1 : (fun i => (Zar (match R with | some R => setN x.store k R | none => delN x.store k) i).map XRoot.root) = fun i => if i = k then R.map XRoot.root else (Zar x.store i).map XRoot.root := by
    funext i
    cases R with
    | none => simp only [ZhK]; split <;> rfl
    | some R => simp only [Zci]; split <;> rfl
  have h2 : (fun i => (Zar (match Nat.beq (x.gen k) g with | true => x.gens | false => setN x.gens k g) i).getD 0) = fun i => if i = k then g else x.gen i := by
    funext i
    cases e : Nat.beq (x.gen k) g with
    | true =>
      have := Zaa e
      simp only
      split
      · rename_i hi; subst hi; exact this
      · rfl
    | false =>
      simp only [Zci]
      split
      · rfl
      · rfl
  unfold X.S X.up1
  simp only
  congr 1
theorem ZrK (x : X) : ∀ u : Ups, (x.ups u).S = x.S.ups u
  | [] => by simp [X.ups, Zg3]
  | (k, R, g) :: l => by
    simp only [X.ups, ZsY, ZrK x l]
    simp only [St.ups, St.patch, toU, List.map_cons, Za4]
    congr 1
    · funext i; split
      · rename_i h; simp [h]
      · rename_i h; simp [h]
    · funext i; split
      · rename_i h; simp [h]
      · rename_i h; simp [h]
theorem Zrb (l : List A) (d : Nat) (y : A) (i : Nat) (hd : d < l.length) : (l.set d y).getD i .dead = if some d = some i then y else l.getD i .dead := by
  simp only [List.getD_eq_getElem?_getD, List.getElem?_set]
  by_cases h : d = i
  · subst h; simp [hd]
  · simp [h]
theorem Ztv (x : X) (d : Option Nat) (y : A) (hd : x.S.fits d = true) : (x.put d y).S = x.S.patch ⟨d, y, []⟩ := by
  cases d with
  | none => simp [X.put, St.patch, Za4, X.S]
  | some d =>
    have hd' : d < x.tmps.length := by simpa [St.fits, X.S] using hd
    simp only [X.put, St.patch, X.S, Za4, List.length_set]
    congr 1
    funext i
    rw [Zrb _ _ _ _ hd']
theorem Zk8 (x : X) (d : Option Nat) (p : XP) (hd : x.S.fits d = true) : (x.patch d p).S = x.S.patch (p.patch d) := by
  have e : (x.ups p.ups).S.fits d = true := by
    rw [ZrK]; cases d <;> simp_all [St.fits, St.ups, St.patch]
  unfold X.patch
  rw [Ztv _ _ _ e, ZrK]
  simp only [XP.patch, St.ups, St.patch, Za4]
  congr 1
mutual
def C.norm (g : Nat → Nat) : C → C
  | .rs k t wd lo len kn => match Nat.beq t (g k) with | true => .rs k 0 wd lo len kn | false => .non
  | .rp k t wd i j => match Nat.beq t (g k) with | true => .rp k 0 wd i j | false => .non
  | .cf fn fs cs => .cf fn (Zih g fs) (Zih g cs)
  | .d x => .d x
  | .non => .non
def Zih (g : Nat → Nat) : List C → List C
  | [] => []
  | c :: l => C.norm g c :: Zih g l
end
theorem ZcQ (g : Nat → Nat) : ∀ l : List C, Zih g l = l.map (C.norm g)
  | [] => by simp [Zih]
  | c :: l => by simp [Zih, ZcQ g l]
mutual
def A.norm (g : Nat → Nat) : A → A
  | .dead => .dead
  | .c x => .c (x.norm g)
  | .agg xs => .agg (Zih g xs)
  | .tup xs => .tup (Zee g xs)
  | .bb q => .bb q
  | .rx k t wd lo len cap => match Nat.beq t (g k) with | true => .rx k 0 wd lo len cap | false => .dead
def Zee (g : Nat → Nat) : List A → List A
  | [] => []
  | c :: l => A.norm g c :: Zee g l
end
theorem ZdC (g : Nat → Nat) : ∀ l : List A, Zee g l = l.map (A.norm g)
  | [] => by simp [Zee]
  | c :: l => by simp [Zee, ZdC g l]
def XRoot.cur (g : Nat → Nat) (k : Nat) : XRoot → Bool
  | .bx t _ _ => Nat.beq t (g k)
  | .sl t _ _ => Nat.beq t (g k)
  | .fo t _ _ _ _ => Nat.beq t (g k)
def XRoot.norm (g : Nat → Nat) : XRoot → XRoot
  | .bx _ wd row => .bx 0 wd (Zih g row)
  | .sl _ wd rows => .sl 0 wd rows
  | .fo _ wd rows i row => .fo 0 wd rows i (Zih g row)
def curS (g : Nat → Nat) : List (Nat × XRoot) → Bool
  | [] => true
  | (k, R) :: l => R.cur g k && curS g l
def ZkZ (g : Nat → Nat) : List (Nat × XRoot) → List (Nat × XRoot)
  | [] => []
  | (k, R) :: l => (k, R.norm g) :: ZkZ g l
def X.norm (x : X) : X :=
  match x.gens with
  | [] => x
  | _ => match curS x.gen x.store with
    | true => { tmps := Zee x.gen x.tmps, store := ZkZ x.gen x.store, gens := [], gs := Zee x.gen x.gs }
    | false => x
def Gh.anew (γ : Gh) : Gh := { γ with β := fun k g => match g with | 0 => γ.β k (γ.gen k) | _ => none, gen := fun _ => 0 }
theorem Ztn (γ : Gh) (b : Bool) : γ.anew.at b = γ.at b := by cases b <;> rfl
theorem CR.anew {v : Value} {c : C} (h : CR γ w v c) : CR γ.anew w v (c.norm γ.gen) := by
  induction h with
  | d v x h => simp only [C.norm]; exact .d v x (by rw [Ztn]; exact h)
  | rs k g wd lo len kn cap b E n h1 h2 h3 h4 h5 h6 =>
    simp only [C.norm]
    split
    · rename_i e
      have := Zaa e; subst this
      exact .rs k 0 wd lo len kn cap b E n (Nat.zero_le _) h2 h3 h4 h5 h6
    · exact .non _
  | rn a k g wd h1 h2 =>
    simp only [C.norm]
    split
    · rename_i e
      have := Zaa e; subst this
      exact .rn a k 0 wd (Nat.zero_le _) h2
    · exact .non _
  | rp k g wd i j b h1 h2 =>
    simp only [C.norm]
    split
    · rename_i e
      have := Zaa e; subst this
      exact .rp k 0 wd i j b (Nat.zero_le _) h2
    · exact .non _
  | ca cells vs h1 _ ih =>
    simp only [C.norm, ZcQ, List.map_nil]
    refine .ca _ vs (by simpa using h1) fun i c hc => ?_
    rw [List.getElem?_map] at hc
    obtain ⟨c0, h0, rfl⟩ := Option.map_eq_some_iff.1 hc
    exact ih i c0 h0
  | cf fn first caps fv cv h0 h1 h2 _ _ i1 i2 =>
    simp only [C.norm, ZcQ]
    refine .cf fn _ _ fv cv h0 (by simpa using h1) (by simpa using h2) (fun i c hc => ?_) (fun i c hc => ?_)
    · rw [List.getElem?_map] at hc
      obtain ⟨c0, h0, rfl⟩ := Option.map_eq_some_iff.1 hc
      exact i1 i c0 h0
    · rw [List.getElem?_map] at hc
      obtain ⟨c0, h0, rfl⟩ := Option.map_eq_some_iff.1 hc
      exact i2 i c0 h0
  | non v => simp only [C.norm]; exact .non v
theorem AR.anew {v : Value} {c : A} (h : AR γ w v c) : AR γ.anew w v (c.norm γ.gen) := by
  induction h with
  | dead v => simp only [A.norm]; exact .dead v
  | c v x h => simp only [A.norm]; exact .c v _ h.anew
  | agg vs xs h1 h2 =>
    simp only [A.norm, ZcQ]
    refine .agg vs _ (by simpa using h1) fun i c hc => ?_
    rw [List.getElem?_map] at hc
    obtain ⟨c0, h0, rfl⟩ := Option.map_eq_some_iff.1 hc
    exact (h2 i c0 h0).anew
  | tup vs xs h1 _ ih =>
    simp only [A.norm, ZdC]
    refine .tup vs _ (by simpa using h1) fun i c hc => ?_
    rw [List.getElem?_map] at hc
    obtain ⟨c0, h0, rfl⟩ := Option.map_eq_some_iff.1 hc
    exact ih i c0 h0
  | bb b q h => simp only [A.norm]; exact .bb b q h
  | rx k g wd lo len cap b E n h1 h2 h3 h4 h5 =>
    simp only [A.norm]
    split
    · rename_i e
      have := Zaa e; subst this
      exact .rx k 0 wd lo len cap b E n (Nat.zero_le _) h2 h3 h4 h5
    · exact .dead _
theorem SR.anew {v : Value} {c : C} {S : Nat → Prop} (h : SR γ w v c S) : SR γ.anew w v (c.norm γ.gen) S := by
  unfold SR at h
  split at h
  · simp only [C.norm]
    exact h
  · rename_i hne
    have h2 := h.anew
    unfold SR
    split
    · rename_i z rows spare e
      cases c with
      | d x => simp only [C.norm] at e; exact (hne _ _ _ e).elim
      | rs => simp only [C.norm] at e; split at e <;> cases e
      | rp => simp only [C.norm] at e; split at e <;> cases e
      | cf => simp only [C.norm] at e; cases e
      | non => simp only [C.norm] at e; cases e
    · exact h2
theorem ZhZ (g : Nat → Nat) : ∀ (l : List (Nat × XRoot)) (k : Nat), Zar (ZkZ g l) k = (Zar l k).map (XRoot.norm g)
  | [], k => rfl
  | (k', R0) :: l, k => by
    simp only [ZkZ, Zar]
    split
    · rfl
    · exact ZhZ g l k
theorem Zj7 (g : Nat → Nat) : ∀ (l : List (Nat × XRoot)) (k : Nat) (R : XRoot), curS g l = true → Zar l k = some R → R.cur g k = true
  | [], k, R, _, h => by simp [Zar] at h
  | (k', R0) :: l, k, R, hc, h => by
    simp only [curS, Bool.and_eq_true] at hc
    simp only [Zar] at h
    split at h
    · rename_i e
      have := Zaa e; subst this
      cases h; exact hc.1
    · exact Zj7 g l k R hc.2 h
theorem Zsx {g : Nat → Nat} {k : Nat} {R : XRoot} (h : R.cur g k = true) : R.root.tag = g k := by
  cases R <;> exact Zaa h
theorem ZmB {g : Nat → Nat} {R : XRoot} : (R.norm g).root.tag = 0 := by cases R <;> rfl
theorem ZlX {g : Nat → Nat} {R : XRoot} : (R.norm g).root.wd = R.root.wd := by cases R <;> rfl
theorem ZeW {g : Nat → Nat} {R : XRoot} : (R.norm g).root.rows = R.root.rows.map fun r => r.map (C.norm g) := by
  cases R with
  | bx t wd row => simp [XRoot.norm, XRoot.root, ZcQ]
  | sl t wd rows => simp [XRoot.norm, XRoot.root, emb, Function.comp_def, C.norm]
  | fo t wd rows i row => simp [XRoot.norm, XRoot.root, emb, Function.comp_def, C.norm, List.map_set, ZcQ]
theorem Rel.anew {x : X} (h : Rel w0 own γ x.S a w) (hc : curS x.gen x.store = true) : Rel w0 own γ.anew { tmps := Zee x.gen x.tmps, store := ZkZ x.gen x.store, gens := [], gs := Zee x.gen x.gs : X }.S a w := by
  have hg : γ.gen = x.gen := h.gen
  have old : ∀ k R, ({ tmps := Zee x.gen x.tmps, store := ZkZ x.gen x.store, gens := [], gs := Zee x.gen x.gs : X }.S).store k = some R → ∃ R0 : XRoot, x.S.store k = some R0.root ∧ R = (R0.norm x.gen).root ∧ R0.root.tag = x.gen k := by
    intro k R hk
    simp only [X.S, ZhZ] at hk
    cases hl : Zar x.store k with
    | none => rw [hl] at hk; cases hk
    | some R0 =>
      rw [hl] at hk
      cases hk
      exact ⟨R0, by simp [X.S, hl], rfl, Zsx (Zj7 _ _ _ _ hc hl)⟩
  have hβ : ∀ k (R0 : XRoot), R0.root.tag = x.gen k → γ.anew.β k (R0.norm x.gen).root.tag = γ.β k R0.root.tag := by
    intro k R0 ht
    rw [ZmB, ht, ← hg]; rfl
  refine { env := h.env, size := by rw [h.size]; simp [X.S, ZdC], defers := h.defers, tmps := fun i => ?_, ghost := fun i => ?_, gen := by funext k; rfl, tag := fun k R hk => ?_, mem := fun k R hk => ?_, inj := fun k R k' R' b hk hk' h1 h2 => ?_, rootF := fun k R b hk h1 => ?_, fpF := h.fpF, fpD := h.fpD, fs := h.fs, lt := h.lt, ltβ := fun k g b hg' hb => ?_ }
  · have := (h.tmps i).anew
    rw [hg] at this
    have e : (({ tmps := Zee x.gen x.tmps, store := ZkZ x.gen x.store, gens := [], gs := Zee x.gen x.gs : X }.S).tmps i) = (x.S.tmps i).norm x.gen := by
      simp only [X.S, ZdC, List.getD_eq_getElem?_getD, List.getElem?_map]
      cases x.tmps[i]? <;> simp [A.norm]
    rw [e]; exact this
  · have := (h.ghost i).anew
    rw [hg] at this
    have e : (({ tmps := Zee x.gen x.tmps, store := ZkZ x.gen x.store, gens := [], gs := Zee x.gen x.gs : X }.S).gs i) = (x.S.gs i).norm x.gen := by
      simp only [X.S, ZdC, List.getD_eq_getElem?_getD, List.getElem?_map]
      cases x.gs[i]? <;> simp [A.norm]
    rw [e]; exact this
  · obtain ⟨R0, _, rfl, _⟩ := old k R hk
    rw [ZmB]; exact Nat.zero_le _
  · obtain ⟨R0, h0, rfl, ht⟩ := old k R hk
    have hm := h.mem k _ h0
    unfold RootOK at hm ⊢
    rw [hβ k R0 ht]
    cases hb : γ.β k R0.root.tag with
    | none => rw [hb] at hm; simp only at hm ⊢; rw [ZeW, hm]; rfl
    | some b =>
      rw [hb] at hm
      obtain ⟨arr, E, q1, q2, q3, q4⟩ := hm
      refine ⟨arr, E, q1, ?_, ?_, ?_⟩
      · intro r hr
        rw [ZeW] at hr
        obtain ⟨r0, hr0, rfl⟩ := List.mem_map.1 hr
        rw [ZlX]; simpa using q2 r0 hr0
      · rw [ZeW, ZlX]; simpa using q3
      · intro i j r c hr hcc
        rw [ZeW, List.getElem?_map] at hr
        obtain ⟨r0, hr0, rfl⟩ := Option.map_eq_some_iff.1 hr
        rw [List.getElem?_map] at hcc
        obtain ⟨c0, hc0, rfl⟩ := Option.map_eq_some_iff.1 hcc
        rw [ZlX, ← hg]
        exact (q4 i j r0 c0 hr0 hc0).anew
  · obtain ⟨R0, h0, rfl, ht⟩ := old k R hk
    obtain ⟨R0', h0', rfl, ht'⟩ := old k' R' hk'
    rw [hβ k R0 ht] at h1
    rw [hβ k' R0' ht'] at h2
    exact h.inj k _ k' _ b h0 h0' h1 h2
  · obtain ⟨R0, h0, rfl, ht⟩ := old k R hk
    rw [hβ k R0 ht] at h1
    exact h.rootF k _ b h0 h1
  · have : g = 0 := Nat.le_zero.1 hg'
    subst this
    exact h.ltβ k (γ.gen k) b (Nat.le_refl _) hb
theorem Rel.norm {x : X} (h : Rel w0 own γ x.S a w) : ∃ γ', γ'.F0 = γ.F0 ∧ Rel w0 own γ' x.norm.S a w := by
  unfold X.norm
  split
  · exact ⟨γ, rfl, h⟩
  · split
    · rename_i hc; exact ⟨γ.anew, rfl, h.anew hc⟩
    · exact ⟨γ, rfl, h⟩
end

section
open Go
variable {P : Program} {o : Oper} {x : X}
abbrev KO := List Nat → XP → X → Prop
def Za6 (P : Program) (o : Oper) (x : X) (F : KO → Prop) : Prop :=
  ∀ K : KO, F K → x.S.fits o.dst = true → ∃ Ks p, K Ks p x ∧ ∀ w0 own ops, PatchOK P w0 own ops o Ks x.S (p.patch o.dst)
def evB (x : X) (c : Operand) (K : Bool → X → Prop) : Prop :=
  match c with
  | .tmp t => match x.tmps.getD t .dead with
    | .c (.d (.v (.bool b))) => cond b (K true { x with tmps := x.tmps.set t (sc (.bool true)) }) (K false { x with tmps := x.tmps.set t (sc (.bool false)) })
    | _ => False
  | .const (.bool b) => K b x
  | _ => False
theorem ZmY (l : List A) (t : Nat) (y : A) (h : l.getD t .dead = y) : l.set t y = l := by
  apply List.ext_getElem?
  intro i
  rw [List.getElem?_set]
  by_cases e : t = i
  · subst e
    simp only [if_true]
    by_cases hl : t < l.length
    · rw [if_pos hl, ← h]; simp [List.getD_eq_getElem?_getD, hl]
    · rw [if_neg hl, List.getElem?_eq_none (by omega)]
  · rw [if_neg e]
theorem Ziu {c : Operand} {K : Bool → X → Prop} (h : evB x c K) : ∃ b, evA x.S c = sc (.bool b) ∧ K b x := by
  unfold evB at h
  split at h
  · rename_i t
    split at h
    · rename_i b hb
      refine ⟨b, hb, ?_⟩
      cases b with
      | true => simp only [cond_true] at h; have e : x.tmps.set t (sc (.bool true)) = x.tmps := ZmY _ _ _ hb; rw [e] at h; exact h
      | false => simp only [cond_false] at h; have e : x.tmps.set t (sc (.bool false)) = x.tmps := ZmY _ _ _ hb; rw [e] at h; exact h
    · exact h.elim
  · rename_i b; exact ⟨b, rfl, h⟩
  · exact h.elim
theorem Zag {b : Bool} {p : Prop} (h : cond b p False) : b = true ∧ p := by
  cases b
  · exact h.elim
  · exact ⟨rfl, h⟩
def hdI : List C → Int
  | .d (.v (.int _ n)) :: _ => n
  | _ => 0
def isK : List IntKind → List C → Bool
  | [], _ => true
  | k :: ks, .d (.v (.int k' _)) :: r => decide (k' = k) && isK ks r
  | _ :: _, _ => false
def etaK : List IntKind → List C → List C
  | [], _ => []
  | k :: ks, r => .d (.v (.int k (hdI r))) :: etaK ks r.tail
def hdJ : List D → Int
  | .v (.int _ n) :: _ => n
  | _ => 0
def isJ : List IntKind → List D → Bool
  | [], _ => true
  | k :: ks, .v (.int k' _) :: r => decide (k' = k) && isJ ks r
  | _ :: _, _ => false
def etaJ : List IntKind → List D → List D
  | [], _ => []
  | k :: ks, r => .v (.int k (hdJ r)) :: etaJ ks r.tail
theorem ZlR : ∀ (ks : List IntKind) (r : List C), isK ks r = true → r.take ks.length = etaK ks r ∧ ks.length ≤ r.length
  | [], r, _ => by simp [etaK]
  | k :: ks, [], h => by simp [isK] at h
  | k :: ks, c :: r, h => by
    unfold isK at h
    split at h
    · contradiction
    · rename_i heq1 heq2
      cases heq1; cases heq2
      simp only [Bool.and_eq_true, decide_eq_true_eq] at h
      obtain ⟨rfl, h⟩ := h
      obtain ⟨i1, i2⟩ := ZlR ks r h
      simp [etaK, hdI, i1]; exact i2
    · cases h
theorem ZpX : ∀ (ks : List IntKind) (r : List D), isJ ks r = true → r.take ks.length = etaJ ks r ∧ ks.length ≤ r.length
  | [], r, _ => by simp [etaJ]
  | k :: ks, [], h => by simp [isJ] at h
  | k :: ks, c :: r, h => by
    unfold isJ at h
    split at h
    · contradiction
    · rename_i heq1 heq2
      cases heq1; cases heq2
      simp only [Bool.and_eq_true, decide_eq_true_eq] at h
      obtain ⟨rfl, h⟩ := h
      obtain ⟨i1, i2⟩ := ZpX ks r h
      simp [etaJ, hdJ, i1]; exact i2
    · cases h
theorem Zm7 {ks : List IntKind} {r : List C} {j : Nat} (h : isK ks (r.drop j) = true) (h0 : ks ≠ []) : seg r j ks.length = some (etaK ks (r.drop j)) := by
  obtain ⟨h1, h2⟩ := ZlR _ _ h
  unfold seg
  have : 0 < ks.length := List.length_pos_iff.2 h0
  rw [List.length_drop] at h2
  rw [if_pos (by omega), h1]
theorem ZmA {ks : List IntKind} {r : List D} {j : Nat} (h : isJ ks (r.drop j) = true) (h0 : ks ≠ []) : seg r j ks.length = some (etaJ ks (r.drop j)) := by
  obtain ⟨h1, h2⟩ := ZpX _ _ h
  unfold seg
  have : 0 < ks.length := List.length_pos_iff.2 h0
  rw [List.length_drop] at h2
  rw [if_pos (by omega), h1]
theorem Zps {α β : Type} (f : α → β) {r cs : List α} {j n : Nat} (h : seg r j n = some cs) : seg (r.map f) j n = some (cs.map f) := by
  unfold seg at h ⊢
  split at h
  · rename_i hle
    cases h
    rw [if_pos (by simpa using hle)]
    simp [List.map_take, List.map_drop]
  · cases h
theorem ZpK (ks : List IntKind) : ∀ r, (etaK ks r).map C.lend = etaK ks r := by
  induction ks with
  | nil => intro r; rfl
  | cons k ks ih => intro r; simp [etaK, ih, C.lend]
theorem Zpj (ks : List IntKind) : ∀ r, ((etaJ ks r).map C.d).map C.lend = (etaJ ks r).map C.d := by
  induction ks with
  | nil => intro r; rfl
  | cons k ks ih => intro r; simp only [etaJ, List.map_cons]; rw [ih]; rfl
theorem ZnX (tg : Nat) (ks : List IntKind) : ∀ r, (etaJ ks r).map (D.under tg) = (etaJ ks r).map C.d := by
  induction ks with
  | nil => intro r; rfl
  | cons k ks ih => intro r; simp only [etaJ, List.map_cons]; rw [ih]; rfl
def Zg4 (P : Program) (t : TypeId) : Option (List IntKind) :=
  match P.underlying t with
  | some (.int k) => some [k]
  | some (.struct fs) => fs.toList.mapM fun f => match P.underlying f.type with | some (.int k) => some k | _ => none
  | some (.array n e) => match P.underlying e with | some (.int k) => some (List.replicate n k) | _ => none
  | _ => none
def ZrJ (P : Program) (t : TypeId) (row : List C) (j : Nat) (K : A → Prop) : Prop :=
  match szT P t, aggT P t with
  | some n, some ag =>
    match Zg4 P t with
    | some (k :: ks) => match Nat.beq (k :: ks).length n with
      | true => cond (isK (k :: ks) (row.drop j)) (match mkA ag (etaK (k :: ks) (row.drop j)) with | some y => K y | none => False) False
      | false => False
    | _ => match seg row j n with
      | some cs => match mkA ag (cs.map C.lend) with | some y => K y | none => False
      | none => False
  | _, _ => False
theorem ZhF {t : TypeId} {row : List C} {j : Nat} {K : A → Prop} (h : ZrJ P t row j K) : ∃ n ag cs y, szT P t = some n ∧ aggT P t = some ag ∧ seg row j n = some cs ∧ mkA ag (cs.map C.lend) = some y ∧ K y := by
  unfold ZrJ at h
  split at h
  · rename_i n ag hn ha
    split at h
    · rename_i k ks hk
      split at h
      · rename_i hl
        have hl := Zaa hl
        obtain ⟨hc, h⟩ := Zag h
        split at h
        · rename_i y hy
          exact ⟨n, ag, _, y, hn, ha, by rw [← hl]; exact Zm7 hc (by simp), by rw [ZpK]; exact hy, h⟩
        · exact h.elim
      · exact h.elim
    · split at h
      · rename_i cs hs
        split at h
        · rename_i y hy; exact ⟨n, ag, cs, y, hn, ha, hs, hy, h⟩
        · exact h.elim
      · exact h.elim
  · exact h.elim
def ZpO (P : Program) (t : TypeId) (row : List D) (j : Nat) (K : A → Prop) : Prop :=
  match szT P t, aggT P t with
  | some n, some ag =>
    match Zg4 P t with
    | some (k :: ks) => match Nat.beq (k :: ks).length n with
      | true => cond (isJ (k :: ks) (row.drop j)) (match mkA ag ((etaJ (k :: ks) (row.drop j)).map C.d) with | some y => K y | none => False) False
      | false => False
    | _ => match seg row j n with
      | some cs => match mkA ag ((cs.map C.d).map C.lend) with | some y => K y | none => False
      | none => False
  | _, _ => False
theorem Zmq {t : TypeId} {row : List D} {j : Nat} {K : A → Prop} (h : ZpO P t row j K) : ∃ n ag cs y, szT P t = some n ∧ aggT P t = some ag ∧ seg (row.map C.d) j n = some cs ∧ mkA ag (cs.map C.lend) = some y ∧ K y := by
  unfold ZpO at h
  split at h
  · rename_i n ag hn ha
    split at h
    · rename_i k ks hk
      split at h
      · rename_i hl
        have hl := Zaa hl
        obtain ⟨hc, h⟩ := Zag h
        split at h
        · rename_i y hy
          exact ⟨n, ag, _, y, hn, ha, by rw [← hl]; exact Zps _ (ZmA hc (by simp)), by rw [Zpj]; exact hy, h⟩
        · exact h.elim
      · exact h.elim
    · split at h
      · rename_i cs hs
        split at h
        · rename_i y hy; exact ⟨n, ag, _, y, hn, ha, Zps _ hs, hy, h⟩
        · exact h.elim
      · exact h.elim
  · exact h.elim
def ZoU (P : Program) (t : TypeId) (tg : Nat) (row : List D) (j : Nat) (K : A → Prop) : Prop :=
  match szT P t, aggT P t with
  | some n, some ag =>
    match Zg4 P t with
    | some (k :: ks) => match Nat.beq (k :: ks).length n with
      | true => cond (isJ (k :: ks) (row.drop j)) (match mkA ag ((etaJ (k :: ks) (row.drop j)).map C.d) with | some y => K y | none => False) False
      | false => False
    | _ => match seg row j n with
      | some cs => match mkA ag (cs.map (D.under tg)) with | some y => K y | none => False
      | none => False
  | _, _ => False
theorem ZlL {t : TypeId} {tg : Nat} {row : List D} {j : Nat} {K : A → Prop} (h : ZoU P t tg row j K) : ∃ n ag cs y, szT P t = some n ∧ aggT P t = some ag ∧ seg row j n = some cs ∧ mkA ag (cs.map (D.under tg)) = some y ∧ K y := by
  unfold ZoU at h
  split at h
  · rename_i n ag hn ha
    split at h
    · rename_i k ks hk
      split at h
      · rename_i hl
        have hl := Zaa hl
        obtain ⟨hc, h⟩ := Zag h
        split at h
        · rename_i y hy
          exact ⟨n, ag, _, y, hn, ha, by rw [← hl]; exact ZmA hc (by simp), by rw [ZnX]; exact hy, h⟩
        · exact h.elim
      · exact h.elim
    · split at h
      · rename_i cs hs
        split at h
        · rename_i y hy; exact ⟨n, ag, cs, y, hn, ha, hs, hy, h⟩
        · exact h.elim
      · exact h.elim
  · exact h.elim
def ZhX (P : Program) (t : TypeId) (row : List C) (j : Nat) (K : A → Prop) : Prop :=
  match szT P t, aggT P t with
  | some n, some ag =>
    match Zg4 P t with
    | some (k :: ks) => match Nat.beq (k :: ks).length n with
      | true => cond (isK (k :: ks) (row.drop j)) (match mkA ag (etaK (k :: ks) (row.drop j)) with | some y => K y | none => False) False
      | false => False
    | _ => match seg row j n with
      | some cs => match mkA ag cs with | some y => K y | none => False
      | none => False
  | _, _ => False
theorem Zdq {t : TypeId} {row : List C} {j : Nat} {K : A → Prop} (h : ZhX P t row j K) : ∃ n ag cs y, szT P t = some n ∧ aggT P t = some ag ∧ seg row j n = some cs ∧ mkA ag cs = some y ∧ K y := by
  unfold ZhX at h
  split at h
  · rename_i n ag hn ha
    split at h
    · rename_i k ks hk
      split at h
      · rename_i hl
        have hl := Zaa hl
        obtain ⟨hc, h⟩ := Zag h
        split at h
        · rename_i y hy
          exact ⟨n, ag, _, y, hn, ha, by rw [← hl]; exact Zm7 hc (by simp), hy, h⟩
        · exact h.elim
      · exact h.elim
    · split at h
      · rename_i cs hs
        split at h
        · rename_i y hy; exact ⟨n, ag, cs, y, hn, ha, hs, hy, h⟩
        · exact h.elim
      · exact h.elim
  · exact h.elim
end

section
open Go
variable {P : Program} {o : Oper} {x : X}
def keyO (o : Oper) : Nat := match o.dst with | some d => d + 1 | none => 0
def ZoO (x : X) (y : Operand) (K : KO) : Prop := K [] ⟨evA x.S y, []⟩ x
theorem ZfB {y : Operand} (ho : o.op = .move y ∨ o.op = .assign y) : Za6 P o x (ZoO x y) := fun K h hd =>
  ⟨_, _, h, fun w0 own ops => ZtH hd ho rfl⟩
def Zsb (x : X) (c y z : Operand) (K : KO) : Prop := evB x c fun t x' => match t with | true => K [] ⟨evA x'.S y, []⟩ x' | false => K [] ⟨evA x'.S z, []⟩ x'
theorem Zjz {c y z : Operand} (ho : o.op = .pick c y z) : Za6 P o x (Zsb x c y z) := fun K h hd => by
  obtain ⟨b, hb, h⟩ := Ziu h
  cases b with
  | true => exact ⟨_, _, h, fun w0 own ops => pk_pick hd ho hb rfl⟩
  | false => exact ⟨_, _, h, fun w0 own ops => pk_pick hd ho hb rfl⟩
def Zlo (P : Program) (o : Oper) (x : X) (t : TypeId) (K : KO) : Prop :=
  match Zd3 P t with
  | some zs => match zs.all plain with
    | true => K [keyO o] ⟨.c (.rp (keyO o) (x.gen (keyO o) + 1) zs.length 0 0), [(keyO o, some (.bx (x.gen (keyO o) + 1) zs.length (zs.map fun v => .d (.v v))), x.gen (keyO o) + 1)]⟩ x
    | false => False
  | none => False
theorem Zik {t : TypeId} (ho : o.op = .alloc t) : Za6 P o x (Zlo P o x t) := fun K h hd => by
  unfold Zlo at h
  split at h
  · rename_i zs hz
    split at h
    · rename_i hp
      exact ⟨_, _, h, fun w0 own ops => Zrg (keyO o) hd ho hz hp⟩
    · exact h.elim
  · exact h.elim
def Zs9 (o : Oper) (x : X) (y : Operand) (K : KO) : Prop :=
  match (evA x.S y).cells with
  | some cs => match ZbB cs with
    | true => K [keyO o] ⟨.c (.rp (keyO o) (x.gen (keyO o) + 1) cs.length 0 0), [(keyO o, some (.bx (x.gen (keyO o) + 1) cs.length cs), x.gen (keyO o) + 1)]⟩ x
    | false => False
  | none => False
theorem Zmf {t : TypeId} {y : Operand} (ho : o.op = .box t y) : Za6 P o x (Zs9 o x y) := fun K h hd => by
  unfold Zs9 at h
  split at h
  · rename_i cs hc
    split at h
    · rename_i hp
      exact ⟨_, _, h, fun w0 own ops => ZtL (keyO o) hd ho hc hp⟩
    · exact h.elim
  · exact h.elim
def foAt (i i0 n : Nat) : Prop := i = i0 ∧ i0 < n
def Zpl (P : Program) (x : X) (t : TypeId) (y : Operand) (K : KO) : Prop :=
  match evA x.S y with
  | .c (.rp k g wd i j) =>
    match Zar x.store k with
    | some (.bx tag wd' row) => match Nat.beq tag g && (Nat.beq wd' wd && Nat.beq i 0) with
      | true => ZrJ P t row j fun v => K [k] ⟨v, []⟩ x
      | false => False
    | some (.sl tag wd' rows) => match Nat.beq tag g && Nat.beq wd' wd with
      | true => cond (decide (i < rows.length)) (ZpO P t (rows.getD i []) j fun v => K [k] ⟨v, []⟩ x) False
      | false => False
    | some (.fo tag wd' rows i0 row) => match Nat.beq tag g && Nat.beq wd' wd with
      | true => foAt i i0 rows.length ∧ ZrJ P t row j fun v => K [k] ⟨v, []⟩ x
      | false => False
    | none => False
  | .c (.d (.p tg cells off)) => ZoU P t tg cells off fun v => K [] ⟨v, []⟩ x
  | _ => False
theorem Za5 {k : Nat} {R : XRoot} (h : Zar x.store k = some R) : x.S.store k = some R.root := by simp [X.S, h]
theorem Zmg {rows : List (List D)} {i : Nat} (h : i < rows.length) : (emb rows)[i]? = some ((rows.getD i []).map C.d) := by
  simp [emb, List.getD_eq_getElem?_getD, h]
theorem Zqe {rows : List (List D)} {i : Nat} {row : List C} (h : i < rows.length) : ((emb rows).set i row)[i]? = some row := by
  simp [emb, h]
theorem ZjH {t : TypeId} {y : Operand} (ho : o.op = .load t y) : Za6 P o x (Zpl P x t y) := fun K h hd => by
  unfold Zpl at h
  split at h
  · rename_i k g wd i j hy
    split at h
    · rename_i tag wd' row hk
      split at h
      · rename_i hb
        simp only [Bool.and_eq_true] at hb
        obtain ⟨e1, e2, e3⟩ := hb
        have e1 := Zaa e1; have e2 := Zaa e2; have e3 := Zaa e3
        subst e3
        obtain ⟨n, ag, cs, v, q1, q2, q3, q4, q5⟩ := ZhF h
        exact ⟨_, _, q5, fun w0 own ops => ZlO hd ho hy (Za5 hk) ⟨e1, e2⟩ (r := row) rfl q2 q1 q3 q4⟩
      · exact h.elim
    · rename_i tag wd' rows hk
      split at h
      · rename_i hb
        simp only [Bool.and_eq_true] at hb
        obtain ⟨e1, e2⟩ := hb
        have e1 := Zaa e1; have e2 := Zaa e2
        obtain ⟨hi, h⟩ := Zag h
        simp only [decide_eq_true_eq] at hi
        obtain ⟨n, ag, cs, v, q1, q2, q3, q4, q5⟩ := Zmq h
        exact ⟨_, _, q5, fun w0 own ops => ZlO hd ho hy (Za5 hk) ⟨e1, e2⟩ (Zmg hi) q2 q1 q3 q4⟩
      · exact h.elim
    · rename_i tag wd' rows i0 row hk
      split at h
      · rename_i hb
        simp only [Bool.and_eq_true] at hb
        obtain ⟨e1, e2⟩ := hb
        have e1 := Zaa e1; have e2 := Zaa e2
        obtain ⟨⟨rfl, hi⟩, h⟩ := h
        obtain ⟨n, ag, cs, v, q1, q2, q3, q4, q5⟩ := ZhF h
        exact ⟨_, _, q5, fun w0 own ops => ZlO hd ho hy (Za5 hk) ⟨e1, e2⟩ (Zqe hi) q2 q1 q3 q4⟩
      · exact h.elim
    · exact h.elim
  · rename_i tg cells off hy
    obtain ⟨n, ag, cs, v, q1, q2, q3, q4, q5⟩ := ZlL h
    exact ⟨_, _, q5, fun w0 own ops => ZqU hd ho hy q2 q1 q3 q4⟩
  · exact h.elim
def ZlT (P : Program) (x : X) (t : TypeId) (y z : Operand) (K : KO) : Prop :=
  match evA x.S y, (evA x.S z).cells, szT P t with
  | .c (.rp k g wd i j), some cs, some n => match ZbB cs && Nat.beq n cs.length with
    | true => match Zar x.store k with
      | some (.bx tag wd' row) => match Nat.beq tag g && (Nat.beq wd' wd && Nat.beq i 0) with
        | true => cond (decide (j + cs.length ≤ wd)) (match isK (List.replicate wd' .i64) row && Nat.beq row.length wd' with
          | true => cond (isK (List.replicate wd' .i64) (splice row j cs)) (K [k] ⟨.dead, [(k, some (.bx tag wd' (etaK (List.replicate wd' .i64) (splice row j cs))), x.gen k)]⟩ x) False
          | false => K [k] ⟨.dead, [(k, some (.bx tag wd' (splice row j cs)), x.gen k)]⟩ x) False
        | false => False
      | some (.sl tag wd' rows) => match Nat.beq tag g && Nat.beq wd' wd with
        | true => match strip.stripRow cs with
          | some ds => cond (decide (i < rows.length) && decide (j + cs.length ≤ wd)) (K [k] ⟨.dead, [(k, some (.sl tag wd' (rows.set i (splice (rows.getD i []) j ds))), x.gen k)]⟩ x) False
          | none => False
        | false => False
      | some (.fo tag wd' rows i0 row) => match Nat.beq tag g && Nat.beq wd' wd with
        | true => foAt i i0 rows.length ∧ cond (decide (j + cs.length ≤ wd)) (K [k] ⟨.dead, [(k, some (.fo tag wd' rows i0 (splice row j cs)), x.gen k)]⟩ x) False
        | false => False
      | none => False
    | false => False
  | _, _, _ => False
theorem ZnW {α β : Type} (f : α → β) (r cs : List α) (j : Nat) : (splice r j cs).map f = splice (r.map f) j (cs.map f) := by
  simp [splice, List.map_take, List.map_drop]
theorem Zip (rows : List (List D)) (i : Nat) (r : List D) : emb (rows.set i r) = (emb rows).set i (r.map C.d) := by
  simp [emb, List.map_set]
theorem Zir {t : TypeId} {y z : Operand} (ho : o.op = .store t y z) : Za6 P o x (ZlT P x t y z) := fun K h hd => by
  unfold ZlT at h
  split at h
  · rename_i k g wd i j cs n hy hz hn
    split at h
    · rename_i hb
      simp only [Bool.and_eq_true] at hb
      obtain ⟨hok, hl⟩ := hb
      have hl := Zaa hl
      subst hl
      split at h
      · rename_i tag wd' row hk
        split at h
        · rename_i hb
          simp only [Bool.and_eq_true] at hb
          obtain ⟨e1, e2, e3⟩ := hb
          have e1 := Zaa e1; have e2 := Zaa e2; have e3 := Zaa e3
          subst e3
          obtain ⟨hi, h⟩ := Zag h
          simp only [decide_eq_true_eq] at hi
          split at h
          · rename_i hb2
            simp only [Bool.and_eq_true] at hb2
            have hl := Zaa hb2.2
            obtain ⟨hb3, h⟩ := Zag h
            have hsl : (splice row j cs).length = wd' := by rw [Zdo _ _ _ (by omega)]; exact hl
            have he : etaK (List.replicate wd' .i64) (splice row j cs) = splice row j cs := by
              have := (ZlR _ _ hb3).1
              rw [List.length_replicate, List.take_of_length_le (by omega)] at this
              exact this.symm
            rw [he] at h
            exact ⟨_, _, h, fun w0 own ops => Zf1 hd ho hy (Za5 hk) ⟨e1, e2⟩ (r := row) rfl hz hok hn hi⟩
          · exact ⟨_, _, h, fun w0 own ops => Zf1 hd ho hy (Za5 hk) ⟨e1, e2⟩ (r := row) rfl hz hok hn hi⟩
        · exact h.elim
      · rename_i tag wd' rows hk
        split at h
        · rename_i hb
          simp only [Bool.and_eq_true] at hb
          obtain ⟨e1, e2⟩ := hb
          have e1 := Zaa e1; have e2 := Zaa e2
          split at h
          · rename_i ds hds
            obtain ⟨hi, h⟩ := Zag h
            simp only [Bool.and_eq_true, decide_eq_true_eq] at hi
            refine ⟨_, _, h, fun w0 own ops => ?_⟩
            have := Zf1 (P := P) (w0 := w0) (own := own) (ops := ops) hd ho hy (Za5 hk) ⟨e1, e2⟩ (Zmg hi.1) hz hok hn hi.2
            have e : ({ (XRoot.sl tag wd' rows).root with rows := (emb rows).set i (splice ((rows.getD i []).map C.d) j cs) } : Root) = (XRoot.sl tag wd' (rows.set i (splice (rows.getD i []) j ds))).root := by
              simp only [XRoot.root, Zip, ZnW, ← Za0 _ _ hds]
            simp only [XP.patch, toU, List.map_cons, List.map_nil, Option.map_some]
            rw [← e]; exact this
          · exact h.elim
        · exact h.elim
      · rename_i tag wd' rows i0 row hk
        split at h
        · rename_i hb
          simp only [Bool.and_eq_true] at hb
          obtain ⟨e1, e2⟩ := hb
          have e1 := Zaa e1; have e2 := Zaa e2
          obtain ⟨⟨rfl, hi1⟩, h⟩ := h
          obtain ⟨hi, h⟩ := Zag h
          simp only [decide_eq_true_eq] at hi
          refine ⟨_, _, h, fun w0 own ops => ?_⟩
          have := Zf1 (P := P) (w0 := w0) (own := own) (ops := ops) hd ho hy (Za5 hk) ⟨e1, e2⟩ (Zqe hi1) hz hok hn hi
          have e : ({ (XRoot.fo tag wd' rows i row).root with rows := ((emb rows).set i row).set i (splice row j cs) } : Root) = (XRoot.fo tag wd' rows i (splice row j cs)).root := by
            simp only [XRoot.root, List.set_set]
          simp only [XP.patch, toU, List.map_cons, List.map_nil, Option.map_some]
          rw [← e]; exact this
        · exact h.elim
      · exact h.elim
    · exact h.elim
  · exact h.elim
def ZsK (x : X) (y : Operand) (K : KO) : Prop := match (evA x.S y).isPtr with | true => K [] ⟨evA x.S y, []⟩ x | false => False
theorem Zmm {y : Operand} (ho : o.op = .nilCheck y) : Za6 P o x (ZsK x y) := fun K h hd => by
  unfold ZsK at h
  split at h
  · rename_i hy; exact ⟨_, _, h, fun w0 own ops => Zk3 hd ho rfl hy⟩
  · exact h.elim
def outV (r : Option Value) (K : Value → Prop) : Prop := match r with | some v => (match plain v with | true => K v | false => False) | none => False
theorem ZeC {r : Option Value} {K : Value → Prop} (h : outV r K) : ∃ v, r = some v ∧ plain v = true ∧ K v := by
  unfold outV at h
  split at h
  · split at h
    · exact ⟨_, rfl, ‹_›, h⟩
    · exact h.elim
  · exact h.elim
def Zot (P : Program) (x : X) (b : BinOp) (t : TypeId) (y z : Operand) (K : KO) : Prop :=
  match (evA x.S y).val, (evA x.S z).val with
  | some p, some q => outV (ZaU P (do eqGuard b t y z p q; binOp b t p q)) fun r => K [] ⟨sc r, []⟩ x
  | _, _ => False
theorem Zex {b : BinOp} {t u : TypeId} {y z : Operand} (ho : o.op = .binOp b t y z u) : Za6 P o x (Zot P x b t y z) := fun K h hd => by
  unfold Zot at h
  split at h
  · rename_i p q hp hq
    obtain ⟨r, h1, h2, h3⟩ := ZeC h
    exact ⟨_, _, h3, fun w0 own ops => Zjt hd ho hp hq h1 h2⟩
  · exact h.elim
def evUn (P : Program) (x : X) (b : UnOp) (y : Operand) (K : KO) : Prop :=
  match (evA x.S y).val with
  | some p => outV (ZaU P (Op.unary b p)) fun r => K [] ⟨sc r, []⟩ x
  | _ => False
theorem ZnI {b : UnOp} {t : TypeId} {y : Operand} (ho : o.op = .unOp b t y) : Za6 P o x (evUn P x b y) := fun K h hd => by
  unfold evUn at h
  split at h
  · rename_i p hp
    obtain ⟨r, h1, h2, h3⟩ := ZeC h
    exact ⟨_, _, h3, fun w0 own ops => ZwN hd ho hp h1 h2⟩
  · exact h.elim
def Zo8 (P : Program) (x : X) (t u : TypeId) (y : Operand) (K : KO) : Prop :=
  match (evA x.S y).val with
  | some p => outV (ZaU P (convert t u p)) fun r => K [] ⟨sc r, []⟩ x
  | _ => False
theorem Zkm {t u : TypeId} {y : Operand} (ho : o.op = .convert t u y) : Za6 P o x (Zo8 P x t u y) := fun K h hd => by
  unfold Zo8 at h
  split at h
  · rename_i p hp
    obtain ⟨r, h1, h2, h3⟩ := ZeC h
    exact ⟨_, _, h3, fun w0 own ops => Zli hd ho hp h1 h2⟩
  · exact h.elim
def Zft (x : X) (f : FuncId) (fst cap : Array Operand) (K : KO) : Prop :=
  match Nat.beq f AG with
  | true => False
  | false => match ones x.S fst.toList, ones x.S cap.toList with
    | some cf, some cc => K [] ⟨.c (.cf f cf cc), []⟩ x
    | _, _ => False
theorem ZfU {f : FuncId} {fst cap : Array Operand} (ho : o.op = .makeFunc (.func f) fst cap) : Za6 P o x (Zft x f fst cap) := fun K h hd => by
  unfold Zft at h
  split at h
  · exact h.elim
  rename_i hAG
  split at h
  · rename_i cf cc h1 h2
    exact ⟨_, _, h, fun w0 own ops => ZlF (Zbi hAG) (fst := fst.toList) (cap := cap.toList) hd (by simpa using ho) h1 h2⟩
  · exact h.elim
def Zej (P : Program) (x : X) (t : TypeId) (y : Operand) (f : Nat) (K : KO) : Prop :=
  match fldT P t f with
  | some (off, ft) => match szT P ft with
    | some (n + 1) => match (evA x.S y).ptrAdd off with | some z => K [] ⟨z, []⟩ x | none => False
    | _ => False
  | none => False
theorem Zfs {t : TypeId} {y : Operand} {f : Nat} (ho : o.op = .fieldAddr t y f) : Za6 P o x (Zej P x t y f) := fun K h hd => by
  unfold Zej at h
  split at h
  · rename_i off ft hf
    split at h
    · rename_i n hn
      split at h
      · rename_i z hz
        exact ⟨_, _, h, fun w0 own ops => ZjM hd ho rfl hf hn (by omega) hz⟩
      · exact h.elim
    · exact h.elim
  · exact h.elim
def Zlh (P : Program) (x : X) (t : TypeId) (y : Operand) (f : Nat) (K : KO) : Prop :=
  match evA x.S y, fldT P t f with
  | .agg cs, some (off, ft) => ZhX P ft cs off fun v => K [] ⟨v, []⟩ x
  | _, _ => False
theorem ZiL {t : TypeId} {y : Operand} {f : Nat} (ho : o.op = .field t y f) : Za6 P o x (Zlh P x t y f) := fun K h hd => by
  unfold Zlh at h
  split at h
  · rename_i cs off ft hy hf
    obtain ⟨n, ag, r, v, q1, q2, q3, q4, q5⟩ := Zdq h
    exact ⟨_, _, q5, fun w0 own ops => Zqu hd ho hy hf q2 q1 q3 q4⟩
  · exact h.elim
def addN (a b : Nat) : Nat := match a with | 0 => b | _ => a + b
theorem Zey (a b : Nat) : addN a b = a + b := by cases a <;> simp [addN]
def mulN (a b : Nat) : Nat := match b with | 1 => a | _ => a * b
theorem ZpB (a b : Nat) : mulN a b = a * b := by unfold mulN; split <;> simp
theorem Zea {kd : IntKind} {i : Int} {n : Nat} (h : (decide (0 ≤ i) && decide (i < n)) = true) : idx (.int kd i) n = some i.toNat := by
  simp only [Bool.and_eq_true, decide_eq_true_eq] at h
  simp [idx, h]
def A.ptrOn (y : A) (n : Nat) : Option A :=
  match y with
  | .c (.rp k g wd i j) => some (.c (.rp k g wd i (addN j n)))
  | .c (.d (.p tg cells off)) => some (.c (.d (.p tg cells (addN off n))))
  | _ => none
theorem ZhC {y z : A} {n : Nat} (h : y.ptrOn n = some z) : y.ptrAdd n = some z := by
  unfold A.ptrOn at h
  split at h
  · cases h; simp [A.ptrAdd, Zey]
  · cases h; simp [A.ptrAdd, Zey]
  · cases h
def ZfK (i : Int) (K : Nat → Prop) : Nat → Nat → Prop
  | _, 0 => False
  | j, m + 1 => cond (decide (i = (j : Int))) (K j) (ZfK i K (j + 1) m)
theorem ZbX {i : Int} {K : Nat → Prop} : ∀ (m j : Nat), ZfK i K j m → ∃ q : Nat, i = q ∧ q < j + m ∧ K q
  | 0, _, h => h.elim
  | m + 1, j, h => by
    unfold ZfK at h
    cases hd : decide (i = (j : Int)) with
    | true => rw [hd] at h; exact ⟨j, of_decide_eq_true hd, by omega, h⟩
    | false =>
      rw [hd] at h
      obtain ⟨q, h1, h2, h3⟩ := ZbX m (j + 1) h
      exact ⟨q, h1, by omega, h3⟩
def boxW (s : List (Nat × XRoot)) (k : Nat) : Option Nat := match Zar s k with | some (.bx _ w _) => some w | _ => none
theorem Zoc {P : Program} {w0 : World} {own : Nat → Prop} {st : St} {o : Oper} {t e : TypeId} {x ix : Operand} {k g wd lo len kn q : Nat} {u : Value} (wdb : Nat) (hd : st.fits o.dst = true) (ho : o.op = .indexAddr t x ix) (hx : evA st x = .c (.rs k g wd lo len kn)) (hix : evA st ix = sc u) (ht : elT P t = some e) (hs : szT P e = some wd) (hq : idx u len = some q) :
    OpOK P w0 own o st (st.put o.dst (.c (.rp k g wdb 0 ((lo + q) * wd)))) :=
  .value hd fun γ a w hR => by
    have hex : (execOp a.eval o).run P w = ((do pure (.value (← Instr.indexAt t (a.eval x) (a.eval ix)))) : Sem Next).run P w := by unfold execOp; rw [ho]
    have hv := hR.ev x
    rw [hx] at hv
    have hi := hR.ev ix
    rw [hix] at hi
    obtain ⟨kd, e1, hlt⟩ := ZeK hq
    rw [(AR.sc_inv hi).1, e1] at hex
    rcases hv.rs_inv with ⟨cap, b, E, n, e, hβ, hg, _⟩ | ⟨_, _, hl, _⟩
    · refine ⟨γ, w, .pointer (some ⟨b, lo * wd + q * wd, none⟩), ?_, γ.le_refl, hR, ?_⟩
      · rw [hex, e, Sem.run_bind, run_indexAt_slice ht hs hlt]; rfl
      · have := CR.rp (γ := γ) (w := w) k g wdb 0 ((lo + q) * wd) b hg hβ
        rw [Nat.zero_mul, Nat.zero_add, Nat.add_mul] at this
        rw [Nat.add_mul]
        exact .c _ _ this
    · omega
theorem Zn4 {P : Program} {w0 : World} {own : Nat → Prop} {st : St} {ops : Array Oper} {o : Oper} {t e : TypeId} {x ix : Operand} {k g wd lo len kn q : Nat} {u : Value} (wdb : Nat) (hd : st.fits o.dst = true) (ho : o.op = .indexAddr t x ix) (hx : evA st x = .c (.rs k g wd lo len kn)) (hix : evA st ix = sc u) (ht : elT P t = some e) (hs : szT P e = some wd) (hq : idx u len = some q)
    : PatchOK P w0 own ops o [] st ⟨o.dst, .c (.rp k g wdb 0 ((lo + q) * wd)), []⟩ :=
  .plain fun st' hal => by
    have e1 := hal.ev (x := x) (by rw [ho]; simp [Op.operands])
    have e2 := hal.ev (x := ix) (by rw [ho]; simp [Op.operands])
    exact Zoc wdb (Zaf hal hd) ho (e1.trans hx) (e2.trans hix) ht hs hq
def ZbE (P : Program) (x : X) (t : TypeId) (y ix : Operand) (K : KO) : Prop :=
  match evA x.S ix with
  | .c (.d (.v (.int _ i))) =>
    match arT P t with
    | some (n, e) => match szT P e with
      | some sz => match Zg4 P e with
        | some _ => cond (decide (0 ≤ i) && decide (i < n)) (match (evA x.S y).ptrOn (mulN i.toNat sz) with | some z => K [] ⟨z, []⟩ x | none => False) False
        | none => ZfK i (fun q => match (evA x.S y).ptrOn (q * sz) with | some z => K [] ⟨z, []⟩ x | none => False) 0 n
      | none => False
    | none => match elT P t with
      | some e => match evA x.S y with
        | .c (.rs k g wd lo len kn) => match szT P e with
          | some sz => match Nat.beq sz wd with
            | true => match boxW x.store k with
              | some wdb => ZfK i (fun q => K [] ⟨.c (.rp k g wdb 0 ((lo + q) * wd)), []⟩ x) 0 len
              | none => cond (decide (0 ≤ i) && decide (i < len)) (K [] ⟨.c (.rp k g wd (addN lo i.toNat) 0), []⟩ x) False
            | false => False
          | none => False
        | .c (.d (.s tg sz rows sp)) => match szT P e with
          | some sz' => match Nat.beq sz' sz with
            | true => cond (decide (0 ≤ i) && decide (i < rows.length)) (K [] ⟨.c (.d (.p tg (rows.getD i.toNat []) 0)), []⟩ x) False
            | false => False
          | none => False
        | _ => False
      | none => False
  | _ => False
theorem Zba {t : TypeId} {y ix : Operand} (ho : o.op = .indexAddr t y ix) : Za6 P o x (ZbE P x t y ix) := fun K h hd => by
  unfold ZbE at h
  split at h
  · rename_i kd i hix
    split at h
    · rename_i n e ht
      split at h
      · rename_i sz hs
        split at h
        · obtain ⟨hi, h⟩ := Zag h
          split at h
          · rename_i z hz
            exact ⟨_, _, h, fun w0 own ops => Zer hd ho rfl hix ht hs (Zea hi) (by rw [← ZpB]; exact ZhC hz)⟩
          · exact h.elim
        · obtain ⟨q, hi, hq, h⟩ := ZbX _ _ h
          split at h
          · rename_i z hz
            have hi' : (decide (0 ≤ i) && decide (i < (n : Nat))) = true := by simp; omega
            have e : i.toNat = q := by omega
            exact ⟨_, _, h, fun w0 own ops => Zer hd ho rfl hix ht hs (Zea hi') (by rw [e]; exact ZhC hz)⟩
          · exact h.elim
      · exact h.elim
    · split at h
      · rename_i e ht
        split at h
        · rename_i k g wd lo len kn hy
          split at h
          · rename_i sz hs
            split at h
            · rename_i hb
              have := Zaa hb; subst this
              split at h
              · rename_i wdb _
                obtain ⟨q, hi, hq, h⟩ := ZbX _ _ h
                have hi' : (decide (0 ≤ i) && decide (i < (len : Nat))) = true := by simp; omega
                have e : i.toNat = q := by omega
                exact ⟨_, _, h, fun w0 own ops => by
                  have := Zn4 (P := P) (w0 := w0) (own := own) (ops := ops) (st := x.S) wdb hd ho hy hix ht hs (Zea hi')
                  rw [e] at this; exact this⟩
              · obtain ⟨hi, h⟩ := Zag h
                rw [Zey] at h
                exact ⟨_, _, h, fun w0 own ops => Zln hd ho hy hix ht hs (Zea hi)⟩
            · exact h.elim
          · exact h.elim
        · rename_i tg sz rows sp hy
          split at h
          · rename_i sz' hs
            split at h
            · rename_i hb
              have := Zaa hb; subst this
              obtain ⟨hi, h⟩ := Zag h
              refine ⟨_, _, h, fun w0 own ops => Zhe hd ho hy hix ht hs (Zea hi) ?_⟩
              simp only [Bool.and_eq_true, decide_eq_true_eq] at hi
              have : i.toNat < rows.length := by omega
              simp [List.getD_eq_getElem?_getD, this]
            · exact h.elim
          · exact h.elim
        · exact h.elim
      · exact h.elim
  · exact h.elim
def Zk5 (P : Program) (x : X) (t : TypeId) (y ix : Operand) (K : KO) : Prop :=
  match evA x.S ix, evA x.S y with
  | .c (.d (.v (.int _ i))), .agg cs =>
    match arT P t with
    | some (n, e) => match szT P e with
      | some sz => match Zg4 P e with
        | some _ => cond (decide (0 ≤ i) && decide (i < n)) (ZhX P e cs (mulN i.toNat sz) fun v => K [] ⟨v, []⟩ x) False
        | none => ZfK i (fun q => ZhX P e cs (q * sz) fun v => K [] ⟨v, []⟩ x) 0 n
      | none => False
    | none => False
  | _, _ => False
theorem ZiJ {t : TypeId} {y ix : Operand} (ho : o.op = .index t y ix) : Za6 P o x (Zk5 P x t y ix) := fun K h hd => by
  unfold Zk5 at h
  split at h
  · rename_i kd i cs hix hy
    split at h
    · rename_i n e ht
      split at h
      · rename_i sz hs
        split at h
        · obtain ⟨hi, h⟩ := Zag h
          obtain ⟨n', ag, r, v, q1, q2, q3, q4, q5⟩ := Zdq h
          rw [hs] at q1; cases q1
          rw [ZpB] at q3
          exact ⟨_, _, q5, fun w0 own ops => ZmT hd ho hy hix ht (Zea hi) q2 hs q3 q4⟩
        · obtain ⟨q, hi, hq, h⟩ := ZbX _ _ h
          obtain ⟨n', ag, r, v, q1, q2, q3, q4, q5⟩ := Zdq h
          rw [hs] at q1; cases q1
          have hi' : (decide (0 ≤ i) && decide (i < (n : Nat))) = true := by simp; omega
          have e : i.toNat = q := by omega
          rw [← e] at q3
          exact ⟨_, _, q5, fun w0 own ops => ZmT hd ho hy hix ht (Zea hi') q2 hs q3 q4⟩
      · exact h.elim
    · exact h.elim
  · exact h.elim
def Zgj (x : X) (y : Operand) (i : Nat) (K : KO) : Prop :=
  match evA x.S y with
  | .tup xs => match xs[i]? with | some v => K [] ⟨v, []⟩ x | none => False
  | _ => False
theorem Zgk {y : Operand} {i : Nat} (ho : o.op = .extract y i) : Za6 P o x (Zgj x y i) := fun K h hd => by
  unfold Zgj at h
  split at h
  · rename_i xs hy
    split at h
    · rename_i v hv; exact ⟨_, _, h, fun w0 own ops => ZnM hd ho hy hv⟩
    · exact h.elim
  · exact h.elim
def Zlc (P : Program) (x : X) (t : TypeId) (ps : Array (Nat × Operand)) (K : KO) : Prop :=
  match Zd3 P t with
  | some zs => match zs.all plain with
    | true => match P.underlying t with
      | some (.struct fs) => match fs.toList.all fun f => (szT P f.type).isSome with
        | true => match Ze3 (ZgN P t) (zs.map fun v => .d (.v v)) (Zbz x.S ps.toList) with | some out => K [] ⟨.agg out, []⟩ x | none => False
        | false => False
      | some (.array n e) => match szT P e with
        | some sz => match Ze3 (fun i => some (i * sz, sz)) (zs.map fun v => .d (.v v)) (Zbz x.S ps.toList) with | some out => K [] ⟨.agg out, []⟩ x | none => False
        | none => False
      | _ => False
    | false => False
  | none => False
theorem ZiK {t : TypeId} {ps : Array (Nat × Operand)} (ho : o.op = .build t ps) : Za6 P o x (Zlc P x t ps) := fun K h hd => by
  have ho' : o.op = .build t ps.toList.toArray := by simpa using ho
  unfold Zlc at h
  split at h
  · rename_i zs hz
    split at h
    · rename_i hp
      split at h
      · rename_i fs hu
        split at h
        · rename_i hall
          split at h
          · rename_i out hf
            exact ⟨_, _, h, fun w0 own ops => Zqj hd ho' hz hp hf hu fun f hfm => List.all_eq_true.1 hall f hfm⟩
          · exact h.elim
        · exact h.elim
      · rename_i n e hu
        split at h
        · rename_i sz hs
          split at h
          · rename_i out hf
            exact ⟨_, _, h, fun w0 own ops => ZlQ (n := n) (e := e) hd ho' hz hp (by simp [arT, hu]) hs hf⟩
          · exact h.elim
        · exact h.elim
      · exact h.elim
    · exact h.elim
  · exact h.elim
end

section
open Go
variable {P : Program} {w0 : World} {own : Nat → Prop} {γ : Gh} {st : St} {a : Act} {w : World} {o : Oper} {x : X}
def D.ro1 : D → D
  | .s _ z rows sp => .s 0 z rows sp
  | .p _ cells off => .p 0 cells off
  | d => d
theorem DR.ro1 {G : Nat → Prop} {v : Value} {d : D} (h : DR w G v d) : DR w G v d.ro1 := by
  cases d with
  | s t z rows sp => exact h.retag 0
  | p t cells off => exact h.retagp 0
  | _ => exact h
theorem D.ro1_not_own (d : D) (z : Nat) (rows spare : List (List D)) : d.ro1 ≠ .s 1 z rows spare := by cases d <;> simp [D.ro1]
def cut (rows : List (List D)) (lo n : Nat) : List (List D) := (rows.drop lo).take n
def evC (x : X) : Nat → C → (D → Prop) → Prop
  | 0, _, _ => False
  | _ + 1, .d d, K => K d.ro1
  | n + 1, .rs k g wd lo len kn, K =>
    match Zar x.store k with
    | some (.bx tag _ row) => match Nat.beq tag g && Nat.ble ((lo + len) * wd) row.length with
      | true => evCL (evC x n) ((row.drop (lo * wd)).take (len * wd)) fun ds => chD wd len ds fun rows => K (.s 0 wd rows [])
      | false => False
    | some (.sl tag wd' rows) => match Nat.beq tag g && Nat.beq wd' wd with
      | true => cond (decide (lo + len ≤ rows.length)) (K (.s 0 wd (cut rows lo len) (cut rows (lo + len) (kn - len)))) False
      | false => False
    | some (.fo tag wd' rows i row) => match Nat.beq tag g && Nat.beq wd' wd with
      | true => match strip.stripRow row with
        | some ds => cond (decide (lo + len ≤ (rows.set i ds).length)) (K (.s 0 wd (cut (rows.set i ds) lo len) (cut (rows.set i ds) (lo + len) (kn - len)))) False
        | none => False
      | false => False
    | none => False
  | n + 1, .rp k g wd i j, K =>
    match Zar x.store k with
    | some (.bx tag wd' row) => match Nat.beq tag g && (Nat.beq wd' wd && Nat.beq i 0) with
      | true => evCL (evC x n) row fun ds => K (.p 0 ds j)
      | false => False
    | some (.sl tag wd' rows) => match Nat.beq tag g && Nat.beq wd' wd with
      | true => cond (decide (i < rows.length)) (K (.p 0 (rows.getD i []) j)) False
      | false => False
    | some (.fo _ _ _ _ _) => False
    | none => False
  | n + 1, .cf fn fs cs, K => evCL (evC x n) fs fun ds => evCL (evC x n) cs fun es => K (.f fn ds es)
  | _ + 1, .non, _ => False
where
  evCL (f : C → (D → Prop) → Prop) : List C → (List D → Prop) → Prop
    | [], K => K []
    | c :: l, K => f c fun d => evCL f l fun ds => K (d :: ds)
theorem ZcV {f : C → (D → Prop) → Prop} {g : C → D → Prop} (hf : ∀ c K, f c K → ∃ d, K d ∧ g c d) : ∀ (l : List C) (K : List D → Prop), evC.evCL f l K → ∃ ds, K ds ∧ l.length = ds.length ∧ ∀ (i : Nat) (c : C) (d : D), l[i]? = some c → ds[i]? = some d → g c d
  | [], K, h => ⟨[], h, rfl, by simp⟩
  | c :: l, K, h => by
    simp only [evC.evCL] at h
    obtain ⟨d, h1, h2⟩ := hf c _ h
    obtain ⟨ds, h3, h4, h5⟩ := ZcV hf l _ h1
    refine ⟨d :: ds, h3, by simp [h4], fun i c' d' hc hd => ?_⟩
    cases i with
    | zero => simp at hc hd; subst hc hd; exact h2
    | succ i => exact h5 i c' d' (by simpa using hc) (by simpa using hd)
def Reads (x : X) (n : Nat) (c : C) (d : D) : Prop :=
  (∀ d0, c = .d d0 → d = d0.ro1) ∧ ∀ (w0 : World) (own : Nat → Prop) (γ : Gh) (st : St) (a : Act) (w : World) (v : Value), Rel w0 own γ st a w → (∀ k, k ∈ Zcy x.S.store n c → st.store k = x.S.store k) → CR γ w v c →
    DR w (· < w.heap.size) v d ∧ ∀ z rows spare, d ≠ .s 1 z rows spare
theorem ZoV {γ : Gh} {st : St} {w0 : World} {own : Nat → Prop} {a : Act} {w : World} {v : Value} (hR : Rel w0 own γ st a w) {k tag wd' lo len kn : Nat} {rows : List (List D)} (hk' : st.store k = some (XRoot.sl tag wd' rows).root) (hle : lo + len ≤ rows.length) (hc : CR γ w v (.rs k tag wd' lo len kn)) :
    DR w (· < w.heap.size) v (.s 0 wd' (cut rows lo len) (cut rows (lo + len) (kn - len))) := by
  have hm := hR.mem k _ hk'
  unfold RootOK at hm
  rcases (AR.c (γ := γ) _ _ hc).rs_inv with ⟨cap, b, E, nn, rfl, hβ, hg, hsh, hcap, hlc, hkn⟩ | ⟨⟨_, rfl⟩, hlo, hl0, hk0, hβ, _⟩
  · rw [show (XRoot.sl tag wd' rows).root.tag = tag from rfl, hβ] at hm
    obtain ⟨arr, E', harr, hw, hsz, hcell⟩ := hm
    have hlr : (emb rows).length = rows.length := by simp [emb]
    have hsz' : rows.length * wd' ≤ arr.size := by
      have : (emb rows).length * wd' ≤ arr.size := hsz
      rwa [hlr] at this
    have hll : (cut rows lo len).length = len := by simp [cut]; omega
    have hb : b < w.heap.size := hR.ltβ k tag b hg hβ
    generalize hsp : cut rows (lo + len) (kn - len) = sp
    have hspl : sp.length ≤ kn - len ∧ sp.length ≤ rows.length - (lo + len) := by rw [← hsp]; simp [cut]; omega
    have hget : ∀ (i : Nat) r, (cut rows lo len ++ sp)[i]? = some r → i < len + sp.length ∧ rows[lo + i]? = some r := by
      intro i r hi
      have hil : i < len + sp.length := by have := (List.getElem?_eq_some_iff.1 hi).1; simp [hll] at this; omega
      refine ⟨hil, ?_⟩
      by_cases hi2 : i < len
      · rw [List.getElem?_append_left (by omega)] at hi
        unfold cut at hi
        rw [List.getElem?_take, if_pos hi2, List.getElem?_drop] at hi
        exact hi
      · rw [List.getElem?_append_right (by omega), hll, ← hsp] at hi
        unfold cut at hi
        rw [List.getElem?_take] at hi
        split at hi
        · rw [List.getElem?_drop] at hi
          rw [← hi]; congr 1; omega
        · cases hi
    have key : DR w (· < w.heap.size) (.slice (some ⟨b, lo * wd', none⟩) (cut rows lo len).length cap) (.s 0 wd' (cut rows lo len) sp) := by
      refine .s 0 _ sp b (lo * wd') cap wd' (fun i j => arr.getD ((lo + i) * wd' + j) undef) hb ?_ (by omega) ?_ ?_
      · intro r hr
        obtain ⟨i, hi⟩ := List.getElem?_of_mem hr
        obtain ⟨_, hi⟩ := hget i r hi
        have : r.map C.d ∈ emb rows := List.mem_map.2 ⟨r, List.mem_of_getElem? hi, rfl⟩
        have := hw _ this
        simpa [XRoot.root] using this
      · intro i j hi hj
        rw [hll] at hi
        have hpos : (lo + i) * wd' + j < arr.size := Nat.lt_of_lt_of_le (Zbc (by omega : lo + i < rows.length) hj) hsz'
        have e : lo * wd' + (i * wd' + j) = (lo + i) * wd' + j := by rw [Nat.add_mul]; omega
        rw [e]
        simp [World.cell?, harr, hpos]
      · intro i j r d h1 h2
        obtain ⟨_, h1⟩ := hget i r h1
        obtain ⟨r', g1, g2⟩ := ZiI h1 h2
        exact (hcell _ _ _ _ g1 g2).read.mono hR.lt (Same.refl _ _)
    rw [hll] at key
    exact key
  · subst hl0 hk0
    have e1 : cut rows lo 0 = [] := by simp [cut]
    have e2 : cut rows (lo + 0) (0 - 0) = [] := by simp [cut]
    rw [e1, e2]
    exact .e _ 0 _ _
theorem Zdr : ∀ (n : Nat) (c : C) (K : D → Prop), evC x n c K → ∃ d, K d ∧ Reads x n c d
  | 0, c, K, h => h.elim
  | n + 1, .d d, K, h => ⟨_, h, fun d0 e => by cases e; rfl, fun w0 own γ st a w v hR _ hc => by
      have := (AR.c (γ := γ) _ _ hc).d_inv
      exact ⟨(this.mono (fun b hb => hR.lt b (γ.at_G _ b hb)) (Same.refl _ _)).ro1, d.ro1_not_own⟩⟩
  | n + 1, .rs k g wd lo len kn, K, h => by
    simp only [evC] at h
    split at h
    · rename_i tag wb row hk
      split at h
      · rename_i hb
        simp only [Bool.and_eq_true] at hb
        obtain ⟨e1, e3⟩ := hb
        have e1 := Zaa e1; have e3 := Nat.le_of_ble_eq_true e3
        subst e1
        rw [Nat.add_mul] at e3
        obtain ⟨ds, h1, h2, h3⟩ := ZcV (fun c K => Zdr n c K) _ _ h
        have h1 := Zit _ _ _ _ h1
        have hdl : ds.length = len * wd := by rw [← h2]; simp; omega
        refine ⟨_, h1, by simp, fun w0 own γ st a w v hR hst hc => ⟨?_, by simp⟩⟩
        have hS := Za5 (x := x) hk
        have hk' : st.store k = some (XRoot.bx tag wb row).root := (hst k (by simp [Zcy])).trans hS
        have hm := hR.mem k _ hk'
        unfold RootOK at hm
        rcases (AR.c (γ := γ) _ _ hc).rs_inv with ⟨cap, b, E, nn, rfl, hβ, hg, hsh, hcap, hlc, hkn⟩ | ⟨⟨_, rfl⟩, hlo, hl0, hk0, hβ, _⟩
        · rw [show (XRoot.bx tag wb row).root.tag = tag from rfl, hβ] at hm
          obtain ⟨arr, E', harr, hw, hsz, hcell⟩ := hm
          have hrl : row.length = wb := hw row (by simp [XRoot.root])
          have hsz' : wb ≤ arr.size := by
            have : 1 * wb ≤ arr.size := hsz
            omega
          have hb : b < w.heap.size := hR.ltβ k tag b hg hβ
          have key : DR w (· < w.heap.size) (.slice (some ⟨b, lo * wd, none⟩) (cutD wd len ds).length cap) (.s 0 wd (cutD wd len ds) []) := by
            refine .s 0 _ [] b (lo * wd) cap wd (fun i j => arr.getD (lo * wd + (i * wd + j)) undef) hb ?_ (by rw [ZcB]; simpa using hlc) ?_ ?_
            · intro r hr
              exact Znl (Nat.le_of_eq hdl.symm) r (by simpa using hr)
            · intro i j hi hj
              rw [ZcB] at hi
              simp only [List.length_nil, Nat.add_zero] at hi
              have hpos0 : i * wd + j < len * wd := Zbc hi hj
              have hpos : lo * wd + (i * wd + j) < arr.size := by omega
              simp [World.cell?, harr, hpos]
            · intro i j r d g1 g2
              rw [List.append_nil] at g1
              obtain ⟨hi, hj, hd⟩ := Zj5 g1 g2
              have hq : i * wd + j < len * wd := Zbc hi hj
              have hc' : row[lo * wd + (i * wd + j)]? = some (row[lo * wd + (i * wd + j)]'(by omega)) := List.getElem?_eq_getElem (by omega)
              have hfc := h3 (i * wd + j) _ d (by rw [List.getElem?_take, if_pos hq, List.getElem?_drop]; exact hc') hd
              have hsr := hcell 0 (lo * wd + (i * wd + j)) row _ rfl hc'
              rw [Nat.zero_mul, Nat.zero_add] at hsr
              have hmem : row[lo * wd + (i * wd + j)]'(by omega) ∈ row := List.getElem_mem _
              generalize row[lo * wd + (i * wd + j)]'(by omega) = y at hsr hfc hmem
              have hkeys : ∀ k', k' ∈ Zcy x.S.store n y → st.store k' = x.S.store k' := fun k' hk' => hst k' (by
                simp only [Zcy, hS]
                refine List.mem_cons_of_mem _ ?_
                simp only [XRoot.root, List.flatMap_cons, List.flatMap_nil, List.append_nil]
                exact List.mem_flatMap.2 ⟨y, hmem, hk'⟩)
              cases y with
              | d x' =>
                have := hfc.1 x' rfl
                subst this
                exact (hsr.read.mono hR.lt (Same.refl _ _)).ro1
              | _ => exact (hfc.2 w0 own γ st a w _ hR hkeys hsr).1
          rw [ZcB] at key
          exact key
        · subst hl0
          exact .e _ 0 _ _
      · exact h.elim
    · rename_i tag wd' rows hk
      split at h
      · rename_i hb
        simp only [Bool.and_eq_true] at hb
        obtain ⟨e1, e2⟩ := hb
        have e1 := Zaa e1; have e2 := Zaa e2
        subst e1 e2
        obtain ⟨hle, h⟩ := Zag h
        simp only [decide_eq_true_eq] at hle
        refine ⟨_, h, by simp, fun w0 own γ st a w v hR hst hc => ⟨?_, by simp⟩⟩
        exact ZoV hR ((hst k (by simp [Zcy])).trans (Za5 hk)) hle hc
      · exact h.elim
    · rename_i tag wd' rows i row hk
      split at h
      · rename_i hb
        simp only [Bool.and_eq_true] at hb
        obtain ⟨e1, e2⟩ := hb
        have e1 := Zaa e1; have e2 := Zaa e2
        subst e1 e2
        split at h
        · rename_i ds hds
          obtain ⟨hle, h⟩ := Zag h
          simp only [decide_eq_true_eq] at hle
          refine ⟨_, h, by simp, fun w0 own γ st a w v hR hst hc => ⟨?_, by simp⟩⟩
          refine ZoV hR (((hst k (by simp [Zcy])).trans (Za5 hk)).trans ?_) hle hc
          simp only [XRoot.root, Zip, ← Za0 _ _ hds]
        · exact h.elim
      · exact h.elim
    · exact h.elim
  | n + 1, .rp k g wd i j, K, h => by
    simp only [evC] at h
    split at h
    · rename_i tag wd' row hk
      split at h
      · rename_i hb
        simp only [Bool.and_eq_true] at hb
        obtain ⟨e1, e2, e3⟩ := hb
        have e1 := Zaa e1; have e2 := Zaa e2; have e3 := Zaa e3
        subst e1 e2 e3
        obtain ⟨ds, h1, h2, h3⟩ := ZcV (fun c K => Zdr n c K) row _ h
        refine ⟨_, h1, by simp, fun w0 own γ st a w v hR hst hc => ⟨?_, by simp⟩⟩
        have hS := Za5 (x := x) hk
        have hk' : st.store k = some (XRoot.bx tag wd' row).root := (hst k (by simp [Zcy])).trans hS
        obtain ⟨b, rfl, hβ, hg⟩ := (AR.c (γ := γ) _ _ hc).rp_inv
        have hm := hR.mem k _ hk'
        unfold RootOK at hm
        rw [show (XRoot.bx tag wd' row).root.tag = tag from rfl, hβ] at hm
        obtain ⟨arr, E', harr, hw, hsz, hcell⟩ := hm
        have hrl : row.length = wd' := hw row (by simp [XRoot.root])
        have hsz' : wd' ≤ arr.size := by
          have : 1 * wd' ≤ arr.size := hsz
          omega
        refine .p 0 ds b (0 * wd') j (fun q => arr.getD (0 * wd' + q) undef) (hR.ltβ k tag b hg hβ) (fun q hq => ?_) (fun q d hd => ?_)
        · have hpos : q < arr.size := by omega
          simp [World.cell?, harr, hpos]
        · have hq : q < row.length := by have := (List.getElem?_eq_some_iff.1 hd).1; omega
          have hc' : row[q]? = some row[q] := List.getElem?_eq_getElem hq
          have hfc := h3 q row[q] d hc' hd
          have hsr := hcell 0 q row row[q] rfl hc'
          generalize hy : row[q] = y at hsr hfc
          have hkeys : ∀ k', k' ∈ Zcy x.S.store n y → st.store k' = x.S.store k' := fun k' hk' => hst k' (by
            simp only [Zcy, hS]
            refine List.mem_cons_of_mem _ (List.mem_flatMap.2 ⟨y, ?_, hk'⟩)
            have : y ∈ row := by rw [← hy]; exact List.getElem_mem hq
            simpa [XRoot.root] using this)
          cases y with
          | d x' =>
            have := hfc.1 x' rfl
            subst this
            exact (hsr.read.mono hR.lt (Same.refl _ _)).ro1
          | _ => exact (hfc.2 w0 own γ st a w _ hR hkeys hsr).1
      · exact h.elim
    · rename_i tag wd' rows hk
      split at h
      · rename_i hb
        simp only [Bool.and_eq_true] at hb
        obtain ⟨e1, e2⟩ := hb
        have e1 := Zaa e1; have e2 := Zaa e2
        subst e1 e2
        obtain ⟨hi, h⟩ := Zag h
        simp only [decide_eq_true_eq] at hi
        refine ⟨_, h, by simp, fun w0 own γ st a w v hR hst hc => ⟨?_, by simp⟩⟩
        have hk' : st.store k = some (XRoot.sl tag wd' rows).root := (hst k (by simp [Zcy])).trans (Za5 hk)
        obtain ⟨b, rfl, hβ, hg⟩ := (AR.c (γ := γ) _ _ hc).rp_inv
        have hm := hR.mem k _ hk'
        unfold RootOK at hm
        rw [show (XRoot.sl tag wd' rows).root.tag = tag from rfl, hβ] at hm
        obtain ⟨arr, E', harr, hw, hsz, hcell⟩ := hm
        have hrow : (emb rows)[i]? = some ((rows.getD i []).map C.d) := Zmg hi
        have hrl : (rows.getD i []).length = wd' := by simpa [XRoot.root] using hw _ (List.mem_of_getElem? hrow)
        have hsz' : rows.length * wd' ≤ arr.size := by
          have : (emb rows).length * wd' ≤ arr.size := hsz
          simpa [emb] using this
        refine .p 0 _ b (i * wd') j (fun q => arr.getD (i * wd' + q) undef) (hR.ltβ k tag b hg hβ) (fun q hq => ?_) (fun q d hd => ?_)
        · have hpos : i * wd' + q < arr.size := Nat.lt_of_lt_of_le (Zbc hi (by omega)) hsz'
          simp [World.cell?, harr, hpos]
        · have := hcell i q _ (.d d) hrow (by rw [List.getElem?_map, hd]; rfl)
          exact this.read.mono hR.lt (Same.refl _ _)
      · exact h.elim
    · exact h.elim
    · exact h.elim
  | n + 1, .cf fn fs cs, K, h => by
    simp only [evC] at h
    obtain ⟨ds, h1, h2, h3⟩ := ZcV (fun c K => Zdr n c K) fs _ h
    obtain ⟨es, h4, h5, h6⟩ := ZcV (fun c K => Zdr n c K) cs _ h1
    refine ⟨_, h4, by simp, fun w0 own γ st a w v hR hst hc => ⟨?_, by simp⟩⟩
    cases hc with
    | ca _ vs s1 c1 =>
      have hds : ds = [] := List.eq_nil_of_length_eq_zero (by rw [← h2]; rfl)
      subst hds
      refine .a es vs (by omega) (fun i d hd => ?_)
      have hq : i < cs.length := by have := (List.getElem?_eq_some_iff.1 hd).1; omega
      exact ((h6 i _ d (List.getElem?_eq_getElem hq) hd).2 w0 own γ st a w _ hR (fun k hk => hst k (by simp only [Zcy]; exact List.mem_append_right _ (List.mem_flatMap.2 ⟨_, List.getElem_mem hq, hk⟩))) (c1 i _ (List.getElem?_eq_getElem hq))).1
    | cf _ _ _ fv cv s0 s1 s2 c1 c2 =>
      refine .f fn ds es fv cv s0 (by omega) (by omega) (fun i d hd => ?_) (fun i d hd => ?_)
      · have hq : i < fs.length := by have := (List.getElem?_eq_some_iff.1 hd).1; omega
        exact ((h3 i _ d (List.getElem?_eq_getElem hq) hd).2 w0 own γ st a w _ hR (fun k hk => hst k (by simp only [Zcy]; exact List.mem_append_left _ (List.mem_flatMap.2 ⟨_, List.getElem_mem hq, hk⟩))) (c1 i _ (List.getElem?_eq_getElem hq))).1
      · have hq : i < cs.length := by have := (List.getElem?_eq_some_iff.1 hd).1; omega
        exact ((h6 i _ d (List.getElem?_eq_getElem hq) hd).2 w0 own γ st a w _ hR (fun k hk => hst k (by simp only [Zcy]; exact List.mem_append_right _ (List.mem_flatMap.2 ⟨_, List.getElem_mem hq, hk⟩))) (c2 i _ (List.getElem?_eq_getElem hq))).1
  | n + 1, .non, K, h => h.elim
end

end Vm
