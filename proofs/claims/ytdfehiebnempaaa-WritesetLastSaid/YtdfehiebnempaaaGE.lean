/- An interpreter for Go's texts over plain data, and its proof: what it answers is what the model does. My own work. -/
import Derived.Test.YtdfehiebnempaaaGC
import Derived.Laws.Slices
import Derived.Deep.AppendSrc
import Derived.Deep.Upon
import Derived.Laws.MakeOwn
import Derived.Laws.Cover3
namespace Vm
section
open Go
set_option linter.unusedSimpArgs false
set_option linter.unusedVariables false

variable {P : Program} {w0 : World} {own : Nat → Prop} {γ : Gh} {st : St} {a : Act} {w : World} {o : Oper} {x : X} {ops : Array Oper}

/-! ### a part of a slice that is read -/
theorem cut_get {rows : List (List D)} {l n i : Nat} (hi : i < n) : (cut rows l n)[i]? = rows[l + i]? := by
  simp [cut, List.getElem?_take, hi, List.getElem?_drop]
theorem cut_len {rows : List (List D)} {l n : Nat} (h : l + n ≤ rows.length) : (cut rows l n).length = n := by simp [cut]; omega

theorem DR.sliced {G : Nat → Prop} {A : Option Addr} {len cap t z : Nat} {rows sp : List (List D)} (h : DR w G (.slice A len cap) (.s t z rows sp)) {l h' m : Nat} (hl : l ≤ h') (hh : h' ≤ rows.length + sp.length) (hm : h' ≤ m) (hmc : m ≤ cap) :
    DR w G (Go.sliced A l h' m z) (.s t z (cut (rows ++ sp) l (h' - l)) []) := by
  by_cases he : h' = l
  · subst he
    have e1 : cut (rows ++ sp) h' (h' - h') = [] := by simp [cut]
    rw [e1]
    unfold Go.sliced
    rw [Nat.sub_self]
    exact .e _ _ _ _
  · have hlt : l < h' := by omega
    cases h with
    | e _ _ _ _ => simp at hh; omega
    | s _ _ _ b off _ sz vs hb hr hlc hc hd =>
      have hml : ¬ (m = l) := by omega
      unfold Go.sliced
      rw [if_neg hml]
      simp only [Option.map_some, addr_add]
      have hcl : (cut (rows ++ sp) l (h' - l)).length = h' - l := cut_len (by simp; omega)
      have hget : ∀ (i : Nat) r, (cut (rows ++ sp) l (h' - l) ++ [])[i]? = some r → i < h' - l ∧ (rows ++ sp)[l + i]? = some r := fun i r hi => by
        rw [List.append_nil] at hi
        have hil : i < h' - l := by rw [← hcl]; exact (List.getElem?_eq_some_iff.1 hi).1
        rw [cut_get hil] at hi
        exact ⟨hil, hi⟩
      have key := DR.s (w := w) (G := G) t (cut (rows ++ sp) l (h' - l)) [] b (off + l * z) (m - l) z (fun i j => vs (l + i) j) hb (fun r hrm => by
          obtain ⟨i, hi⟩ := List.getElem?_of_mem hrm
          exact hr r (List.mem_of_getElem? (hget i r hi).2)) (by rw [hcl]; simp; omega) (fun i j hi hj => by
          rw [hcl] at hi
          simp at hi
          have := hc (l + i) j (by omega) hj
          rw [Nat.add_mul] at this
          have e : off + l * z + (i * z + j) = off + (l * z + i * z + j) := by omega
          rw [e]; exact this) (fun i j r d h1 h2 => hd (l + i) j r d (hget i r h1).2 h2)
      rw [hcl] at key
      exact key

theorem DR.slice_inv {G : Nat → Prop} {v : Value} {t z : Nat} {rows sp : List (List D)} (h : DR w G v (.s t z rows sp)) : ∃ A cap, v = .slice A rows.length cap ∧ rows.length + sp.length ≤ cap := by
  cases h with
  | e A _ _ cap => exact ⟨A, cap, rfl, by simp⟩
  | s _ _ _ b off cap _ vs _ _ hl _ _ => exact ⟨_, cap, rfl, hl⟩

/-- The bounds, where they are told. -/
def bnd (st : St) : Option Operand → Nat → Option Int
  | none, d => some d
  | some y, _ => match evA st y with | .c (.d (.v (.int _ n))) => some n | _ => none

theorem bnd_val {y : Operand} {d : Nat} {n : Int} (hR : Rel w0 own γ st a w) (h : bnd st (some y) d = some n) : ∃ k, a.eval y = .int k n := by
  simp only [bnd] at h
  split at h
  · rename_i k n' hy
    cases h
    have := hR.ev y
    rw [hy] at this
    exact ⟨k, (AR.sc_inv this).1⟩
  · cases h

theorem op_sliceD {t e : TypeId} {y : Operand} {lo hi : Option Operand} {tg z : Nat} {rows sp : List (List D)} {l h : Int} (hd : st.fits o.dst = true) (ho : o.op = .slice t y lo hi none) (hy : evA st y = .c (.d (.s tg z rows sp))) (ht : P.underlying t = some (.slice e)) (hz : szT P e = some z)
    (hl : bnd st lo 0 = some l) (hh : bnd st hi rows.length = some h) (h0 : 0 ≤ l) (h1 : l ≤ h) (h2 : h ≤ (rows.length + sp.length : Nat)) :
    OpOK P w0 own o st (st.put o.dst (.c (.d (.s tg z (cut (rows ++ sp) l.toNat (h.toNat - l.toNat)) [])))) :=
  .value hd fun γ a w hR => by
    have hv := hR.ev y
    rw [hy] at hv
    have hv := hv.d_inv
    obtain ⟨A, cap, ev, hcap⟩ := hv.slice_inv
    rw [ev] at hv
    have hel : P.underlying t = some (.slice (P.elem t)) := by
      have : P.elem t = e := by simp [Program.elem, ht]
      rw [this]; exact ht
    have hsz : (Go.sizeOf (P.elem t)).run P w = .ok z w := by
      have : P.elem t = e := by simp [Program.elem, ht]
      rw [this]; exact run_size hz w
    have key : (Instr.slice t (.slice A rows.length cap) (lo.map a.eval) (hi.map a.eval) none).run P w = .ok (Go.sliced A l.toNat h.toNat cap z) w := by
      cases lo with
      | none =>
        simp only [bnd, Option.some.injEq] at hl
        subst hl
        cases hi with
        | none =>
          simp only [bnd, Option.some.injEq] at hh
          subst hh
          simp only [Option.map_none]
          rw [run_slice_all w t A rows.length cap hel, hsz]; simp
        | some yh =>
          obtain ⟨k, ek⟩ := bnd_val hR hh
          simp only [Option.map_none, Option.map_some, ek]
          rw [run_slice_h w t A rows.length cap hel k h (by omega) (by omega), hsz]; simp
      | some yl =>
        obtain ⟨k, ek⟩ := bnd_val hR hl
        cases hi with
        | none =>
          simp only [bnd, Option.some.injEq] at hh
          subst hh
          simp only [Option.map_none, Option.map_some, ek]
          rw [run_slice_l w t A rows.length cap hel k l h0 (by omega), hsz]; simp
        | some yh =>
          obtain ⟨k2, ek2⟩ := bnd_val hR hh
          simp only [Option.map_some, ek, ek2]
          rw [run_slice_lh w t A rows.length cap hel k k2 l h h0 h1 (by omega), hsz]; simp
    refine ⟨γ, w, Go.sliced A l.toNat h.toNat cap z, ?_, γ.le_refl, hR, ?_⟩
    · unfold execOp
      rw [ho]
      simp only [ev, Option.map_none, Sem.run_bind]
      rw [run_sliceAt_slice w t _ _ _ _ hel, key]
      rfl
    · have := hv.sliced (l := l.toNat) (h' := h.toNat) (m := cap) (by omega) (by omega) (by omega) (Nat.le_refl _)
      exact .c _ _ (.d _ _ (by
        have e1 : (D.s tg z (cut (rows ++ sp) l.toNat (h.toNat - l.toNat)) []).top0 = (D.s tg z rows sp).top0 := rfl
        rw [e1]; exact this))
end

section
open Go
set_option linter.unusedSimpArgs false
set_option linter.unusedVariables false

variable {P : Program} {w0 : World} {own : Nat → Prop} {γ : Gh} {st : St} {a : Act} {w : World} {o : Oper} {x : X} {ops : Array Oper}

/-! ### a root begins anew, in its old block or in a new one -/
def Gh.redo (γ : Gh) (k : Nat) (b : Option Nat) (sub : Nat → Nat → Nat → Prop) : Gh :=
  { β := fun k' g => if k' = k ∧ g = γ.gen k + 1 then b else γ.β k' g
    F := fun c => γ.F c ∨ ((∃ i j, γ.FP k i j c) ∧ ∀ i j, ¬ sub i j c)
    FP := fun k' i j c => if k' = k then sub i j c else γ.FP k' i j c
    gen := fun k' => if k' = k then γ.gen k + 1 else γ.gen k'
    F0 := γ.F0 }

theorem Gh.redo_new (γ : Gh) (k : Nat) (b : Option Nat) (sub : Nat → Nat → Nat → Prop) : (γ.redo k b sub).β k (γ.gen k + 1) = b := by simp [Gh.redo]
theorem Gh.redo_gen (γ : Gh) (k : Nat) (b : Option Nat) (sub : Nat → Nat → Nat → Prop) : (γ.redo k b sub).gen k = γ.gen k + 1 := by simp [Gh.redo]

theorem Gh.redo_G {γ : Gh} {k : Nat} {b : Option Nat} {sub : Nat → Nat → Nat → Prop} (hsub : ∀ i j c, sub i j c → γ.FP k i j c) (c : Nat) : (γ.redo k b sub).G c ↔ γ.G c := by
  constructor
  · rintro ((h | ⟨⟨i, j, h⟩, _⟩) | ⟨k', i, j, h⟩)
    · exact .inl h
    · exact .inr ⟨k, i, j, h⟩
    · simp only [Gh.redo] at h
      split at h
      · exact .inr ⟨k, i, j, hsub _ _ _ h⟩
      · exact .inr ⟨k', i, j, h⟩
  · rintro (h | ⟨k', i, j, h⟩)
    · exact .inl (.inl h)
    · by_cases hk : k' = k
      · subst hk
        by_cases hs : ∃ i j, sub i j c
        · obtain ⟨i', j', hs⟩ := hs
          exact .inr ⟨k', i', j', by simp [Gh.redo]; exact hs⟩
        · exact .inl (.inr ⟨⟨i, j, h⟩, fun i' j' h' => hs ⟨i', j', h'⟩⟩)
      · exact .inr ⟨k', i, j, by simp [Gh.redo, hk]; exact h⟩

theorem Gh.redo_le (γ : Gh) (k : Nat) (b : Option Nat) (sub : Nat → Nat → Nat → Prop) (hsub : ∀ i j c, sub i j c → γ.FP k i j c) : γ.le (γ.redo k b sub) :=
  { gen := fun k' => by
      show γ.gen k' ≤ if k' = k then γ.gen k + 1 else γ.gen k'
      split
      · rename_i e; subst e; omega
      · exact Nat.le_refl _
    β := fun k' g hg => by
      show (if k' = k ∧ g = γ.gen k + 1 then b else γ.β k' g) = γ.β k' g
      rw [if_neg]
      rintro ⟨rfl, rfl⟩; omega
    F := fun c hc => .inl hc
    G := fun c hc => (Gh.redo_G hsub c).2 hc
    F0 := rfl }

/-- The world has turned at one root's block alone (or beyond all blocks), and that root begins anew. -/
theorem Rel.redo {w' : World} (h : Rel w0 own γ st a w) {k : Nat} {R : Root} (hk : st.store k = some R) (box : Bool) (wd : Nat) (rows : List (List C)) (b : Option Nat) (sub : Nat → Nat → Nat → Prop) (hsub : ∀ i j c, sub i j c → γ.FP k i j c)
    (hb : ∀ c, b = some c → γ.β k R.tag = some c ∨ (w.heap.size ≤ c ∧ c < w'.heap.size))
    (hheap : ∀ c, c < w.heap.size → γ.β k R.tag ≠ some c → w'.heap[c]? = w.heap[c]?) (hz : Shapes w w') (hs : w.heap.size ≤ w'.heap.size) (ho : w'.os = w.os) (ht : w'.tape = w.tape) (hp : w'.output = w.output)
    (hmem : Same γ.G w w' → RootOK (γ.redo k b sub) w' k ⟨st.gen k + 1, box, wd, rows⟩) :
    Rel w0 own (γ.redo k b sub) (st.root k box wd rows) a w' := by
  have hle := γ.redo_le k b sub hsub
  have hgk : γ.gen k = st.gen k := congrFun h.gen k
  have hroot : ∀ c, γ.β k R.tag = some c → ¬ γ.F c ∧ (∀ k' i j, ¬ γ.FP k' i j c) ∧ (own c ∨ w0.heap.size ≤ c) := fun c hc => h.rootF k R c hk hc
  have hbG : ∀ c, γ.β k R.tag = some c → ¬ γ.G c := fun c hc hG => by
    obtain ⟨p1, p2, _⟩ := hroot c hc
    rcases hG with hG | ⟨_, _, _, hG⟩
    · exact p1 hG
    · exact p2 _ _ _ hG
  have hS : Same γ.G w w' := fun c hG => hheap c (h.lt c hG) fun e => hbG c e hG
  have hfreshG : ∀ c, w.heap.size ≤ c → ¬ γ.G c := fun c hc hG => by have := h.lt c hG; omega
  have hnew : (γ.redo k b sub).β k (st.gen k + 1) = b := by rw [← hgk]; exact γ.redo_new k b sub
  have hold : ∀ k' g, k' ≠ k → (γ.redo k b sub).β k' g = γ.β k' g := fun k' g hk' => by simp [Gh.redo, hk']
  have hst : ∀ k' R', (st.root k box wd rows).store k' = some R' → (k' = k ∧ R' = ⟨st.gen k + 1, box, wd, rows⟩) ∨ (k' ≠ k ∧ st.store k' = some R') := by
    intro k' R' h1
    simp only [St.root] at h1
    split at h1
    · cases h1; exact .inl ⟨‹_›, rfl⟩
    · exact .inr ⟨‹_›, h1⟩
  have hltβ : ∀ k' R' c, st.store k' = some R' → γ.β k' R'.tag = some c → c < w.heap.size := fun k' R' c h1 h2 => h.ltβ k' R'.tag c (by rw [h.gen]; exact h.tag k' R' h1) h2
  refine { env := ?_, size := h.size, defers := h.defers, tmps := fun i => (h.tmps i).mono hle hS hz, gen := ?_, tag := ?_, mem := ?_, inj := ?_, rootF := ?_, fpF := ?_, fpD := ?_, fs := ?_, lt := ?_, ltβ := ?_ }
  · refine ⟨ho.trans h.env.os, ht.trans h.env.tape, hp.trans h.env.output, Nat.le_trans h.env.size hs, fun c hc hn => ?_, fun b s e => hz b s (h.env.shapes b s e)⟩
    rw [hheap c (Nat.lt_of_lt_of_le hc h.env.size) fun e => ?_]
    · exact h.env.block c hc hn
    · rcases (hroot c e).2.2 with q | q
      · exact hn q
      · omega
  · funext k'; simp only [Gh.redo, St.root]; split
    · rw [hgk]
    · exact congrFun h.gen k'
  · intro k' R' h1
    rcases hst k' R' h1 with ⟨rfl, rfl⟩ | ⟨n1, h3⟩
    · simp [St.root]
    · simp [St.root, n1]; exact h.tag k' R' h3
  · intro k' R' h1
    rcases hst k' R' h1 with ⟨rfl, rfl⟩ | ⟨n1, h3⟩
    · exact hmem hS
    · refine (h.mem k' R' h3).mono hle hS hz (by rw [h.gen]; exact h.tag k' R' h3) (fun c hβ => hheap c (hltβ k' R' c h3 hβ) fun e => n1 (h.inj k' R' k R c h3 hk hβ e)) (fun i j r c _ _ b => ?_)
      simp [Gh.redo, n1]
  · intro k1 R1 k2 R2 c h1 h2 h3 h4
    rcases hst k1 R1 h1 with ⟨rfl, rfl⟩ | ⟨n1, g1⟩ <;> rcases hst k2 R2 h2 with ⟨rfl, rfl⟩ | ⟨n2, g2⟩
    · rfl
    · rw [hnew] at h3
      rw [hold _ _ n2] at h4
      rcases hb c h3 with e | e
      · exact h.inj _ _ _ _ c hk g2 e h4
      · have := hltβ _ _ _ g2 h4; omega
    · rw [hnew] at h4
      rw [hold _ _ n1] at h3
      rcases hb c h4 with e | e
      · exact h.inj _ _ _ _ c g1 hk h3 e
      · have := hltβ _ _ _ g1 h3; omega
    · rw [hold _ _ n1] at h3
      rw [hold _ _ n2] at h4
      exact h.inj _ _ _ _ c g1 g2 h3 h4
  · intro k1 R1 c h1 h3
    rcases hst k1 R1 h1 with ⟨rfl, rfl⟩ | ⟨n1, g1⟩
    · rw [hnew] at h3
      rcases hb c h3 with e | e
      · obtain ⟨p1, p2, p3⟩ := hroot c e
        refine ⟨fun hF => ?_, fun k' i j hf => ?_, p3⟩
        · rcases hF with hF | ⟨⟨i, j, hF⟩, _⟩
          · exact p1 hF
          · exact p2 _ _ _ hF
        · simp only [Gh.redo] at hf
          split at hf
          · exact p2 _ _ _ (hsub _ _ _ hf)
          · exact p2 _ _ _ hf
      · refine ⟨fun hF => hfreshG c e.1 ((Gh.redo_G hsub c).1 (.inl hF)), fun k' i j hf => hfreshG c e.1 ((Gh.redo_G (b := b) hsub c).1 (.inr ⟨k', i, j, hf⟩)), .inr (Nat.le_trans h.env.size e.1)⟩
    · rw [hold _ _ n1] at h3
      obtain ⟨p1, p2, p3⟩ := h.rootF k1 R1 c g1 h3
      refine ⟨fun hF => ?_, fun k' i j hf => ?_, p3⟩
      · rcases hF with hF | ⟨⟨i, j, hF⟩, _⟩
        · exact p1 hF
        · exact p2 _ _ _ hF
      · simp only [Gh.redo] at hf
        split at hf
        · exact p2 _ _ _ (hsub _ _ _ hf)
        · exact p2 _ _ _ hf
  · intro k1 i j c hf
    simp only [Gh.redo] at hf
    split at hf
    · obtain ⟨p1, p2⟩ := h.fpF _ _ _ _ (hsub _ _ _ hf)
      refine ⟨fun hF => ?_, p2⟩
      rcases hF with hF | ⟨_, hF⟩
      · exact p1 hF
      · exact hF _ _ hf
    · rename_i n1
      obtain ⟨p1, p2⟩ := h.fpF _ _ _ _ hf
      refine ⟨fun hF => ?_, p2⟩
      rcases hF with hF | ⟨⟨i', j', hF⟩, _⟩
      · exact p1 hF
      · exact n1 (h.fpD _ _ _ _ _ _ _ hf hF).1
  · intro k1 i1 j1 k2 i2 j2 c h1 h2
    simp only [Gh.redo] at h1 h2
    split at h1 <;> split at h2
    · rename_i e1 e2; subst e1 e2; exact h.fpD _ _ _ _ _ _ _ (hsub _ _ _ h1) (hsub _ _ _ h2)
    · rename_i e1 e2; exact (e2 (h.fpD _ _ _ _ _ _ _ (hsub _ _ _ h1) h2).1.symm).elim
    · rename_i e1 e2; exact (e1 (h.fpD _ _ _ _ _ _ _ h1 (hsub _ _ _ h2)).1).elim
    · exact h.fpD _ _ _ _ _ _ _ h1 h2
  · rintro c (hF | ⟨⟨i, j, hF⟩, _⟩)
    · exact h.fs c hF
    · exact .inr (h.fpF _ _ _ _ hF).2
  · intro c hG
    exact Nat.lt_of_lt_of_le (h.lt c ((Gh.redo_G hsub c).1 hG)) hs
  · intro k1 g c hg hβ
    simp only [Gh.redo] at hg hβ
    by_cases e : k1 = k ∧ g = γ.gen k + 1
    · rw [if_pos e] at hβ
      rcases hb c hβ with e2 | e2
      · have := hltβ k R c hk e2; omega
      · exact e2.2
    · rw [if_neg e] at hβ
      have hg' : g ≤ γ.gen k1 := by
        by_cases e1 : k1 = k
        · subst e1
          simp at hg e
          omega
        · simpa [e1] using hg
      have := h.ltβ k1 g c hg' hβ
      omega
end

section
open Go
set_option linter.unusedSimpArgs false
set_option linter.unusedVariables false

variable {P : Program} {w0 : World} {own : Nat → Prop} {γ : Gh} {st : St} {a : Act} {w : World} {o : Oper} {x : X} {ops : Array Oper}

/-! ### rows of plain cells that are read -/
def D.isV : D → Bool
  | .v _ => true
  | _ => false
def allV (rows : List (List D)) : Bool := rows.all fun r => r.all D.isV

/-- What a slice value yields: rows of plain cells. -/
def srcD (st : St) (wd : Nat) (y : A) : Option (List (List D)) :=
  match y with
  | .c (.d (.s _ z rows _)) => if z = wd ∧ allV rows = true then some rows else none
  | .c (.d (.v (.slice none 0 0))) => some []
  | .c (.rs k g wd' lo len kn) => (st.store k).bind fun R => if R.tag = g ∧ R.wd = wd ∧ wd' = wd ∧ lo + len ≤ R.rows.length then (strip R.rows).bind fun rows => if allV (cut rows lo len) = true then some (cut rows lo len) else none else none
  | _ => none

/-- The cells are there. -/
structure Laid (w : World) (wd : Nat) (v : Value) (rows : List (List D)) (vs : Nat → Nat → Value) : Prop where
  val : ∃ A cap, v = .slice A rows.length cap ∧ ∀ i j, i < rows.length → j < wd → ∃ b off, A = some ⟨b, off, none⟩ ∧ w.cell? ⟨b, off + (i * wd + j), none⟩ = some (vs i j)
  wid : ∀ r ∈ rows, r.length = wd
  get : ∀ i j r d, rows[i]? = some r → r[j]? = some d → d = .v (vs i j) ∧ plain (vs i j) = true

theorem allV_get {rows : List (List D)} (h : allV rows = true) {i j : Nat} {r : List D} {d : D} (h1 : rows[i]? = some r) (h2 : r[j]? = some d) : ∃ x, d = .v x := by
  have := List.all_eq_true.1 (List.all_eq_true.1 h r (List.mem_of_getElem? h1)) d (List.mem_of_getElem? h2)
  cases d <;> simp [D.isV] at this
  exact ⟨_, rfl⟩

theorem srcD_spec (hR : Rel w0 own γ st a w) {wd : Nat} {y : A} {v : Value} {rows : List (List D)} (hv : AR γ w v y) (h : srcD st wd y = some rows) : ∃ vs, Laid w wd v rows vs := by
  unfold srcD at h
  split at h
  · rename_i t z rows' sp
    split at h
    · rename_i hc
      obtain ⟨rfl, hall⟩ := hc
      cases h
      have hd := hv.d_inv
      cases hd with
      | e A _ _ cap => exact ⟨fun _ _ => undef, ⟨⟨A, cap, rfl, fun i j hi => by simp at hi⟩, by simp, by simp⟩⟩
      | s _ _ _ b off cap _ vs hb hr hl hc hd =>
        refine ⟨vs, ⟨⟨_, cap, rfl, fun i j hi hj => ⟨b, off, rfl, hc i j (by omega) hj⟩⟩, fun r hrm => hr r (List.mem_append_left _ hrm), fun i j r d h1 h2 => ?_⟩⟩
        have hlt := (List.getElem?_eq_some_iff.1 h1).1
        have h1' : (rows ++ sp)[i]? = some r := by rw [List.getElem?_append_left hlt]; exact h1
        have := hd i j r d h1' h2
        obtain ⟨x, rfl⟩ := allV_get hall h1 h2
        generalize vs i j = u at this ⊢
        cases this with
        | v _ hp => exact ⟨rfl, hp⟩
    · cases h
  · cases h
    have hd := (AR.sc_inv (show AR γ w v (sc (.slice none 0 0)) from hv)).1
    subst hd
    exact ⟨fun _ _ => undef, ⟨⟨none, 0, rfl, fun i j hi => by simp at hi⟩, by simp, by simp⟩⟩
  · rename_i k g wd' lo len kn
    obtain ⟨R, hk, h9⟩ := Option.bind_eq_some_iff.1 h
    clear h
    split at h9
    · rename_i hc
      obtain ⟨e1, e2, e3, hle⟩ := hc
      subst e1 e3
      obtain ⟨rows', hs, h8⟩ := Option.bind_eq_some_iff.1 h9
      clear h9
      split at h8
      · rename_i hall
        cases h8
        have hrows := strip_spec _ _ hs
        have hm := hR.mem k R hk
        unfold RootOK at hm
        have hlr : rows'.length = R.rows.length := by rw [hrows]; simp [emb]
        have hll : (cut rows' lo len).length = len := cut_len (by omega)
        have hget : ∀ (i : Nat) r, (cut rows' lo len)[i]? = some r → i < len ∧ rows'[lo + i]? = some r := fun i r hi => by
          have hil : i < len := by rw [← hll]; exact (List.getElem?_eq_some_iff.1 hi).1
          rw [cut_get hil] at hi
          exact ⟨hil, hi⟩
        rcases hv.rs_inv with ⟨cap, b, E, n, rfl, hβ, hg, hsh, hcap, hlc, hkn⟩ | ⟨⟨A, rfl⟩, rfl, rfl, rfl, hβ, hg⟩
        · rw [hβ] at hm
          obtain ⟨arr, E', harr, hw, hsz, hcell⟩ := hm
          refine ⟨fun i j => arr.getD ((lo + i) * wd' + j) undef, ⟨⟨some ⟨b, lo * wd', none⟩, cap, by rw [hll], fun i j hi hj => ⟨b, _, rfl, ?_⟩⟩, fun r hr => ?_, fun i j r d h1 h2 => ?_⟩⟩
          · rw [hll] at hi
            rw [e2] at hsz
            have hpos : (lo + i) * wd' + j < arr.size := Nat.lt_of_lt_of_le (row_lt (by omega : lo + i < R.rows.length) hj) hsz
            have e : lo * wd' + (i * wd' + j) = (lo + i) * wd' + j := by rw [Nat.add_mul]; omega
            rw [e]
            simp [World.cell?, harr, hpos]
          · obtain ⟨i, hi⟩ := List.getElem?_of_mem hr
            obtain ⟨_, hi⟩ := hget i r hi
            have : r.map C.d ∈ R.rows := by rw [hrows]; exact List.mem_map.2 ⟨r, List.mem_of_getElem? hi, rfl⟩
            rw [← e2]
            simpa using hw _ this
          · obtain ⟨_, h1'⟩ := hget i r h1
            obtain ⟨u, rfl⟩ := allV_get hall h1 h2
            obtain ⟨r', g1, g2⟩ := emb_get h1' h2
            rw [← hrows] at g1
            have hsr := hcell _ _ _ _ g1 g2
            rw [e2] at hsr
            have := CR.sc_inv (show CR γ w _ (.d (.v u)) from hsr)
            rw [this.1]
            exact ⟨rfl, this.2⟩
        · refine ⟨fun _ _ => undef, ⟨⟨A, 0, by simp [cut], fun i j hi => by simp [cut] at hi⟩, by simp [cut], by simp [cut]⟩⟩
      · cases h8
    · cases h9
  · cases h

theorem plain_one {v : Value} (h : plain v = true) : v.oneCell' = true := by
  unfold plain at h
  split at h <;> first | rfl | cases h

def news (wd n : Nat) (vs : Nat → Nat → Value) : List Value := (List.range (n * wd)).map fun q => vs (q / wd) (q % wd)
theorem news_length (wd n : Nat) (vs : Nat → Nat → Value) : (news wd n vs).length = n * wd := by simp [news]
theorem news_get {wd n : Nat} {vs : Nat → Nat → Value} {i j : Nat} (hi : i < n) (hj : j < wd) : (news wd n vs)[i * wd + j]? = some (vs i j) := by
  have h := row_lt hi hj
  have e1 : (i * wd + j) / wd = i := by
    rw [Nat.mul_comm, Nat.mul_add_div (by omega)]; simp [Nat.div_eq_of_lt hj]
  have e2 : (i * wd + j) % wd = j := by
    rw [Nat.mul_comm, Nat.mul_add_mod]; exact Nat.mod_eq_of_lt hj
  simp only [news, List.getElem?_map, List.getElem?_range h, Option.map_some, e1, e2]
theorem news_split {wd n q : Nat} (hw : 0 < wd) (h : q < n * wd) : q / wd < n ∧ q % wd < wd ∧ q / wd * wd + q % wd = q :=
  ⟨(Nat.div_lt_iff_lt_mul hw).2 h, Nat.mod_lt _ hw, by rw [Nat.mul_comm]; exact Nat.div_add_mod q wd⟩

theorem Laid.src {wd : Nat} {v : Value} {rows : List (List D)} {vs : Nat → Nat → Value} (h : Laid w wd v rows vs) (hw : 0 < wd) {tx e' : TypeId} (hk : P.underlying tx = some (.slice e')) : Src P wd tx v rows.length (news wd rows.length vs) w := by
  obtain ⟨A, cap, rfl, hc⟩ := h.val
  have key : ∀ q u, (news wd rows.length vs)[q]? = some u → q < rows.length * wd ∧ u = vs (q / wd) (q % wd) := fun q u hq => by
    have hlt := (List.getElem?_eq_some_iff.1 hq).1
    rw [news_length] at hlt
    obtain ⟨a1, a2, a3⟩ := news_split hw hlt
    have := news_get (vs := vs) a1 a2
    rw [a3, hq] at this
    cases this
    exact ⟨hlt, rfl⟩
  have hone : ∀ u ∈ news wd rows.length vs, u.oneCell' = true := fun u hu => by
    obtain ⟨q, hq⟩ := List.getElem?_of_mem hu
    obtain ⟨hlt, rfl⟩ := key q u hq
    obtain ⟨a1, a2, a3⟩ := news_split hw hlt
    have hr := List.getElem?_eq_getElem a1
    have hrl := h.wid _ (List.getElem_mem a1)
    obtain ⟨_, hp⟩ := h.get (q / wd) (q % wd) _ _ hr (List.getElem?_eq_getElem (by omega))
    exact plain_one hp
  cases A with
  | none =>
    have h0 : rows.length = 0 := by
      rcases Nat.eq_zero_or_pos rows.length with h0 | h0
      · exact h0
      · obtain ⟨b, off, e, _⟩ := hc 0 0 h0 hw
        cases e
    have hn : news wd rows.length vs = [] := by rw [h0]; simp [news]
    rw [hn, h0]
    exact .ofNil w hk cap
  | some A =>
    refine Src.ofSlice w hk A rows.length cap _ (news_length _ _ _) (fun q u hq => ?_) hone
    obtain ⟨hlt, rfl⟩ := key q u hq
    obtain ⟨a1, a2, a3⟩ := news_split hw hlt
    obtain ⟨b, off, e, hcell⟩ := hc _ _ a1 a2
    cases e
    rw [addr_add]
    rw [a3] at hcell
    exact hcell

/-- There is room: in one's own block. -/
theorem run_append_poke (t tx ty e : TypeId) (i : TypeInfo) (ht : P.underlying t = some (.slice e)) (hi : P.info? e = some i) (b sLen sCap : Nat) (x : Value) (n : Nat) (nw : List Value) (hs : Src P i.size tx x n nw w)
    {arr : Array Value} {E : TypeId} (hroom : sLen + n ≤ sCap) (harr : w.heap[b]? = some (.cells arr E (0, 0))) (hfit : sLen * i.size + nw.length ≤ arr.size) :
    (Builtin.append_ #[t, tx] ty #[.slice (some ⟨b, 0, none⟩) sLen sCap, x]).run P w = .ok (.slice (some ⟨b, 0, none⟩) (sLen + n) sCap) (w.setRow b (poke arr (sLen * i.size) nw)) := by
  have hst := run_storeCells_at P b (sLen * i.size) E nw 0 arr w harr (by simpa using hfit) hs.one
  simp only [Nat.add_zero] at hst
  have hst' : (storeCells ⟨b, sLen * i.size, none⟩ nw).run P w = .ok () (w.setRow b (poke arr (sLen * i.size) nw)) := hst
  rcases hs.kind with ⟨e', hk⟩ | hk <;> simp [Builtin.append_, run_underlying ht, run_underlying hk, Go.sizeOf, typeInfo, hi, hs.len, hroom, hs.cells, Addr.add_lit, hst']
end

section
open Go
set_option linter.unusedSimpArgs false
set_option linter.unusedVariables false

variable {P : Program} {w0 : World} {own : Nat → Prop} {γ : Gh} {st : St} {a : Act} {w : World} {o : Oper} {x : X} {ops : Array Oper}

theorem getD_of_get {α : Type} {arr : Array α} {i : Nat} {x d : α} (h : arr[i]? = some x) : arr.getD i d = x := by
  rw [Array.getD_eq_getD_getElem?, h]; rfl

theorem emb_append (x y : List (List D)) : emb (x ++ y) = emb x ++ emb y := by simp [emb]
theorem emb_len (x : List (List D)) : (emb x).length = x.length := by simp [emb]

/-- An empty slice of nobody's. -/
theorem Rel.empty (h : Rel w0 own γ st a w) (k wd : Nat) : ∃ γ', γ.le γ' ∧ Rel w0 own γ' (st.root k false wd []) a w ∧ ∀ A, CR γ' w (.slice A 0 0) (.rs k (st.gen k + 1) wd 0 0 0) := by
  obtain ⟨γ', q1, q2, q3, _, _⟩ := h.adopt k (v := .slice none 0 0) (z := wd) (rows := []) (sp := []) (S := fun _ => False) (.n none wd _) (fun _ h => h.elim)
  refine ⟨γ', q1, by simpa [emb] using q2, fun A => ?_⟩
  simp only [List.length_nil, Nat.add_zero] at q3
  rcases (AR.c (γ := γ') _ _ q3).rs_inv with ⟨_, _, _, _, e, _⟩ | ⟨_, _, _, _, hβ, hg⟩
  · cases e
  · exact .rn A k _ wd hg hβ

theorem take_emb_get {rows : List (List C)} {nr : List (List D)} {len i : Nat} {r : List C} (hl : len ≤ rows.length) (h : (rows.take len ++ emb nr)[i]? = some r) : (i < len ∧ rows[i]? = some r) ∨ (len ≤ i ∧ ∃ r0, nr[i - len]? = some r0 ∧ r = r0.map C.d) := by
  have hlen : (rows.take len).length = len := by simp; omega
  by_cases hi : i < len
  · left
    rw [List.getElem?_append_left (by omega), List.getElem?_take, if_pos hi] at h
    exact ⟨hi, h⟩
  · right
    rw [List.getElem?_append_right (by omega), hlen] at h
    simp only [emb, List.getElem?_map] at h
    obtain ⟨r0, h0, rfl⟩ := Option.map_eq_some_iff.1 h
    exact ⟨by omega, r0, h0, rfl⟩

/-- What 'append' comes to, over a slice of one's own. -/
theorem append_core (hR : Rel w0 own γ st a w) {t tx ty e e' : TypeId} {k len kn wd : Nat} {R : Root} {i : TypeInfo} {z : Value} {v u : Value} {nr : List (List D)} {vs : Nat → Nat → Value} (hk : st.store k = some R) (hw : R.wd = wd) (hlen : len ≤ R.rows.length)
    (hv : CR γ w v (.rs k R.tag wd 0 len kn)) (ht : P.underlying t = some (.slice e)) (htx : P.underlying tx = some (.slice e')) (hi : P.info? e = some i) (hsz : i.size = wd) (h0 : 0 < wd) (hz : i.zero = some z) (hzs : z.cells.size = wd)
    (hu : Laid w wd u nr vs) (hb : (len + nr.length) * i.bytes ≤ 140737488355328) (h63 : len + nr.length ≤ 9223372036854775807) :
    ∃ γ' w' v', (Builtin.append_ #[t, tx] ty #[v, u]).run P w = .ok v' w' ∧ γ.le γ' ∧ Rel w0 own γ' (st.root k false wd (R.rows.take len ++ emb nr)) a w' ∧ CR γ' w' v' (.rs k (st.gen k + 1) wd 0 (len + nr.length) (len + nr.length)) := by
  subst hsz
  have hgk : γ.gen k = st.gen k := congrFun hR.gen k
  have hsrc := hu.src h0 htx (P := P)
  have hnl := news_length i.size nr.length vs
  have hm := hR.mem k R hk
  unfold RootOK at hm
  have htl : (R.rows.take len).length = len := by simp; omega
  have hrl : (R.rows.take len ++ emb nr).length = len + nr.length := by rw [List.length_append, htl, emb_len]
  have hsub : ∀ (n : Nat) i' j c, (fun i' j c => i' < n ∧ γ.FP k i' j c) i' j c → γ.FP k i' j c := fun n i' j c h => h.2
  -- a new row
  have grow : ∀ (A : Option Addr) (cap : Nat) (olds : List Value), v = .slice A len cap → cap < len + nr.length → olds.length = len * i.size → (Builtin.firstCells i.size len (.slice A len cap)).run P w.drew = .ok olds.toArray w.drew →
      (∀ i' j r c, i' < len → R.rows[i']? = some r → r[j]? = some c → SR γ w (olds.getD (i' * i.size + j) undef) c (γ.FP k i' j)) → (∀ r ∈ R.rows, r.length = i.size) →
      ∃ γ' w' v', (Builtin.append_ #[t, tx] ty #[v, u]).run P w = .ok v' w' ∧ γ.le γ' ∧ Rel w0 own γ' (st.root k false i.size (R.rows.take len ++ emb nr)) a w' ∧ CR γ' w' v' (.rs k (st.gen k + 1) i.size 0 (len + nr.length) (len + nr.length)) := by
    intro A cap olds ev hg hol hold hcell hwd
    subst ev
    have hrun := run_append_grow_src (P := P) w t tx ty e i z ht hi hz A len cap olds hold u nr.length _ hsrc hg (by omega) (growslice_fits hg hb)
    have hge := grownCap_ge w (len + nr.length) cap e
    generalize hgc : grownCap w (len + nr.length) cap e = gc at hrun hge
    generalize harr2 : ((olds ++ news i.size nr.length vs).toArray ++ Builtin.zeroCells z.cells (gc - (len + nr.length))) = arr2 at hrun
    have hL : (olds ++ news i.size nr.length vs).length = (len + nr.length) * i.size := by rw [List.length_append, hol, hnl, Nat.add_mul]
    have hs2 : arr2.size = gc * i.size := by
      rw [← harr2, Array.size_append, List.size_toArray, hL, size_zeroCells, hzs, ← Nat.add_mul]
      congr 1; omega
    have hget : ∀ q, q < (len + nr.length) * i.size → arr2[q]? = (olds ++ news i.size nr.length vs)[q]? := fun q hq => by
      rw [← harr2, Array.getElem?_append_left (by simpa [hL] using hq), List.getElem?_toArray]
    refine ⟨_, _, _, hrun, γ.redo_le k (some w.heap.size) (fun i' j c => i' < len ∧ γ.FP k i' j c) (hsub len), ?_, ?_⟩
    · refine hR.redo hk false i.size _ (some w.heap.size) _ (hsub len) (fun c hc => .inr ?_) (fun c hc _ => RowKit.Below.heap_alloc w.drew _ c hc) (Shapes.alloc w.drew _) (by simp) rfl rfl rfl (fun hS => ?_)
      · cases hc; exact ⟨Nat.le_refl _, by simp⟩
      · unfold RootOK
        simp only [← hgk, Gh.redo_new]
        refine ⟨arr2, e, (by show (w.heap.push _)[w.heap.size]? = _; simp), ?_, ?_, ?_⟩
        · intro r hr
          rcases List.mem_append.1 hr with hr | hr
          · exact hwd r (List.mem_of_mem_take hr)
          · obtain ⟨r0, h0', rfl⟩ := List.mem_map.1 hr
            simpa using hu.wid r0 h0'
        · rw [hrl, hs2]; exact Nat.mul_le_mul_right _ hge
        · intro i' j r c hr hc
          rcases take_emb_get hlen hr with ⟨hil, hr'⟩ | ⟨hil, r0, hr0, rfl⟩
          · have hjl : j < i.size := by have := (List.getElem?_eq_some_iff.1 hc).1; rw [hwd r (List.mem_of_getElem? hr')] at this; exact this
            have hq : i' * i.size + j < len * i.size := row_lt hil hjl
            have hqL : i' * i.size + j < (len + nr.length) * i.size := by rw [Nat.add_mul]; omega
            have eg : arr2.getD (i' * i.size + j) undef = olds.getD (i' * i.size + j) undef := by
              rw [Array.getD_eq_getD_getElem?, hget _ hqL, List.getElem?_append_left (by omega), List.getD_eq_getElem?_getD]
            rw [eg]
            have e2 : (γ.redo k (some w.heap.size) (fun i' j c => i' < len ∧ γ.FP k i' j c)).FP k i' j = γ.FP k i' j := by
              funext c'; simp [Gh.redo, hil]
            rw [e2]
            exact (hcell i' j r c hil hr' hc).mono (γ.redo_le k _ _ (hsub len)) hS (Shapes.alloc w.drew _) (hS.mono fun b hb => .inr ⟨k, i', j, hb⟩)
          · have hi2 := (List.getElem?_eq_some_iff.1 hr0).1
            rw [List.getElem?_map] at hc
            obtain ⟨d, hd, rfl⟩ := Option.map_eq_some_iff.1 hc
            have hjl : j < i.size := by have := (List.getElem?_eq_some_iff.1 hd).1; rw [hu.wid r0 (List.mem_of_getElem? hr0)] at this; exact this
            obtain ⟨rfl, hp⟩ := hu.get _ _ _ _ hr0 hd
            have eq : i' * i.size + j = len * i.size + ((i' - len) * i.size + j) := by
              have : i' = len + (i' - len) := by omega
              rw [this, Nat.add_mul]; simp; omega
            have hq2 : (i' - len) * i.size + j < nr.length * i.size := row_lt hi2 hjl
            have eg : arr2.getD (i' * i.size + j) undef = vs (i' - len) j := by
              rw [Array.getD_eq_getD_getElem?, hget _ (by rw [Nat.add_mul]; omega), List.getElem?_append_right (by omega), hol]
              have : i' * i.size + j - len * i.size = (i' - len) * i.size + j := by omega
              rw [this, news_get hi2 hjl]; rfl
            rw [eg]
            exact SR.of_CR (.d _ _ (.v _ hp)) rfl
    · have := CR.rs (γ := γ.redo k (some w.heap.size) (fun i' j c => i' < len ∧ γ.FP k i' j c)) (w := w.drew.alloc (.cells arr2 e)) k (st.gen k + 1) i.size 0 (len + nr.length) (len + nr.length) gc w.heap.size e arr2.size (by rw [Gh.redo_gen, hgk]; exact Nat.le_refl _) (by rw [← hgk, Gh.redo_new])
        (by simp only [World.shape?]; rw [show (w.drew.alloc (.cells arr2 e)).heap[w.heap.size]? = some (.cells arr2 e (0, 0)) from heap_alloc_new w.drew _]) (by rw [hs2]; simp) hge hge
      simpa using this
  rcases (AR.c (γ := γ) _ _ hv).rs_inv with ⟨cap, b, E, n, ev, hβ, hg, hsh, hcap, hlc, hkn⟩ | ⟨⟨A, ev⟩, _, hl0, hk0, hβ, hg⟩
  · rw [hβ] at hm
    obtain ⟨arr, E', harr, hwd, hsz2, hcell⟩ := hm
    rw [hw] at hwd hsz2 hcell
    have hn : n = arr.size := by simp [World.shape?, harr] at hsh; exact hsh.2.symm
    have hE : E = E' := by simp [World.shape?, harr] at hsh; exact hsh.1.symm
    subst hn
    rw [Nat.zero_mul] at ev
    rw [Nat.zero_add] at hcap
    by_cases hroom : len + nr.length ≤ cap
    · subst ev
      have hfit : len * i.size + (news i.size nr.length vs).length ≤ arr.size := by
        rw [hnl, ← Nat.add_mul]
        exact Nat.le_trans (Nat.mul_le_mul_right _ hroom) hcap
      have hrun := run_append_poke (P := P) (w := w) t tx ty e i ht hi b len cap u nr.length _ hsrc hroom harr hfit
      obtain ⟨p1, p2, p3⟩ := hR.rootF k R b hk hβ
      have hz2 : Shapes w (w.setRow b (poke arr (len * i.size) (news i.size nr.length vs))) := .setRow harr (poke_size _ _ _ hfit)
      refine ⟨_, _, _, hrun, γ.redo_le k (some b) (fun i' j c => i' < len ∧ γ.FP k i' j c) (hsub len), ?_, ?_⟩
      · refine hR.redo hk false i.size _ (some b) _ (hsub len) (fun c hc => .inl ?_) (fun c hc hne => setRow_other _ _ _ _ fun ec => ?_) hz2 (by simp) (by simp) (by simp) (by simp) (fun hS => ?_)
        · cases hc; exact hβ
        · subst ec; exact hne hβ
        · unfold RootOK
          simp only [← hgk, Gh.redo_new]
          refine ⟨_, E', setRow_heap _ _ _ _ _ _ harr, ?_, ?_, ?_⟩
          · intro r hr
            rcases List.mem_append.1 hr with hr | hr
            · exact hwd r (List.mem_of_mem_take hr)
            · obtain ⟨r0, h0', rfl⟩ := List.mem_map.1 hr
              simpa using hu.wid r0 h0'
          · rw [hrl, poke_size _ _ _ hfit]
            exact Nat.le_trans (Nat.mul_le_mul_right _ hroom) hcap
          · intro i' j r c hr hc
            rw [poke_get _ _ _ hfit]
            rcases take_emb_get hlen hr with ⟨hil, hr'⟩ | ⟨hil, r0, hr0, rfl⟩
            · have hjl : j < i.size := by have := (List.getElem?_eq_some_iff.1 hc).1; rw [hwd r (List.mem_of_getElem? hr')] at this; exact this
              have hq : i' * i.size + j < len * i.size := row_lt hil hjl
              rw [if_neg (by omega)]
              have e2 : (γ.redo k (some b) (fun i' j c => i' < len ∧ γ.FP k i' j c)).FP k i' j = γ.FP k i' j := by
                funext c'; simp [Gh.redo, hil]
              rw [e2]
              exact (hcell i' j r c hr' hc).mono (γ.redo_le k _ _ (hsub len)) hS hz2 (hS.mono fun b hb => .inr ⟨k, i', j, hb⟩)
            · have hi2 := (List.getElem?_eq_some_iff.1 hr0).1
              rw [List.getElem?_map] at hc
              obtain ⟨d, hd, rfl⟩ := Option.map_eq_some_iff.1 hc
              have hjl : j < i.size := by have := (List.getElem?_eq_some_iff.1 hd).1; rw [hu.wid r0 (List.mem_of_getElem? hr0)] at this; exact this
              obtain ⟨rfl, hp⟩ := hu.get _ _ _ _ hr0 hd
              have eq : i' * i.size + j = len * i.size + ((i' - len) * i.size + j) := by
                have : i' = len + (i' - len) := by omega
                rw [this, Nat.add_mul]; simp; omega
              have hq2 : (i' - len) * i.size + j < nr.length * i.size := row_lt hi2 hjl
              rw [if_pos (by rw [hnl]; omega)]
              have eg : (news i.size nr.length vs).getD (i' * i.size + j - len * i.size) undef = vs (i' - len) j := by
                have : i' * i.size + j - len * i.size = (i' - len) * i.size + j := by omega
                rw [List.getD_eq_getElem?_getD, this, news_get hi2 hjl]; rfl
              rw [eg]
              exact SR.of_CR (.d _ _ (.v _ hp)) rfl
      · have := CR.rs (γ := γ.redo k (some b) (fun i' j c => i' < len ∧ γ.FP k i' j c)) (w := w.setRow b (poke arr (len * i.size) (news i.size nr.length vs))) k (st.gen k + 1) i.size 0 (len + nr.length) (len + nr.length) cap b E arr.size (by rw [Gh.redo_gen, hgk]; exact Nat.le_refl _) (by rw [← hgk, Gh.redo_new])
          (hz2 _ _ hsh) (by simpa using hcap) hroom hroom
        simpa using this
    · have hlm : len * i.size ≤ arr.size := Nat.le_trans (Nat.mul_le_mul_right _ hlc) hcap
      refine grow (some ⟨b, 0, none⟩) cap (arr.toList.take (len * i.size)) ev (by omega) (by simp; omega) ?_ ?_ hwd
      · refine run_firstCells_some w.drew i.size len ⟨b, 0, none⟩ len cap _ (by simp; omega) fun q x hq => ?_
        rw [addr_add, Nat.zero_add]
        have hql : q < len * i.size := by have := (List.getElem?_eq_some_iff.1 hq).1; simp at this; omega
        rw [List.getElem?_take, if_pos hql] at hq
        have hh : (w.drew).heap[b]? = some (.cells arr E' (0, 0)) := harr
        simp only [World.cell?, hh]
        simpa using hq
      · intro i' j r c hil hr hc
        have hjl : j < i.size := by have := (List.getElem?_eq_some_iff.1 hc).1; rw [hwd r (List.mem_of_getElem? hr)] at this; exact this
        have hq : i' * i.size + j < len * i.size := row_lt hil hjl
        have e1 : (arr.toList.take (len * i.size)).getD (i' * i.size + j) undef = arr.getD (i' * i.size + j) undef := by
          rw [List.getD_eq_getElem?_getD, List.getElem?_take, if_pos hq, Array.getD_eq_getD_getElem?]; simp
        rw [e1]
        exact hcell i' j r c hr hc
  · rw [hβ] at hm
    simp only at hm
    subst hl0
    rcases Nat.eq_zero_or_pos nr.length with hn0 | hn0
    · have hnr : nr = [] := List.eq_nil_of_length_eq_zero hn0
      subst hnr
      subst ev
      have hrun := run_append_nothing (P := P) w t tx ty e i ht hi A 0 0 (Nat.le_refl _) u (by simpa [news] using hsrc)
      refine ⟨_, _, _, hrun, γ.redo_le k none (fun _ _ _ => False) (fun _ _ _ h => h.elim), ?_, ?_⟩
      · refine hR.redo hk false i.size _ none _ (fun _ _ _ h => h.elim) (fun c hc => by cases hc) (fun c _ _ => rfl) (Shapes.refl _) (Nat.le_refl _) rfl rfl rfl (fun hS => ?_)
        unfold RootOK
        simp only [← hgk, Gh.redo_new]
        simp [emb]
      · exact .rn A k _ _ (by rw [Gh.redo_gen, hgk]; exact Nat.le_refl _) (by rw [← hgk, Gh.redo_new])
    · refine grow A 0 [] ev (by omega) (by simp) ?_ (fun i' j r c hil => by omega) (by rw [hm]; simp)
      cases A with
      | none => exact run_firstCells_none w.drew _ 0 0 0
      | some A => exact run_firstCells_some w.drew i.size 0 A 0 0 [] (by simp) (by simp)
end

section
open Go
set_option linter.unusedSimpArgs false
set_option linter.unusedVariables false

variable {P : Program} {w0 : World} {own : Nat → Prop} {γ : Gh} {st : St} {a : Act} {w : World} {o : Oper} {x : X} {ops : Array Oper}

/-! ### the nil slice that is put into a variable becomes an empty row of one's own -/
theorem op_assignNil {y : Operand} (k wd : Nat) (hd : st.fits o.dst = true) (ho : o.op = .assign y) (hy : evA st y = .c (.d (.v (.slice none 0 0)))) :
    OpOK P w0 own o st ((st.root k false wd []).put o.dst (.c (.rs k (st.gen k + 1) wd 0 0 0))) :=
  .value (by cases h : o.dst <;> simp_all [St.fits, St.root]) fun γ a w hR => by
    obtain ⟨γ', h1, h2, h3⟩ := hR.empty k wd
    have hv := hR.ev y
    rw [hy] at hv
    have e := (AR.sc_inv (show AR γ w (a.eval y) (sc (.slice none 0 0)) from hv)).1
    exact ⟨γ', w, .slice none 0 0, by unfold execOp; rw [ho, ← e]; rfl, h1, h2, .c _ _ (h3 none)⟩

def isNil (y : A) : Bool := match y with | .c (.d (.v (.slice none 0 0))) => true | _ => false
theorem isNil_spec {y : A} (h : isNil y = true) : y = .c (.d (.v (.slice none 0 0))) := by
  unfold isNil at h
  split at h
  · rfl
  · cases h

def emptyP (x : X) (k wd : Nat) : XP := ⟨.c (.rs k (x.gen k + 1) wd 0 0 0), [(k, some (.sl (x.gen k + 1) wd []), x.gen k + 1)]⟩

def evAssign (P : Program) (o : Oper) (x : X) (y : Operand) (K : KO) : Prop :=
  match isNil (evA x.S y) with
  | true => match P.underlying o.type with
    | some (.slice e) => match szT P e with
      | some wd => K [x.freeO o] (emptyP x (x.freeO o) wd) x
      | none => False
    | _ => False
  | false => evMove x y K
theorem evAssign_sound {y : Operand} (ho : o.op = .assign y) : Sound P o x (evAssign P o x y) := fun K h hd => by
  unfold evAssign at h
  split at h
  · rename_i hn
    have hn := isNil_spec hn
    split at h
    · split at h
      · rename_i wd _
        refine ⟨_, _, h, fun w0 own ops => .one fun st' hal => ?_⟩
        have := op_assignNil (P := P) (w0 := w0) (own := own) (st := st') (x.freeO o) wd (fits_alike hal hd) ho (by rw [hal.ev (by rw [ho]; simp [Op.operands])]; exact hn)
        rw [root_patch, hal.gen _ (by simp)] at this
        exact this
      · exact h.elim
    · exact h.elim
  · exact evMove_sound (.inr ho) K h hd

/-! ### append -/
theorem op_append {y z : Operand} {t tx e e' : TypeId} {k g len kn wd : Nat} {R : Root} {i : TypeInfo} {zv : Value} {nr : List (List D)} (hd : st.fits o.dst = true) (ho : o.op = .call { callee := .builtin .append, args := #[y, z], argTypes := #[t, tx] })
    (hy : (evA st y).wk = .c (.rs k g wd 0 len kn)) (hk : st.store k = some R) (hg : R.tag = g) (hw : R.wd = wd) (hlen : len ≤ R.rows.length) (ht : P.underlying t = some (.slice e)) (htx : P.underlying tx = some (.slice e')) (hi : P.info? e = some i) (hsz : i.size = wd) (h0 : 0 < wd) (hz : i.zero = some zv) (hzs : zv.cells.size = wd)
    (hu : srcD st wd (evA st z) = some nr) (hb : (len + nr.length) * i.bytes ≤ 140737488355328) (h63 : len + nr.length ≤ 9223372036854775807) :
    OpOK P w0 own o st ((st.root k false wd (R.rows.take len ++ emb nr)).put o.dst (.c (.rs k (st.gen k + 1) wd 0 (len + nr.length) (len + nr.length)))) :=
  .value (by cases h : o.dst <;> simp_all [St.fits, St.root]) fun γ a w hR => by
    subst hg
    have hv := (hR.ev y).wk
    rw [hy] at hv
    obtain ⟨vs, hL⟩ := srcD_spec hR (hR.ev z) hu
    have hv' : CR γ w (a.eval y) (.rs k R.tag wd 0 len kn) := hv.one rfl
    obtain ⟨γ', w', v', h1, h2, h3, h4⟩ := append_core (P := P) (ty := o.type) hR hk hw hlen hv' ht htx hi hsz h0 hz hzs hL hb h63
    refine ⟨γ', w', v', ?_, h2, h3, .c _ _ h4⟩
    unfold execOp
    rw [ho]
    simp only [resolve, Sem.run_bind]
    have e3 : (#[y, z] : Array Operand).map a.eval = #[a.eval y, a.eval z] := by simp
    rw [e3]
    simp only [Sem.run_pure, Result.andThen_ok, invoke, builtin, Sem.run_bind, h1]

theorem op_appendNil {y z : Operand} {t tx e e' : TypeId} (k : Nat) {wd : Nat} {i : TypeInfo} {zv : Value} {nr : List (List D)} (hd : st.fits o.dst = true) (ho : o.op = .call { callee := .builtin .append, args := #[y, z], argTypes := #[t, tx] })
    (hy : (evA st y).wk = .c (.d (.v (.slice none 0 0)))) (ht : P.underlying t = some (.slice e)) (htx : P.underlying tx = some (.slice e')) (hi : P.info? e = some i) (hsz : i.size = wd) (h0 : 0 < wd) (hz : i.zero = some zv) (hzs : zv.cells.size = wd)
    (hu : srcD st wd (evA st z) = some nr) (hb : nr.length * i.bytes ≤ 140737488355328) (h63 : nr.length ≤ 9223372036854775807) :
    OpOK P w0 own o st ((st.patch ⟨none, .dead, [(k, some ⟨st.gen k + 2, false, wd, emb nr⟩, st.gen k + 2)]⟩).put o.dst (.c (.rs k (st.gen k + 2) wd 0 nr.length nr.length))) :=
  .value (by cases h : o.dst <;> simp_all [St.fits, St.patch]) fun γ a w hR => by
    have hv := (hR.ev y).wk
    rw [hy] at hv
    have e := (AR.sc_inv (show AR γ w (a.eval y) (sc (.slice none 0 0)) from hv)).1
    obtain ⟨vs, hL⟩ := srcD_spec hR (hR.ev z) hu
    obtain ⟨γ1, g1, g2, g3⟩ := hR.empty k wd
    have hk : (st.root k false wd []).store k = some ⟨st.gen k + 1, false, wd, []⟩ := by simp [St.root]
    obtain ⟨γ', w', v', h1, h2, h3, h4⟩ := append_core (P := P) (ty := o.type) (k := k) (len := 0) (kn := 0) g2 hk rfl (Nat.le_refl _) (g3 none) ht htx hi hsz h0 hz hzs hL (by simpa using hb) (by simpa using h63)
    refine ⟨γ', w', v', ?_, Gh.le_trans g1 h2, ?_, .c _ _ (by simpa [St.root] using h4)⟩
    · unfold execOp
      rw [ho]
      simp only [resolve, Sem.run_bind]
      have e3 : (#[y, z] : Array Operand).map a.eval = #[.slice none 0 0, a.eval z] := by simp [e]
      rw [e3]
      simp only [Sem.run_pure, Result.andThen_ok, invoke, builtin, Sem.run_bind, h1]
    · have e2 : (st.root k false wd []).root k false wd ((⟨st.gen k + 1, false, wd, []⟩ : Root).rows.take 0 ++ emb nr) = st.patch ⟨none, .dead, [(k, some ⟨st.gen k + 2, false, wd, emb nr⟩, st.gen k + 2)]⟩ := by
        simp only [St.root, St.patch, lookU]
        congr 1
        · funext j; by_cases hj : j = k <;> simp [hj]
        · funext j; by_cases hj : j = k <;> simp [hj]
      rw [e2] at h3
      exact h3

/-- What a slice operand yields, and whose it is. -/
def srcX (x : X) (wd : Nat) (y : A) (K : List Nat → List (List D) → Prop) : Prop :=
  match y with
  | .c (.d (.s _ z rows _)) => match Nat.beq z wd with
    | true => cond (allV rows) (K [] rows) False
    | false => False
  | .c (.d (.v (.slice none 0 0))) => K [] []
  | .c (.rs k g wd' lo len kn) => match lookN x.store k with
    | some (.sl tg wd2 rows) => match Nat.beq tg g && (Nat.beq wd2 wd && Nat.beq wd' wd) with
      | true => cond (decide (lo + len ≤ rows.length)) (cond (allV (cut rows lo len)) (K [k] (cut rows lo len)) False) False
      | false => False
    | _ => False
  | _ => False

theorem lookN_S {k : Nat} {R : XRoot} (h : lookN x.store k = some R) : x.S.store k = some R.root := by
  show (lookN x.store k).map XRoot.root = _
  rw [h]; rfl

theorem srcX_spec {wd : Nat} {y : A} {K : List Nat → List (List D) → Prop} (h : srcX x wd y K) : ∃ Ks rows, K Ks rows ∧ ∀ st', (∀ k ∈ Ks, st'.store k = x.S.store k) → srcD st' wd y = some rows := by
  unfold srcX at h
  split at h
  · split at h
    · rename_i hz
      obtain ⟨h1, h2⟩ := cond_P h
      refine ⟨_, _, h2, fun st' _ => ?_⟩
      have := beq_true hz
      subst this
      simp [srcD, h1]
    · exact h.elim
  · exact ⟨_, _, h, fun st' _ => rfl⟩
  · rename_i k g wd' lo len kn
    split at h
    · rename_i tg wd2 rows hk
      split at h
      · rename_i hc
        simp only [Bool.and_eq_true] at hc
        obtain ⟨c1, c2, c3⟩ := hc
        have c1 := beq_true c1
        have c2 := beq_true c2
        have c3 := beq_true c3
        subst c1 c2 c3
        obtain ⟨h1, h2⟩ := cond_P h
        obtain ⟨h3, h4⟩ := cond_P h2
        refine ⟨_, _, h4, fun st' hst => ?_⟩
        have := (hst k (by simp)).trans (lookN_S hk)
        have hle := of_decide_eq_true h1
        have hel : (emb rows).length = rows.length := emb_len rows
        simp only [srcD, this, XRoot.root, Option.bind_some]
        simp [strip_emb, h3, hel, hle]
      · exact h.elim
    · exact h.elim
  · exact h.elim

/-- The row that is appended to. -/
def sizesT (P : Program) (e : TypeId) : Option (Nat × Nat) := match P.info? e with
  | some i => match i.zero with
    | some z => match Nat.beq z.cells.size i.size with
      | true => some (i.size, i.bytes)
      | false => none
    | none => none
  | none => none
theorem sizesT_spec {e : TypeId} {wd by' : Nat} (h : sizesT P e = some (wd, by')) : ∃ i zv, P.info? e = some i ∧ i.size = wd ∧ i.bytes = by' ∧ i.zero = some zv ∧ zv.cells.size = wd := by
  unfold sizesT at h
  split at h
  · rename_i i hi
    split at h
    · rename_i z hz
      split at h
      · rename_i hb
        cases h
        exact ⟨i, z, hi, rfl, rfl, hz, beq_true hb⟩
      · cases h
    · cases h
  · cases h

def evAppend (P : Program) (o : Oper) (x : X) (args : Array Operand) (tys : Array TypeId) (K : KO) : Prop :=
  match args.toList, tys.toList with
  | [y, z], [t, tx] => match elT P t, elT P tx with
    | some e, some _ => match sizesT P e with
      | some (0, _) => False
      | some (wd + 1, bytes) => srcX x (wd + 1) (evA x.S z) fun Ks nr => match (evA x.S y).wk with
        | .c (.rs k g wd' lo len kn) => match lookN x.store k with
          | some (.sl tg wd2 rows) => match Nat.beq lo 0 && (Nat.beq tg g && (Nat.beq wd2 (wd + 1) && Nat.beq wd' (wd + 1))) with
            | true => cond (decide (len ≤ rows.length) && (decide ((len + nr.length) * bytes ≤ 140737488355328) && decide (len + nr.length ≤ 9223372036854775807)))
                (K (k :: Ks) ⟨.c (.rs k (x.gen k + 1) (wd + 1) 0 (len + nr.length) (len + nr.length)), [(k, some (.sl (x.gen k + 1) (wd + 1) (rows.take len ++ nr)), x.gen k + 1)]⟩ x) False
            | false => False
          | _ => False
        | .c (.d (.v (.slice none 0 0))) => cond (decide (nr.length * bytes ≤ 140737488355328) && decide (nr.length ≤ 9223372036854775807))
            (K (x.freeO o :: Ks) ⟨.c (.rs (x.freeO o) (x.gen (x.freeO o) + 2) (wd + 1) 0 nr.length nr.length), [((x.freeO o), some (.sl (x.gen (x.freeO o) + 2) (wd + 1) nr), x.gen (x.freeO o) + 2)]⟩ x) False
        | _ => False
      | none => False
    | _, _ => False
  | _, _ => False

theorem elT_spec {t e : TypeId} (h : elT P t = some e) : P.underlying t = some (.slice e) := by
  unfold elT at h
  split at h
  · rename_i e' hu; cases h; exact hu
  · cases h

theorem PatchOK.many {k g : Nat} {Ks : List Nat} {y : A} {R : Option Root} (hk : k ∈ Ks) (h : ∀ st', Alike ops o Ks st st' → OpOK P w0 own o st' (st'.patch ⟨o.dst, y, [(k, R, g)]⟩)) : PatchOK P w0 own ops o Ks st ⟨o.dst, y, [(k, R, g)]⟩ :=
  ⟨rfl, by simpa [keysU] using hk, h⟩

theorem evAppend_sound {args : Array Operand} {tys : Array TypeId} (ho : o.op = .call { callee := .builtin .append, args := args, argTypes := tys }) : Sound P o x (evAppend P o x args tys) := fun K h hd => by
  unfold evAppend at h
  split at h
  · rename_i y z t tx hy ht
    have e1 : args = #[y, z] := by apply Array.ext'; rw [hy]
    have e2 : tys = #[t, tx] := by apply Array.ext'; rw [ht]
    subst e1 e2
    split at h
    · rename_i e e' het hetx
      have het := elT_spec het
      have hetx := elT_spec hetx
      split at h
      · exact h.elim
      · rename_i wd bytes hst
        obtain ⟨i, zv, i1, i2, i3, i4, i5⟩ := sizesT_spec hst
        obtain ⟨Ks, nr, h, hsrc⟩ := srcX_spec h
        have hopy : y ∈ o.op.operands.toList := by rw [ho]; simp [Op.operands, Call.operands]
        have hopz : z ∈ o.op.operands.toList := by rw [ho]; simp [Op.operands, Call.operands]
        split at h
        · rename_i k g wd' lo len kn hey
          split at h
          · rename_i tg wd2 rows hk
            split at h
            · rename_i hc
              simp only [Bool.and_eq_true] at hc
              obtain ⟨c0, c1, c2, c3⟩ := hc
              have c0 := beq_true c0
              have c1 := beq_true c1
              have c2 := beq_true c2
              have c3 := beq_true c3
              subst c0 c1 c2 c3
              obtain ⟨hcc, h⟩ := cond_P h
              simp only [Bool.and_eq_true] at hcc
              obtain ⟨b1, b2, b3⟩ := hcc
              have b1 := of_decide_eq_true b1
              have b2 := of_decide_eq_true b2
              have b3 := of_decide_eq_true b3
              refine ⟨_, _, h, fun w0 own ops => .many (by simp) fun st' hal => ?_⟩
              have hroot := (hal.store k (by simp)).trans (lookN_S hk)
              have := op_append (P := P) (w0 := w0) (own := own) (st := st') (R := XRoot.root (.sl tg (wd + 1) rows)) (fits_alike hal hd) ho (by rw [hal.ev hopy]; exact hey) hroot rfl rfl (by simpa [XRoot.root, emb] using b1) het hetx i1 i2 (Nat.succ_pos _) i4 i5
                (by rw [hal.ev hopz]; exact hsrc st' fun k' hk' => hal.store k' (by simp [hk'])) (by rw [i3]; exact b2) b3
              have erow : (XRoot.root (.sl tg (wd + 1) rows)).rows.take len ++ emb nr = emb (rows.take len ++ nr) := by
                rw [emb_append]; simp [XRoot.root, emb, List.map_take]
              rw [root_patch, hal.gen k (by simp), erow] at this
              exact this
            · exact h.elim
          · exact h.elim
        · rename_i hey
          obtain ⟨hcc, h⟩ := cond_P h
          simp only [Bool.and_eq_true] at hcc
          obtain ⟨b2, b3⟩ := hcc
          have b2 := of_decide_eq_true b2
          have b3 := of_decide_eq_true b3
          refine ⟨_, _, h, fun w0 own ops => .many (by simp) fun st' hal => ?_⟩
          have := op_appendNil (P := P) (w0 := w0) (own := own) (st := st') ((x.freeO o)) (fits_alike hal hd) ho (by rw [hal.ev hopy]; exact hey) het hetx i1 i2 (Nat.succ_pos _) i4 i5
            (by rw [hal.ev hopz]; exact hsrc st' fun k' hk' => hal.store k' (by simp [hk'])) (by rw [i3]; exact b2) b3
          rw [put_patch] at this
          rw [hal.gen ((x.freeO o)) (by simp)] at this
          have e4 : (st'.patch ⟨none, .dead, [((x.freeO o), some ⟨x.S.gen ((x.freeO o)) + 2, false, wd + 1, emb nr⟩, x.S.gen ((x.freeO o)) + 2)]⟩).patch ⟨o.dst, .c (.rs ((x.freeO o)) (x.S.gen ((x.freeO o)) + 2) (wd + 1) 0 nr.length nr.length), []⟩ = st'.patch ⟨o.dst, .c (.rs ((x.freeO o)) (x.S.gen ((x.freeO o)) + 2) (wd + 1) 0 nr.length nr.length), [((x.freeO o), some ⟨x.S.gen ((x.freeO o)) + 2, false, wd + 1, emb nr⟩, x.S.gen ((x.freeO o)) + 2)]⟩ := by
            simp only [St.patch, lookU]
            congr 1
          rw [e4] at this
          exact this
        · exact h.elim
      · exact h.elim
    · exact h.elim
  · exact h.elim
end

section
open Go
set_option linter.unusedSimpArgs false
set_option linter.unusedVariables false

variable {P : Program} {w0 : World} {own : Nat → Prop} {γ : Gh} {st : St} {a : Act} {w : World} {o : Oper} {x : X} {ops : Array Oper}

/-! ### slice expressions -/
theorem run_slice_bnd {t e : TypeId} {lo hi : Option Operand} {len cap z : Nat} {l h : Int} (A : Option Addr) (hR : Rel w0 own γ st a w) (ht : P.underlying t = some (.slice e)) (hz : szT P e = some z)
    (hl : bnd st lo 0 = some l) (hh : bnd st hi len = some h) (h0 : 0 ≤ l) (h1 : l ≤ h) (h2 : h ≤ (cap : Nat)) (hlc : len ≤ cap) :
    (Instr.slice t (.slice A len cap) (lo.map a.eval) (hi.map a.eval) none).run P w = .ok (Go.sliced A l.toNat h.toNat cap z) w := by
  have hel : P.underlying t = some (.slice (P.elem t)) := by
    have : P.elem t = e := by simp [Program.elem, ht]
    rw [this]; exact ht
  have hsz : (Go.sizeOf (P.elem t)).run P w = .ok z w := by
    have : P.elem t = e := by simp [Program.elem, ht]
    rw [this]; exact run_size hz w
  cases lo with
  | none =>
    simp only [bnd, Option.some.injEq] at hl
    subst hl
    cases hi with
    | none =>
      simp only [bnd, Option.some.injEq] at hh
      subst hh
      simp only [Option.map_none]
      rw [run_slice_all w t A len cap hel, hsz]; simp
    | some yh =>
      obtain ⟨k, ek⟩ := bnd_val hR hh
      simp only [Option.map_none, Option.map_some, ek]
      rw [run_slice_h w t A len cap hel k h (by omega) (by omega), hsz]; simp
  | some yl =>
    obtain ⟨k, ek⟩ := bnd_val hR hl
    cases hi with
    | none =>
      simp only [bnd, Option.some.injEq] at hh
      subst hh
      simp only [Option.map_none, Option.map_some, ek]
      rw [run_slice_l w t A len cap hel k l h0 (by omega), hsz]; simp
    | some yh =>
      obtain ⟨k2, ek2⟩ := bnd_val hR hh
      simp only [Option.map_some, ek, ek2]
      rw [run_slice_lh w t A len cap hel k k2 l h h0 h1 (by omega), hsz]; simp

theorem exec_slice {t e : TypeId} {y : Operand} {lo hi mx : Option Operand} {v : Value} (ho : o.op = .slice t y lo hi mx) (ht : P.underlying t = some (.slice e))
    (h : (Instr.slice t (a.eval y) (lo.map a.eval) (hi.map a.eval) (mx.map a.eval)).run P w = .ok v w) : (execOp a.eval o).run P w = .ok (.value v) w := by
  have hel : P.underlying t = some (.slice (P.elem t)) := by
    have : P.elem t = e := by simp [Program.elem, ht]
    rw [this]; exact ht
  unfold execOp
  rw [ho]
  simp only [Sem.run_bind]
  rw [run_sliceAt_slice w t _ _ _ _ hel, h]
  rfl

theorem sliced_none (l h m s : Nat) (hm : m = l) (A : Option Addr) : Go.sliced A l h m s = .slice A (h - l) (m - l) := by
  simp [Go.sliced, hm]

theorem op_sliceOwn {t e : TypeId} {y : Operand} {lo hi : Option Operand} {k g wd lo0 len kn : Nat} {l h : Int} (hd : st.fits o.dst = true) (ho : o.op = .slice t y lo hi none) (hy : evA st y = .c (.rs k g wd lo0 len kn)) (ht : P.underlying t = some (.slice e)) (hz : szT P e = some wd)
    (hl : bnd st lo 0 = some l) (hh : bnd st hi len = some h) (h0 : 0 ≤ l) (h1 : l ≤ h) (h2 : h ≤ (kn : Nat)) (h3 : l = 0 ∨ l < (kn : Nat)) :
    OpOK P w0 own o st (st.put o.dst (.c (.rs k g wd (lo0 + l.toNat) (h.toNat - l.toNat) (kn - l.toNat)))) :=
  .value hd fun γ a w hR => by
    have hv := hR.ev y
    rw [hy] at hv
    rcases hv.rs_inv with ⟨cap, b, E, n, ev, hβ, hg, hsh, hcap, hlc, hkn⟩ | ⟨⟨A, ev⟩, e1, e2, e3, hβ, hg⟩
    · have hr := run_slice_bnd (P := P) (some ⟨b, lo0 * wd, none⟩) hR ht hz hl hh h0 h1 (cap := cap) (by omega) (by omega)
      rw [← ev] at hr
      refine ⟨γ, w, _, exec_slice ho ht hr, γ.le_refl, hR, ?_⟩
      have ea : Go.sliced (some ⟨b, lo0 * wd, none⟩) l.toNat h.toNat cap wd = .slice (some ⟨b, (lo0 + l.toNat) * wd, none⟩) (h.toNat - l.toNat) (cap - l.toNat) := by
        unfold Go.sliced
        by_cases hc : cap = l.toNat
        · have hl0 : l.toNat = 0 := by omega
          rw [if_pos hc, hl0]; rfl
        · rw [if_neg hc]
          simp only [Option.map_some, addr_add]
          rw [Nat.add_mul]
      rw [ea]
      exact .c _ _ (.rs k g wd _ _ _ _ b E n hg hβ hsh (by
        have : lo0 + l.toNat + (cap - l.toNat) = lo0 + cap := by omega
        rw [this]; exact hcap) (by omega) (by omega))
    · subst e1 e2 e3
      have hl0 : l = 0 := by omega
      have hh0 : h = 0 := by omega
      subst hl0 hh0
      have hr := run_slice_bnd (P := P) A hR ht hz hl hh (by omega) (by omega) (cap := 0) (by omega) (by omega)
      rw [← ev] at hr
      refine ⟨γ, w, _, exec_slice ho ht hr, γ.le_refl, hR, ?_⟩
      rw [sliced_none (Int.toNat 0) (Int.toNat 0) 0 wd rfl]
      exact .c _ _ (.rn A k g wd hg hβ)

theorem op_sliceRx {t e : TypeId} {y : Operand} {lo hi : Option Operand} {k g wd lo0 len cap : Nat} {l h : Int} (hd : st.fits o.dst = true) (ho : o.op = .slice t y lo hi none) (hy : evA st y = .rx k g wd lo0 len cap) (ht : P.underlying t = some (.slice e)) (hz : szT P e = some wd)
    (hl : bnd st lo 0 = some l) (hh : bnd st hi len = some h) (h0 : 0 ≤ l) (h1 : l ≤ h) (h2 : h ≤ (cap : Nat)) (h3 : l = 0 ∨ l < (cap : Nat)) :
    OpOK P w0 own o st (st.put o.dst (.rx k g wd (lo0 + l.toNat) (h.toNat - l.toNat) (cap - l.toNat))) :=
  .value hd fun γ a w hR => by
    have hv := hR.ev y
    rw [hy] at hv
    generalize hev : a.eval y = v at hv
    cases hv with
    | rx _ _ _ _ _ _ b E n hg hβ hsh hcap hlc =>
      have hr := run_slice_bnd (P := P) (some ⟨b, lo0 * wd, none⟩) hR ht hz hl hh h0 h1 (cap := cap) h2 hlc
      rw [← hev] at hr
      refine ⟨γ, w, _, exec_slice ho ht hr, γ.le_refl, hR, ?_⟩
      have ea : Go.sliced (some ⟨b, lo0 * wd, none⟩) l.toNat h.toNat cap wd = .slice (some ⟨b, (lo0 + l.toNat) * wd, none⟩) (h.toNat - l.toNat) (cap - l.toNat) := by
        unfold Go.sliced
        by_cases hc : cap = l.toNat
        · have hl0 : l.toNat = 0 := by omega
          rw [if_pos hc, hl0]; rfl
        · rw [if_neg hc]
          simp only [Option.map_some, addr_add]
          rw [Nat.add_mul]
      rw [ea]
      exact .rx k g wd _ _ _ b E n hg hβ hsh (by
        have : lo0 + l.toNat + (cap - l.toNat) = lo0 + cap := by omega
        rw [this]; exact hcap) (by omega)

theorem op_sliceRxTail {t e : TypeId} {y : Operand} {lo hi : Option Operand} {k g wd lo0 len cap : Nat} {l : Int} (hd : st.fits o.dst = true) (ho : o.op = .slice t y lo hi none) (hy : evA st y = .rx k g wd lo0 len cap) (ht : P.underlying t = some (.slice e)) (hz : szT P e = some wd)
    (hl : bnd st lo 0 = some l) (hh : bnd st hi len = some l) (h0 : 0 ≤ l) (h2 : l ≤ (cap : Nat)) :
    OpOK P w0 own o st (st.put o.dst .dead) :=
  .value hd fun γ a w hR => by
    have hv := hR.ev y
    rw [hy] at hv
    generalize hev : a.eval y = v at hv
    cases hv with
    | rx _ _ _ _ _ _ b E n hg hβ hsh hcap hlc =>
      have hr := run_slice_bnd (P := P) (some ⟨b, lo0 * wd, none⟩) hR ht hz hl hh h0 (Int.le_refl _) (cap := cap) h2 hlc
      rw [← hev] at hr
      exact ⟨γ, w, _, exec_slice ho ht hr, γ.le_refl, hR, .dead _⟩

theorem op_sliceTail {t e : TypeId} {y : Operand} {lo hi : Option Operand} {k g wd lo0 len kn : Nat} {l : Int} (hd : st.fits o.dst = true) (ho : o.op = .slice t y lo hi none) (hy : evA st y = .c (.rs k g wd lo0 len kn)) (ht : P.underlying t = some (.slice e)) (hz : szT P e = some wd)
    (hl : bnd st lo 0 = some l) (hh : bnd st hi len = some l) (h0 : 0 ≤ l) (h2 : l ≤ (kn : Nat)) :
    OpOK P w0 own o st (st.put o.dst (.c (.d (.s 0 wd [] [])))) :=
  .value hd fun γ a w hR => by
    have hv := hR.ev y
    rw [hy] at hv
    have hval : ∃ A cap, a.eval y = .slice A len cap ∧ len ≤ cap ∧ kn ≤ cap := by
      rcases hv.rs_inv with ⟨cap, b, E, n, ev, hβ, hg, hsh, hcap, hlc, hkn⟩ | ⟨⟨A, ev⟩, e1, e2, e3, hβ, hg⟩
      · exact ⟨_, cap, ev, hlc, hkn⟩
      · subst e2 e3; exact ⟨A, 0, ev, Nat.le_refl _, Nat.le_refl _⟩
    obtain ⟨A, cap, ev, hlc, hkn⟩ := hval
    have hr := run_slice_bnd (P := P) A hR ht hz hl hh h0 (Int.le_refl _) (cap := cap) (by omega) hlc
    rw [← ev] at hr
    refine ⟨γ, w, _, exec_slice ho ht hr, γ.le_refl, hR, ?_⟩
    unfold Go.sliced
    rw [Nat.sub_self]
    exact .c _ _ (.d _ _ (.e _ _ _ _))

theorem op_sliceNil {t e : TypeId} {y : Operand} {lo hi : Option Operand} {wd : Nat} (hd : st.fits o.dst = true) (ho : o.op = .slice t y lo hi none) (hy : evA st y = .c (.d (.v (.slice none 0 0)))) (ht : P.underlying t = some (.slice e)) (hz : szT P e = some wd)
    (hl : bnd st lo 0 = some 0) (hh : bnd st hi 0 = some 0) : OpOK P w0 own o st (st.put o.dst (.c (.d (.v (.slice none 0 0))))) :=
  .value hd fun γ a w hR => by
    have hv := hR.ev y
    rw [hy] at hv
    have ev := (AR.sc_inv (show AR γ w (a.eval y) (sc (.slice none 0 0)) from hv)).1
    have hr := run_slice_bnd (P := P) none hR ht hz hl hh (Int.le_refl _) (Int.le_refl _) (cap := 0) (by omega) (Nat.le_refl _)
    rw [← ev] at hr
    refine ⟨γ, w, _, exec_slice ho ht hr, γ.le_refl, hR, ?_⟩
    rw [sliced_none (Int.toNat 0) (Int.toNat 0) 0 wd rfl]
    exact AR.sc_mk rfl

/-- 's[:0:0]': an empty row of one's own. -/
def isSl (y : A) : Bool := match y with
  | .c (.d (.s _ _ _ _)) => true
  | .c (.rs _ _ _ _ _ _) => true
  | .c (.d (.v (.slice none 0 0))) => true
  | _ => false
theorem isSl_spec {v : Value} {y : A} (h : AR γ w v y) (hs : isSl y = true) : ∃ A len cap, v = .slice A len cap ∧ len ≤ cap := by
  unfold isSl at hs
  split at hs
  · obtain ⟨A, cap, e, hc⟩ := h.d_inv.slice_inv
    exact ⟨A, _, cap, e, by omega⟩
  · rcases h.rs_inv with ⟨cap, b, E, n, ev, hβ, hg, hsh, hcap, hlc, hkn⟩ | ⟨⟨A, ev⟩, e1, e2, e3, hβ, hg⟩
    · exact ⟨_, _, cap, ev, hlc⟩
    · subst e2; exact ⟨A, 0, 0, ev, Nat.le_refl _⟩
  · exact ⟨none, 0, 0, (AR.sc_inv (show AR γ w v (sc (.slice none 0 0)) from h)).1, Nat.le_refl _⟩
  · cases hs

theorem op_sliceZero {t e : TypeId} {y : Operand} {lo : Option Operand} {hi mx : Operand} {wd : Nat} (k : Nat) (hd : st.fits o.dst = true) (ho : o.op = .slice t y lo (some hi) (some mx)) (hy : isSl (evA st y) = true) (ht : P.underlying t = some (.slice e)) (hz : szT P e = some wd)
    (hl : bnd st lo 0 = some 0) (hh : bnd st (some hi) 0 = some 0) (hm : bnd st (some mx) 0 = some 0) : OpOK P w0 own o st ((st.root k false wd []).put o.dst (.c (.rs k (st.gen k + 1) wd 0 0 0))) :=
  .value (by cases h : o.dst <;> simp_all [St.fits, St.root]) fun γ a w hR => by
    obtain ⟨A, len, cap, ev, hlc⟩ := isSl_spec (hR.ev y) hy
    obtain ⟨γ', h1, h2, h3⟩ := hR.empty k wd
    have hel : P.underlying t = some (.slice (P.elem t)) := by
      have : P.elem t = e := by simp [Program.elem, ht]
      rw [this]; exact ht
    have hsz : (Go.sizeOf (P.elem t)).run P w = .ok wd w := by
      have : P.elem t = e := by simp [Program.elem, ht]
      rw [this]; exact run_size hz w
    obtain ⟨kh, ekh⟩ := bnd_val hR hh
    obtain ⟨km, ekm⟩ := bnd_val hR hm
    refine ⟨γ', w, .slice A 0 0, exec_slice ho ht ?_, h1, h2, .c _ _ (h3 A)⟩
    rw [ev]
    simp only [Option.map_some, ekh, ekm]
    cases lo with
    | none =>
      simp only [Option.map_none]
      rw [run_slice_hm w t A len cap hel kh km 0 0 (by omega) (by omega) (by omega), hsz]; simp [sliced_none]
    | some yl =>
      obtain ⟨kl, ekl⟩ := bnd_val hR hl
      simp only [Option.map_some, ekl]
      rw [run_slice_lhm w t A len cap hel kl kh km 0 0 0 (by omega) (by omega) (by omega) (by omega), hsz]; simp [sliced_none]

def zeroI (z : Option Int) : Bool := match z with | some (.ofNat 0) => true | _ => false
theorem zeroI_spec {z : Option Int} (h : zeroI z = true) : z = some 0 := by
  unfold zeroI at h
  split at h
  · rfl
  · cases h

def evSlice (P : Program) (o : Oper) (x : X) (t : TypeId) (y : Operand) (lo hi mx : Option Operand) (K : KO) : Prop :=
  match elT P t with
  | some e => match szT P e with
    | some wd => match mx with
      | some m => match hi with
        | some h => match isSl (evA x.S y) && (zeroI (bnd x.S lo 0) && (zeroI (bnd x.S (some h) 0) && zeroI (bnd x.S (some m) 0))) with
          | true => K [x.freeO o] (emptyP x (x.freeO o) wd) x
          | false => False
        | none => False
      | none => match evA x.S y with
        | .c (.d (.s tg z rows sp)) => match bnd x.S lo 0, bnd x.S hi rows.length with
          | some l, some h => match Nat.beq z wd with
            | true => cond (decide (0 ≤ l) && (decide (l ≤ h) && decide (h ≤ ((rows.length + sp.length : Nat) : Int)))) (K [] ⟨.c (.d (.s tg z (cut (rows ++ sp) l.toNat (h.toNat - l.toNat)) [])), []⟩ x) False
            | false => False
          | _, _ => False
        | .c (.rs k g wd' lo0 len kn) => match bnd x.S lo 0, bnd x.S hi len with
          | some l, some h => match Nat.beq wd' wd with
            | true => cond (decide (0 ≤ l) && (decide (l ≤ h) && decide (h ≤ (kn : Int))))
                (cond (Nat.beq l.toNat 0 || decide (l.toNat + 1 ≤ kn)) (K [] ⟨.c (.rs k g wd (addN lo0 l.toNat) (h.toNat - l.toNat) (kn - l.toNat)), []⟩ x) (K [] ⟨.c (.d (.s 0 wd [] [])), []⟩ x)) False
            | false => False
          | _, _ => False
        | .rx k g wd' lo0 len cap => match bnd x.S lo 0, bnd x.S hi len with
          | some l, some h => match Nat.beq wd' wd with
            | true => cond (decide (0 ≤ l) && (decide (l ≤ h) && decide (h ≤ (cap : Int))))
                (cond (Nat.beq l.toNat 0 || decide (l.toNat + 1 ≤ cap)) (∀ p q r : Nat, addN lo0 l.toNat = p → h.toNat - l.toNat = q → cap - l.toNat = r → K [] ⟨.rx k g wd p q r, []⟩ x) (K [] ⟨.dead, []⟩ x)) False
            | false => False
          | _, _ => False
        | .c (.d (.v (.slice none 0 0))) => match zeroI (bnd x.S lo 0) && zeroI (bnd x.S hi 0) with
          | true => K [] ⟨.c (.d (.v (.slice none 0 0))), []⟩ x
          | false => False
        | _ => False
    | none => False
  | none => False

theorem bnd_alike {Ks : List Nat} {st' : St} (hal : Alike ops o Ks st st') {y : Option Operand} {d : Nat} (hy : ∀ z, y = some z → z ∈ o.op.operands.toList) : bnd st' y d = bnd st y d := by
  cases y with
  | none => rfl
  | some z => simp only [bnd]; rw [hal.ev (hy z rfl)]

theorem evSlice_sound {t : TypeId} {y : Operand} {lo hi mx : Option Operand} (ho : o.op = .slice t y lo hi mx) : Sound P o x (evSlice P o x t y lo hi mx) := fun K h0 hd => by
  have opy : y ∈ o.op.operands.toList := by rw [ho]; simp [Op.operands]
  have opl : ∀ z, lo = some z → z ∈ o.op.operands.toList := fun z hz => by rw [ho, hz]; simp [Op.operands]
  have oph : ∀ z, hi = some z → z ∈ o.op.operands.toList := fun z hz => by rw [ho, hz]; simp [Op.operands]
  have opm : ∀ z, mx = some z → z ∈ o.op.operands.toList := fun z hz => by rw [ho, hz]; simp [Op.operands]
  unfold evSlice at h0
  split at h0
  · rename_i e het
    have het := elT_spec het
    split at h0
    · rename_i wd hwd
      split at h0
      · rename_i m
        split at h0
        · rename_i hh
          split at h0
          · rename_i hc
            simp only [Bool.and_eq_true] at hc
            obtain ⟨c1, c2, c3, c4⟩ := hc
            refine ⟨_, _, h0, fun w0 own ops => .one fun st' hal => ?_⟩
            have := op_sliceZero (P := P) (w0 := w0) (own := own) (st := st') (x.freeO o) (fits_alike hal hd) ho (by rw [hal.ev opy]; exact c1) het hwd
              (by rw [bnd_alike hal opl]; exact zeroI_spec c2) (by rw [bnd_alike hal oph]; exact zeroI_spec c3) (by rw [bnd_alike hal opm]; exact zeroI_spec c4)
            rw [root_patch, hal.gen _ (by simp)] at this
            exact this
          · exact h0.elim
        · exact h0.elim
      · split at h0
        · rename_i tg z rows sp hy
          split at h0
          · rename_i l h hl hh
            split at h0
            · rename_i hb
              have hb := beq_true hb
              subst hb
              obtain ⟨hc, h0⟩ := cond_P h0
              simp only [Bool.and_eq_true, decide_eq_true_eq] at hc
              exact ⟨_, _, h0, fun w0 own ops => .plain fun st' hal => op_sliceD (fits_alike hal hd) ho (by rw [hal.ev opy]; exact hy) het hwd (by rw [bnd_alike hal opl]; exact hl) (by rw [bnd_alike hal oph]; exact hh) hc.1 hc.2.1 hc.2.2⟩
            · exact h0.elim
          · exact h0.elim
        · rename_i k g wd' lo0 len kn hy
          split at h0
          · rename_i l h hl hh
            split at h0
            · rename_i hb
              have hb := beq_true hb
              subst hb
              obtain ⟨hc, h0⟩ := cond_P h0
              simp only [Bool.and_eq_true, decide_eq_true_eq] at hc
              obtain ⟨c1, c2, c3⟩ := hc
              rw [addN_eq] at h0
              cases hq : (Nat.beq l.toNat 0 || decide (l.toNat + 1 ≤ kn)) with
              | true =>
                rw [hq] at h0
                have hq' : l = 0 ∨ l < (kn : Nat) := by
                  rcases Bool.or_eq_true_iff.1 hq with hq | hq
                  · have := beq_true hq; left; omega
                  · have := of_decide_eq_true hq; right; omega
                exact ⟨_, _, h0, fun w0 own ops => .plain fun st' hal => op_sliceOwn (fits_alike hal hd) ho (by rw [hal.ev opy]; exact hy) het hwd (by rw [bnd_alike hal opl]; exact hl) (by rw [bnd_alike hal oph]; exact hh) c1 c2 c3 hq'⟩
              | false =>
                rw [hq] at h0
                have hlh : h = l := by
                  simp only [Bool.or_eq_false_iff] at hq
                  have h2 : ¬ (l.toNat + 1 ≤ kn) := fun hle => by
                    have := decide_eq_true hle
                    rw [this] at hq; exact Bool.noConfusion hq.2
                  omega
                subst hlh
                exact ⟨_, _, h0, fun w0 own ops => .plain fun st' hal => op_sliceTail (fits_alike hal hd) ho (by rw [hal.ev opy]; exact hy) het hwd (by rw [bnd_alike hal opl]; exact hl) (by rw [bnd_alike hal oph]; exact hh) c1 c3⟩
            · exact h0.elim
          · exact h0.elim
        · rename_i k g wd' lo0 len cap hy
          split at h0
          · rename_i l h hl hh
            split at h0
            · rename_i hb
              have hb := beq_true hb
              subst hb
              obtain ⟨hc, h0⟩ := cond_P h0
              simp only [Bool.and_eq_true, decide_eq_true_eq] at hc
              obtain ⟨c1, c2, c3⟩ := hc
              cases hq : (Nat.beq l.toNat 0 || decide (l.toNat + 1 ≤ cap)) with
              | true =>
                rw [hq] at h0
                have h0 := h0 _ _ _ rfl rfl rfl
                rw [addN_eq] at h0
                have hq' : l = 0 ∨ l < (cap : Nat) := by
                  rcases Bool.or_eq_true_iff.1 hq with hq | hq
                  · have := beq_true hq; left; omega
                  · have := of_decide_eq_true hq; right; omega
                exact ⟨_, _, h0, fun w0 own ops => .plain fun st' hal => op_sliceRx (fits_alike hal hd) ho (by rw [hal.ev opy]; exact hy) het hwd (by rw [bnd_alike hal opl]; exact hl) (by rw [bnd_alike hal oph]; exact hh) c1 c2 c3 hq'⟩
              | false =>
                rw [hq] at h0
                have hlh : h = l := by
                  simp only [Bool.or_eq_false_iff] at hq
                  have h2 : ¬ (l.toNat + 1 ≤ cap) := fun hle => by
                    have := decide_eq_true hle
                    rw [this] at hq; exact Bool.noConfusion hq.2
                  omega
                subst hlh
                exact ⟨_, _, h0, fun w0 own ops => .plain fun st' hal => op_sliceRxTail (fits_alike hal hd) ho (by rw [hal.ev opy]; exact hy) het hwd (by rw [bnd_alike hal opl]; exact hl) (by rw [bnd_alike hal oph]; exact hh) c1 c3⟩
            · exact h0.elim
          · exact h0.elim
        · rename_i hy
          split at h0
          · rename_i hc
            simp only [Bool.and_eq_true] at hc
            exact ⟨_, _, h0, fun w0 own ops => .plain fun st' hal => op_sliceNil (fits_alike hal hd) ho (by rw [hal.ev opy]; exact hy) het hwd (by rw [bnd_alike hal opl]; exact zeroI_spec hc.1) (by rw [bnd_alike hal oph]; exact zeroI_spec hc.2)⟩
          · exact h0.elim
        · exact h0.elim
    · exact h0.elim
  · exact h0.elim
end

section
open Go
set_option linter.unusedSimpArgs false
set_option linter.unusedVariables false

variable {P : Program} {w0 : World} {own : Nat → Prop} {γ : Gh} {st : St} {a : Act} {w : World} {o : Oper} {x : X} {ops : Array Oper}

def outC (x : X) (c : C) (K : D → List Nat → Prop) : Prop :=
  match c with
  | .d (.v v) => K (.v v) []
  | .d d => match d.top0 with | true => K d [] | false => False
  | .rs k g wd lo len kn => match lookN x.store k with
    | some (.sl tag wd' rows) => match Nat.beq tag g && (Nat.beq wd' wd && Nat.beq lo 0) with
      | true => cond (decide (len ≤ rows.length) && rows.all fun r => r.all D.keeps) (K (.s 1 wd (rows.take len) ((rows.drop len).take (kn - len))) [k]) False
      | false => False
    | _ => False
  | _ => False
theorem outC_ev {c : C} {K : D → List Nat → Prop} (h : outC x c K) : ∃ d ks, OutC x.S c d ks ∧ K d ks := by
  unfold outC at h
  split at h
  · exact ⟨_, _, .v _, h⟩
  · split at h
    · exact ⟨_, _, .ro _ ‹_›, h⟩
    · exact h.elim
  · rename_i k g wd lo len kn
    split at h
    · rename_i tag wd' rows hk
      split at h
      · rename_i hb
        simp only [Bool.and_eq_true] at hb
        obtain ⟨e1, e2, e3⟩ := hb
        have e1 := beq_true e1; have e2 := beq_true e2; have e3 := beq_true e3
        subst e1 e2 e3
        obtain ⟨hc, h⟩ := cond_P h
        simp only [Bool.and_eq_true, decide_eq_true_eq] at hc
        exact ⟨_, _, .rs k wd' len kn _ rows (S_store hk) rfl rfl hc.1 hc.2, h⟩
      · exact h.elim
    · exact h.elim
  · exact h.elim
def outL (x : X) : List C → (List D → List Nat → Prop) → Prop
  | [], K => K [] []
  | c :: l, K => outC x c fun d ks => outL x l fun ds kss => K (d :: ds) (ks ++ kss)
theorem outL_ev : ∀ (l : List C) (K : List D → List Nat → Prop), outL x l K → ∃ ds ks, OutL x.S l ds ks ∧ K ds ks
  | [], K, h => ⟨_, _, .nil, h⟩
  | c :: l, K, h => by
    obtain ⟨d, ks, h1, h2⟩ := outC_ev h
    obtain ⟨ds, kss, h3, h4⟩ := outL_ev l _ h2
    exact ⟨_, _, .cons h1 h3, h4⟩
def outA (x : X) (y : A) (K : DV → List Nat → Prop) : Prop :=
  match y with
  | .c c => outC x c fun d ks => K (.c d) ks
  | .agg cs => outL x cs fun ds ks => K (.agg ds) ks
  | _ => False
theorem outA_ev {y : A} {K : DV → List Nat → Prop} (h : outA x y K) : ∃ d ks, OutA x.S y d ks ∧ K d ks := by
  unfold outA at h
  split at h
  · obtain ⟨d, ks, h1, h2⟩ := outC_ev h; exact ⟨_, _, .c h1, h2⟩
  · obtain ⟨d, ks, h1, h2⟩ := outL_ev _ _ h; exact ⟨_, _, .agg h1, h2⟩
  · exact h.elim
def outT (x : X) : List A → (List DV → List Nat → Prop) → Prop
  | [], K => K [] []
  | c :: l, K => outA x c fun d ks => outT x l fun ds kss => K (d :: ds) (ks ++ kss)
theorem outT_ev : ∀ (l : List A) (K : List DV → List Nat → Prop), outT x l K → ∃ ds ks, OutT x.S l ds ks ∧ K ds ks
  | [], K, h => ⟨_, _, .nil, h⟩
  | c :: l, K, h => by
    obtain ⟨d, ks, h1, h2⟩ := outA_ev h
    obtain ⟨ds, kss, h3, h4⟩ := outT_ev l _ h2
    exact ⟨_, _, .cons h1 h3, h4⟩

def nodupN : List Nat → Bool
  | [] => true
  | k :: l => !(l.any fun i => Nat.beq i k) && nodupN l
theorem nodupN_spec : ∀ l, nodupN l = true → l.Nodup
  | [], _ => .nil
  | k :: l, h => by
    simp only [nodupN, Bool.and_eq_true, Bool.not_eq_true'] at h
    refine List.nodup_cons.2 ⟨fun hm => ?_, nodupN_spec l h.2⟩
    have := List.any_eq_false.1 h.1 k hm
    exact this (beq_self k)


/-! ### own rows that are handed to a call for good -/
def Gh.clear (γ : Gh) (ks : List Nat) : Gh :=
  { γ with
    F := fun c => γ.F c ∨ ∃ k i j, k ∈ ks ∧ γ.FP k i j c
    FP := fun k i j c => k ∉ ks ∧ γ.FP k i j c }
theorem Gh.clear_G (γ : Gh) (ks : List Nat) (c : Nat) : (γ.clear ks).G c ↔ γ.G c := by
  constructor
  · rintro ((h | ⟨k, i, j, _, h⟩) | ⟨k, i, j, _, h⟩)
    · exact .inl h
    · exact .inr ⟨k, i, j, h⟩
    · exact .inr ⟨k, i, j, h⟩
  · rintro (h | ⟨k, i, j, h⟩)
    · exact .inl (.inl h)
    · by_cases hk : k ∈ ks
      · exact .inl (.inr ⟨k, i, j, hk, h⟩)
      · exact .inr ⟨k, i, j, hk, h⟩
theorem Gh.clear_le (γ : Gh) (ks : List Nat) : γ.le (γ.clear ks) :=
  { gen := fun _ => Nat.le_refl _, β := fun _ _ _ => rfl, F := fun c hc => .inl hc, G := fun c hc => (γ.clear_G ks c).2 hc, F0 := rfl }
def plainR (R : Root) : Prop := ∀ r ∈ R.rows, ∀ c ∈ r, ∃ v, c = .d (.v v)
theorem Rel.clear (h : Rel w0 own γ st a w) (ks : List Nat) (hp : ∀ k ∈ ks, ∀ R, st.store k = some R → plainR R) : Rel w0 own (γ.clear ks) st a w := by
  have hle := γ.clear_le ks
  refine { env := h.env, size := h.size, defers := h.defers, tmps := fun i => (h.tmps i).mono hle (.refl _ _) (.refl _), gen := h.gen, tag := h.tag, mem := fun k R hk => ?_, inj := h.inj, rootF := fun k R b hk hβ => ?_, fpF := fun k i j b hf => ?_, fpD := fun k i j k' i' j' b hf hf' => h.fpD k i j k' i' j' b hf.2 hf'.2, fs := fun b hF => hF.elim (h.fs b) fun ⟨k, i, j, _, hf⟩ => .inr (h.fpF _ _ _ _ hf).2, lt := fun b hG => h.lt b ((γ.clear_G ks b).1 hG), ltβ := h.ltβ }
  · by_cases hks : k ∈ ks
    · have hm := h.mem k R hk
      unfold RootOK at hm ⊢
      show match γ.β k R.tag with | none => _ | some b => _
      split at hm
      · rename_i hn; rw [hn]; exact hm
      · rename_i b hn
        rw [hn]
        obtain ⟨arr, E, h1, h2, h3, h4⟩ := hm
        refine ⟨arr, E, h1, h2, h3, fun i j r c hr hc => ?_⟩
        obtain ⟨v, rfl⟩ := hp k hks R hk r (List.mem_of_getElem? hr) c (List.mem_of_getElem? hc)
        have := h4 i j r _ hr hc
        exact CR.mono hle (.refl _ _) (.refl _) (show CR γ w _ (.d (.v v)) from this)
    · exact (h.mem k R hk).mono hle (.refl _ _) (.refl _) (by rw [h.gen]; exact h.tag k R hk) (fun _ _ => rfl) (fun i j r c _ _ b => ⟨fun hf => ⟨hks, hf⟩, fun hf => hf.2⟩)
  · obtain ⟨p1, p2, p3⟩ := h.rootF k R b hk hβ
    exact ⟨fun hF => hF.elim p1 fun ⟨k', i, j, _, hf⟩ => p2 k' i j hf, fun k' i j hf => p2 k' i j hf.2, p3⟩
  · obtain ⟨hk, hf⟩ := hf
    obtain ⟨p1, p2⟩ := h.fpF k i j b hf
    exact ⟨fun hF => hF.elim p1 fun ⟨k', i', j', hk', hf'⟩ => hk ((h.fpD _ _ _ _ _ _ _ hf' hf).1 ▸ hk'), p2⟩

def St.dels (st : St) (ks : List Nat) : St := { st with store := fun i => if i ∈ ks then none else st.store i }

theorem foot_root (h : Rel w0 own γ st a w) {ks : List Nat} (hf : ∀ k ∈ ks, ∀ i j b, ¬ γ.FP k i j b) {b : Nat} (hb : γ.foot st ks b) : (∃ k R, k ∈ ks ∧ st.store k = some R ∧ γ.β k R.tag = some b) ∧ ¬ γ.G b ∧ (own b ∨ w0.heap.size ≤ b) ∧ b < w.heap.size := by
  obtain ⟨k, R, hk, hs, hβ | ⟨i, j, hfp⟩⟩ := hb
  · obtain ⟨p1, p2, p3⟩ := h.rootF k R b hs hβ
    exact ⟨⟨k, R, hk, hs, hβ⟩, fun hG => hG.elim p1 fun ⟨k', i, j, hf'⟩ => p2 k' i j hf', p3, h.ltβ k R.tag b (by rw [h.gen]; exact h.tag k R hs) hβ⟩
  · exact (hf k hk i j b hfp).elim

theorem Rel.give {w' : World} (h : Rel w0 own γ st a w) (ks : List Nat) (hf : ∀ k ∈ ks, ∀ i j b, ¬ γ.FP k i j b) (hb : ∀ b, b < w.heap.size → ¬ γ.foot st ks b → w'.heap[b]? = w.heap[b]?) (hz : Shapes w w') (hs : w.heap.size ≤ w'.heap.size) (ho : w'.os = w.os) (ht : w'.tape = w.tape) (hp : w'.output = w.output) :
    Rel w0 own γ (st.dels ks) a w' := by
  have hS : Same γ.G w w' := fun b hG => hb b (h.lt b hG) fun hfo => (foot_root h hf hfo).2.1 hG
  have hst : ∀ k R, (st.dels ks).store k = some R → k ∉ ks ∧ st.store k = some R := fun k R hk => by
    simp only [St.dels] at hk
    split at hk
    · cases hk
    · exact ⟨‹_›, hk⟩
  have hroot : ∀ k R b, (st.dels ks).store k = some R → γ.β k R.tag = some b → w'.heap[b]? = w.heap[b]? := fun k R b hk hβ => by
    obtain ⟨h1, h2⟩ := hst k R hk
    refine hb b (h.ltβ k R.tag b (by rw [h.gen]; exact h.tag k R h2) hβ) fun hfo => ?_
    obtain ⟨⟨k', R', m1, m2, m3⟩, _⟩ := foot_root h hf hfo
    exact h1 (h.inj k R k' R' b h2 m2 hβ m3 ▸ m1)
  exact {
    env := ⟨ho.trans h.env.os, ht.trans h.env.tape, hp.trans h.env.output, Nat.le_trans h.env.size hs, fun b hb' hn => (hb b (Nat.lt_of_lt_of_le hb' h.env.size) fun hfo => (foot_root h hf hfo).2.2.1.elim hn fun q => by omega).trans (h.env.block b hb' hn), fun b s e => hz b s (h.env.shapes b s e)⟩
    size := h.size, defers := h.defers
    tmps := fun i => (h.tmps i).mono γ.le_refl hS hz
    gen := h.gen, tag := fun k R hk => h.tag k R (hst k R hk).2
    mem := fun k R hk => (h.mem k R (hst k R hk).2).mono γ.le_refl hS hz (by rw [h.gen]; exact h.tag k R (hst k R hk).2) (fun b hβ => hroot k R b hk hβ) (fun _ _ _ _ _ _ _ => Iff.rfl)
    inj := fun k R k' R' b h1 h2 => h.inj k R k' R' b (hst k R h1).2 (hst k' R' h2).2
    rootF := fun k R b h1 => h.rootF k R b (hst k R h1).2
    fpF := h.fpF, fpD := h.fpD, fs := h.fs
    lt := fun b hG => Nat.lt_of_lt_of_le (h.lt b hG) hs
    ltβ := fun k g b hg hβ => Nat.lt_of_lt_of_le (h.ltβ k g b hg hβ) hs }

theorem op_callOwn {f : FuncId} {args : List Operand} {tys : Array TypeId} {ds : List DV} {res : DV} {ks : List Nat} (k : Nat) (hd : (matV (st.dels ks) k res).1.fits o.dst = true) (ho : o.op = .call { callee := .value (.func f), args := args.toArray, argTypes := tys })
    (hout : OutT st (args.map (evA st)) ds ks) (hn : ks.Nodup) (hpl : ∀ k ∈ ks, ∀ R, st.store k = some R → plainR R) (hg : Goes P f) (hct : CT P f ds res) (hp : res.pureOwn = true ∨ (DV.tup ds).pureOwn = true) :
    OpOK P w0 own o st ((matV (st.dels ks) k res).1.put o.dst (matV (st.dels ks) k res).2) := by
  intro γ0 a w next Q hR0 hnx
  have hR := hR0.clear ks hpl
  have hle0 := γ0.clear_le ks
  generalize hγ : γ0.clear ks = γ at *
  have hFP : ∀ k ∈ ks, ∀ i j b, ¬ γ.FP k i j b := fun k hk i j b hf => by rw [← hγ] at hf; exact hf.1 hk
  obtain ⟨e1, sub, s1, s2, s3⟩ := outT_spec hR _ ds ks (fun i => (args.map a.eval).getD i undef) hout hn (fun i c hc => by
    rw [List.getElem?_map] at hc
    obtain ⟨y, hy, rfl⟩ := Option.map_eq_some_iff.1 hc
    have : (args.map a.eval).getD i undef = a.eval y := by simp [List.getD_eq_getElem?_getD, hy]
    rw [this]
    exact hR.ev y)
  have hov : OV w γ.F (.tuple (args.map a.eval).toArray) (.tup ds) (γ.foot st ks) := .tup _ _ _ sub (by simpa using e1) (fun i d hd => by simpa [Array.getD_eq_getD_getElem?, List.getD] using s1 i d hd) s2 s3
  have hF : ∀ b, γ.F b → b < w.heap.size ∧ ¬ γ.foot st ks b := fun b hb => ⟨hR.lt b (.inl hb), fun hfo => (foot_root hR hFP hfo).2.1 (.inl hb)⟩
  have hov' : OV w (fun b => b < w.heap.size ∧ ¬ γ.foot st ks b) (.tuple (args.map a.eval).toArray) (.tup ds) (γ.foot st ks) := hov.mono hF (.refl _ _) (.refl _ _)
  suffices key : ∀ Gx : Nat → Prop, OV w Gx (.tuple (args.map a.eval).toArray) (.tup ds) (γ.foot st ks) → (∀ b, Gx b → b < w.heap.size ∧ ¬ γ.foot st ks b) → (∀ (w' : World) v S' (G' : Nat → Prop), (∀ b, (γ.foot st ks b ∨ w.heap.size ≤ b) ∧ b < w'.heap.size ∧ ¬ S' b → G' b) → OV w' (fun b => (Gx b ∨ γ.foot st ks b ∨ w.heap.size ≤ b) ∧ b < w'.heap.size ∧ ¬ S' b) v res S' → OV w' G' v res S') → o.wp P a w next Q by
    rcases hp with hp | hp
    · exact key _ hov' (fun b hb => hb) fun w' v S' G' _ hv => hv.pure hp
    · exact key (fun _ => False) (hov'.pure hp) (fun b hb => hb.elim) fun w' v S' G' hG hv => hv.mono (fun b ⟨h1, h2, h3⟩ => hG b ⟨h1.elim (fun h => h.elim) id, h2, h3⟩) (.refl _ _) (.refl _ _)
  intro Gx hov' hGx hpx
  have hcall := hct w _ (γ.foot st ks) Gx hov' hGx (fun b hb => (foot_root hR hFP hb).2.2.2)
  have hex : (execOp a.eval o).run P w = .ok (.enter f (args.map a.eval).toArray) w := by
    unfold execOp
    rw [ho]
    simp only [resolve, Act.eval, Deferred.ofValue, Sem.run_bind]
    simp [Sem.run, invoke, hg _ w]
  simp only [Oper.wp, hex, Oper.upon_enter]
  refine hcall.mono fun e w' ⟨v, S', he, hv, hS', henv⟩ => ?_
  subst he
  simp only
  have hR1 := hR.give ks hFP (w' := w') (fun b hb hns => henv.block b hb hns) henv.shapes henv.size henv.os henv.tape henv.output
  have hfree1 : ∀ b, (γ.foot st ks b ∨ w.heap.size ≤ b) → b < w'.heap.size → Free w0 own γ (st.dels ks) w' (fun c => c = b) := by
    rintro b hb hb' c rfl
    have hk' : ∀ k' R, (st.dels ks).store k' = some R → k' ∉ ks ∧ st.store k' = some R := fun k' R hk => by
      simp only [St.dels] at hk
      split at hk
      · cases hk
      · exact ⟨‹_›, hk⟩
    rcases hb with hb | hb
    · obtain ⟨⟨k1, R1, m1, m2, m3⟩, g1, g2, g3⟩ := foot_root hR hFP hb
      refine ⟨g1, fun k' R hk hβ => ?_, g2, hb'⟩
      obtain ⟨n1, n2⟩ := hk' k' R hk
      exact n1 (hR.inj k' R k1 R1 c n2 m2 hβ m3 ▸ m1)
    · refine ⟨fun hG => ?_, fun k' R hk hβ => ?_, .inr (Nat.le_trans hR.env.size hb), hb'⟩
      · have := hR.lt c hG; omega
      · have := hR.ltβ k' R.tag c (by rw [hR.gen]; exact hR.tag k' R (hk' k' R hk).2) hβ; omega
  have hfree : ∀ S : Nat → Prop, (∀ b, S b → (γ.foot st ks b ∨ w.heap.size ≤ b) ∧ b < w'.heap.size) → Free w0 own γ (st.dels ks) w' S := fun S h b hb => hfree1 b (h b hb).1 (h b hb).2 b rfl
  obtain ⟨hR2, hle2⟩ := hR1.still (N := fun b => (γ.foot st ks b ∨ w.heap.size ≤ b) ∧ b < w'.heap.size ∧ ¬ S' b) (hfree _ fun b hb => ⟨hb.1, hb.2.1⟩)
  have hv2 : OV w' (γ.still fun b => (γ.foot st ks b ∨ w.heap.size ≤ b) ∧ b < w'.heap.size ∧ ¬ S' b).F v res S' := hpx _ _ _ _ (fun b hb => .inr hb) hv
  have hfS : Free w0 own (γ.still fun b => (γ.foot st ks b ∨ w.heap.size ≤ b) ∧ b < w'.heap.size ∧ ¬ S' b) (st.dels ks) w' S' := by
    intro b hb
    obtain ⟨f1, f2, f3, f4⟩ := hfree S' hS' b hb
    refine ⟨fun hG => ?_, f2, f3, f4⟩
    rcases hG with (hF | hN) | hf
    · exact f1 (.inl hF)
    · exact hN.2.2 hb
    · exact f1 (.inr hf)
  obtain ⟨γ3, q1, q2, q3, _⟩ := matV_spec hR2 k hv2 hfS
  exact hnx γ3 _ w' (Gh.le_trans hle0 (Gh.le_trans hle2 q1)) (q2.put q3 hd)

def delsU (gen : Nat → Nat) (ks : List Nat) : Ups := ks.map fun k => (k, none, gen k)
theorem lookU_dels (gen : Nat → Nat) : ∀ (ks : List Nat) (i : Nat), lookU (toU (delsU gen ks)) i = if i ∈ ks then some (none, gen i) else none
  | [], i => by simp [delsU, toU, lookU]
  | k :: ks, i => by
    have ih := lookU_dels gen ks i
    simp only [delsU, toU, List.map_cons, lookU] at ih ⊢
    by_cases h : i = k
    · subst h; simp
    · rw [if_neg h]
      simp only [List.map_map] at ih ⊢
      rw [ih]
      simp [h]
theorem dels_ups (st : St) (ks : List Nat) (u : Ups) : (st.dels ks).ups u = st.ups (u ++ delsU st.gen ks) := by
  simp only [St.ups, St.patch, St.dels, toU, List.map_append]
  congr 1
  · funext i
    rw [lookU_append]
    have := lookU_dels st.gen ks i
    simp only [toU] at this
    split
    · rename_i r hr; rw [hr]; rfl
    · rename_i hr
      rw [hr, Option.none_or, this]
      by_cases h : i ∈ ks <;> simp [h]
  · funext i
    rw [lookU_append]
    have := lookU_dels st.gen ks i
    simp only [toU] at this
    split
    · rename_i r hr; rw [hr]; rfl
    · rename_i hr
      rw [hr, Option.none_or, this]
      by_cases h : i ∈ ks <;> simp [h]

theorem outC_alike {st st' : St} {y : C} {d : D} {ks : List Nat} (h : OutC st y d ks) (hk : ∀ k ∈ ks, st'.store k = st.store k) : OutC st' y d ks := by
  cases h with
  | v => exact .v _
  | ro _ h => exact .ro _ h
  | rs k wd len kn R rows h1 h2 h3 h4 h5 => exact .rs k wd len kn R rows ((hk k (by simp)).trans h1) h2 h3 h4 h5
theorem outL_alike {st' : St} {ys : List C} {ds : List D} {ks : List Nat} (h : OutL st ys ds ks) : (∀ k ∈ ks, st'.store k = st.store k) → OutL st' ys ds ks := by
  induction h with
  | nil => exact fun _ => .nil
  | cons h1 _ ih => exact fun hk => .cons (outC_alike h1 fun k hm => hk k (List.mem_append_left _ hm)) (ih fun k hm => hk k (List.mem_append_right _ hm))
theorem outA_alike {st' : St} {y : A} {d : DV} {ks : List Nat} (h : OutA st y d ks) (hk : ∀ k ∈ ks, st'.store k = st.store k) : OutA st' y d ks := by
  cases h with
  | c h => exact .c (outC_alike h hk)
  | agg h => exact .agg (outL_alike h hk)
theorem outT_alike {st' : St} {ys : List A} {ds : List DV} {ks : List Nat} (h : OutT st ys ds ks) : (∀ k ∈ ks, st'.store k = st.store k) → OutT st' ys ds ks := by
  induction h with
  | nil => exact fun _ => .nil
  | cons h1 _ ih => exact fun hk => .cons (outA_alike h1 fun k hm => hk k (List.mem_append_left _ hm)) (ih fun k hm => hk k (List.mem_append_right _ hm))

def allPlain (x : X) : List Nat → Prop → Prop
  | [], K => K
  | k :: ks, K => match lookN x.store k with
    | some (.sl _ _ rows) => cond (allV rows) (allPlain x ks K) False
    | _ => False
theorem allPlain_spec {K : Prop} : ∀ {ks : List Nat}, allPlain x ks K → K ∧ ∀ k ∈ ks, ∀ R, x.S.store k = some R → plainR R
  | [], h => ⟨h, by simp⟩
  | k :: ks, h => by
    unfold allPlain at h
    split at h
    · rename_i tg wd rows hk
      obtain ⟨h1, h2⟩ := cond_P h
      obtain ⟨i1, i2⟩ := allPlain_spec h2
      refine ⟨i1, fun k' hm R hR => ?_⟩
      rcases List.mem_cons.1 hm with rfl | hm
      · rw [lookN_S hk] at hR
        cases hR
        intro r hr c hc
        obtain ⟨r0, h0, rfl⟩ := List.mem_map.1 hr
        obtain ⟨d, hd, rfl⟩ := List.mem_map.1 hc
        have := List.all_eq_true.1 (List.all_eq_true.1 h1 r0 h0) d hd
        cases d <;> simp [D.isV] at this
        exact ⟨_, rfl⟩
      · exact i2 k' hm R hR
    · exact h.elim

def evCallOwn (H : Hooks) (o : Oper) (x : X) (f : FuncId) (args : Array Operand) (K : KO) : Prop :=
  outT x (args.toList.map (evA x.S)) fun ds ks => match nodupN ks with
    | true => allPlain x ks (H.call f ds fun res =>
        K (ks ++ (upV x.gen (x.freeC o) res).1.map (·.1)) ⟨(upV x.gen (x.freeC o) res).2, (upV x.gen (x.freeC o) res).1 ++ delsU x.gen ks⟩ x)
    | false => False

theorem evCallOwn_sound {H : Hooks} (hH : CallsOK P H) {f : FuncId} {args : Array Operand} {tys : Array TypeId} (ho : o.op = .call { callee := .value (.func f), args := args, argTypes := tys }) : Sound P o x (evCallOwn H o x f args) := fun K h hd => by
  have hops : o.op.operands.toList = .func f :: args.toList := by rw [ho]; simp [Op.operands, Call.operands]
  unfold evCallOwn at h
  obtain ⟨ds, ks, h1, h2⟩ := outT_ev _ _ h
  split at h2
  · rename_i hn
    have hn := nodupN_spec _ hn
    obtain ⟨h3, hpl⟩ := allPlain_spec h2
    obtain ⟨hg, r, hct, hp, hfit, hK⟩ := hH.2.2.2 _ _ _ h3
    refine ⟨_, _, hK, fun w0 own ops => ⟨rfl, fun i hi => ?_, fun st' hal => ?_⟩⟩
    · rw [XP.patch, keysU_toU, List.map_append] at hi
      rcases List.mem_append.1 hi with hi | hi
      · exact List.mem_append_right _ hi
      · refine List.mem_append_left _ ?_
        simpa [delsU] using hi
    · have hst : ∀ k ∈ ks, st'.store k = x.S.store k := fun k hk => hal.store k (List.mem_append_left _ hk)
      have hgen : ∀ k ∈ ks, st'.gen k = x.S.gen k := fun k hk => hal.gen k (List.mem_append_left _ hk)
      have e0 : args.toList.map (evA st') = args.toList.map (evA x.S) := List.map_congr_left fun y hy => hal.ev (by rw [hops]; exact List.mem_cons_of_mem _ hy)
      have e2 : upV st'.gen (x.freeC o) r = upV x.gen (x.freeC o) r := upV_congr fun i hi => hal.gen i (List.mem_append_right _ hi)
      have e4 : delsU st'.gen ks = delsU x.gen ks := List.map_congr_left fun k hk => by rw [hgen k hk]; rfl
      have e3 := matV_up (st'.dels ks) (x.freeC o) r hfit
      have e5 : (st'.dels ks).gen = st'.gen := rfl
      have := op_callOwn (P := P) (w0 := w0) (own := own) (st := st') (o := o) (res := r) (ks := ks) (args := args.toList) (tys := tys) (ds := ds) (x.freeC o) (by
        rw [e3]
        have := fits_alike hal hd
        cases h : o.dst <;> simp_all [St.fits, St.ups, St.patch, St.dels]) (by simpa using ho) (by rw [e0]; exact outT_alike h1 hst) hn (fun k hk R hR => hpl k hk R ((hst k hk).symm.trans hR)) hg hct hp
      rw [e3, e5, e2, dels_ups, e4, ups_put] at this
      exact this
  · exact h2.elim
end

section
open Go
set_option linter.unusedSimpArgs false
set_option linter.unusedVariables false

variable {P : Program} {w0 : World} {own : Nat → Prop} {γ : Gh} {st : St} {a : Act} {w : World} {o : Oper} {x : X} {ops : Array Oper}

/-! ### make -/
def madeRows (zs : List Value) (n : Nat) : List (List D) := List.replicate n (zs.map D.v)
theorem op_make {t e : TypeId} {yl yc : Operand} {i : TypeInfo} {z : Value} {n : Int} {sz : Nat} {zs : List Value} (k : Nat) (hd : st.fits o.dst = true) (ho : o.op = .makeSlice t yl yc) (ht : P.underlying t = some (.slice e)) (hi : P.info? e = some i) (hsz : i.size = sz) (hz : i.zero = some z) (hzs : z.cells.toList = zs) (hzl : zs.length = sz) (h0 : 0 < sz)
    (hp : zs.all plain = true) (hl : bnd st (some yl) 0 = some n) (hc : bnd st (some yc) 0 = some n) (hn : 0 ≤ n) (hb : (i.bytes : Int) * n ≤ 281474976710656) (h63 : n ≤ 9223372036854775807) :
    OpOK P w0 own o st ((st.root k false sz (emb (madeRows zs n.toNat))).put o.dst (.c (.rs k (st.gen k + 1) sz 0 n.toNat n.toNat))) :=
  .value (by cases h : o.dst <;> simp_all [St.fits, St.root]) fun γ a w hR => by
    obtain ⟨kl, el⟩ := bnd_val hR hl
    obtain ⟨kc, ec⟩ := bnd_val hR hc
    have hr := run_make (P := P) w t e i z ht hi hz kl kc n n hn (Int.le_refl _) hb h63
    have hzc : z.cells.size = sz := by rw [← Array.length_toList, hzs, hzl]
    have has : (madeCells z.cells (n.toNat * i.size)).size = n.toNat * sz := by rw [size_madeCells, hsz]
    have hrl : ∀ (q : Nat) r, (emb (madeRows zs n.toNat))[q]? = some r → q < n.toNat ∧ r = (zs.map D.v).map C.d := fun q r hq => by
      simp only [emb, madeRows, List.getElem?_map, List.getElem?_replicate] at hq
      split at hq
      · simp only [Option.map_some, Option.some.injEq] at hq
        exact ⟨‹_›, hq.symm⟩
      · cases hq
    refine ⟨_, _, _, by unfold execOp; rw [ho]; simp only [el, ec, Sem.run_bind, hr]; rfl, γ.fresh_le k (some w.heap.size), hR.alloc k false sz _ _ e (fun r hr => ?_) ?_ (fun i' j r c hr' hc' => ?_), ?_⟩
    · obtain ⟨q, hq⟩ := List.getElem?_of_mem hr
      rw [(hrl q r hq).2]; simp [hzl]
    · rw [has]; simp [emb, madeRows]
    · obtain ⟨q1, q2⟩ := hrl i' r hr'
      subst q2
      simp only [List.map_map, List.getElem?_map] at hc'
      obtain ⟨v, hv, rfl⟩ := Option.map_eq_some_iff.1 hc'
      have hj : j < sz := by have := (List.getElem?_eq_some_iff.1 hv).1; omega
      have hlt : i' * sz + j < n.toNat * sz := row_lt q1 hj
      have hm : (i' * sz + j) % sz = j := by rw [Nat.mul_comm, Nat.mul_add_mod]; exact Nat.mod_eq_of_lt hj
      have eg : (madeCells z.cells (n.toNat * i.size)).getD (i' * sz + j) undef = v := by
        rw [Array.getD_eq_getD_getElem?]
        simp only [madeCells, Array.getElem?_map, Array.getElem?_range, hsz, hlt, if_true, Option.map_some, Option.getD_some, hzc, hm]
        have hj' : j < z.cells.size := by omega
        rw [getElem!_pos z.cells _ hj']
        have : zs[j]? = some z.cells[j] := by rw [← hzs]; simp [hj']
        rw [hv] at this; cases this; rfl
      rw [eg]
      exact ⟨.d _ _ (.v _ (List.all_eq_true.1 hp v (List.mem_of_getElem? hv))), rfl⟩
    · have hg : γ.gen k = st.gen k := congrFun hR.gen k
      have := CR.rs (γ := γ.fresh k (some w.heap.size)) (w := w.alloc (.cells (madeCells z.cells (n.toNat * i.size)) e)) k (st.gen k + 1) sz 0 n.toNat n.toNat n.toNat w.heap.size e (n.toNat * sz) (by rw [Gh.fresh_gen, hg]; exact Nat.le_refl _) (by rw [← hg, Gh.fresh_new]) (by simp only [World.shape?, heap_alloc_new, has]) (by simp) (Nat.le_refl _) (Nat.le_refl _)
      simp at this
      exact .c _ _ this

def sameI (a b : Option Int) (K : Int → Prop) : Prop := match a, b with
  | some n, some m => cond (decide (n = m)) (K n) False
  | _, _ => False
theorem sameI_spec {a b : Option Int} {K : Int → Prop} (h : sameI a b K) : ∃ n, a = some n ∧ b = some n ∧ K n := by
  unfold sameI at h
  split at h
  · rename_i n m
    obtain ⟨h1, h2⟩ := cond_P h
    have := of_decide_eq_true h1
    subst this
    exact ⟨_, rfl, rfl, h2⟩
  · exact h.elim
def evMake (P : Program) (o : Oper) (x : X) (t : TypeId) (yl yc : Operand) (K : KO) : Prop :=
  match elT P t with
  | some e => match P.info? e with
    | some i => match i.zero with
      | some z => match Nat.beq z.cells.toList.length i.size && (Nat.ble 1 i.size && z.cells.toList.all plain) with
        | true => sameI (bnd x.S (some yl) 0) (bnd x.S (some yc) 0) fun n => cond (decide (0 ≤ n) && (decide ((i.bytes : Int) * n ≤ 281474976710656) && decide (n ≤ 9223372036854775807)))
            (K [x.freeO o] ⟨.c (.rs (x.freeO o) (x.gen (x.freeO o) + 1) i.size 0 n.toNat n.toNat), [(x.freeO o, some (.sl (x.gen (x.freeO o) + 1) i.size (madeRows z.cells.toList n.toNat)), x.gen (x.freeO o) + 1)]⟩ x) False
        | false => False
      | none => False
    | none => False
  | none => False
theorem evMake_sound {t : TypeId} {yl yc : Operand} (ho : o.op = .makeSlice t yl yc) : Sound P o x (evMake P o x t yl yc) := fun K h hd => by
  unfold evMake at h
  split at h
  · rename_i e het
    have het := elT_spec het
    split at h
    · rename_i i hi
      split at h
      · rename_i z hz
        split at h
        · rename_i hc
          simp only [Bool.and_eq_true] at hc
          obtain ⟨c1, c2, c3⟩ := hc
          obtain ⟨n, hl, hcp, h⟩ := sameI_spec h
          obtain ⟨hb, h⟩ := cond_P h
          simp only [Bool.and_eq_true, decide_eq_true_eq] at hb
          refine ⟨_, _, h, fun w0 own ops => .one fun st' hal => ?_⟩
          have opl : ∀ z, some yl = some z → z ∈ o.op.operands.toList := fun z hz => by rw [ho]; simp [Op.operands]; cases hz; simp
          have opc : ∀ z, some yc = some z → z ∈ o.op.operands.toList := fun z hz => by rw [ho]; simp [Op.operands]; cases hz; simp
          have := op_make (P := P) (w0 := w0) (own := own) (st := st') (x.freeO o) (fits_alike hal hd) ho het hi rfl hz rfl (beq_true c1) (Nat.le_of_ble_eq_true c2) c3
            (by rw [bnd_alike hal opl]; exact hl) (by rw [bnd_alike hal opc]; exact hcp) hb.1 hb.2.1 hb.2.2
          rw [root_patch, hal.gen _ (by simp)] at this
          exact this
        · exact h.elim
      · exact h.elim
    · exact h.elim
  · exact h.elim

/-! ### is a slice nil? It may be, if it is empty -/
theorem op_eqNil {t e u : TypeId} {y z : Operand} {q : Bool} (hd : st.fits o.dst = true) (ho : o.op = .binOp .eql t y z u) (ht : P.underlying t = some (.slice e)) (hz : evA st z = .c (.d (.v (.slice none 0 0))))
    (hy : (∃ tg wd rows sp, evA st y = .c (.d (.s tg wd rows sp)) ∧ q = Nat.beq rows.length 0) ∨ (∃ k g wd lo len kn, evA st y = .c (.rs k g wd lo len kn) ∧ q = Nat.beq len 0)) : OpOK P w0 own o st (st.put o.dst (.bb q)) :=
  .value hd fun γ a w hR => by
    have hzv := hR.ev z
    rw [hz] at hzv
    have ez := (AR.sc_inv (show AR γ w (a.eval z) (sc (.slice none 0 0)) from hzv)).1
    have hv := hR.ev y
    have key : ∃ A len cap, a.eval y = .slice A len cap ∧ (A.isNone = true → q = true) := by
      rcases hy with ⟨tg, wd, rows, sp, h1, rfl⟩ | ⟨k, g, wd, lo, len, kn, h1, rfl⟩
      · rw [h1] at hv
        have hd := hv.d_inv
        generalize a.eval y = v at hd
        cases hd with
        | e A _ _ cap => exact ⟨A, 0, cap, rfl, fun _ => rfl⟩
        | s _ _ _ b off cap _ vs _ _ _ _ _ => exact ⟨_, _, cap, rfl, fun h => by cases h⟩
      · rw [h1] at hv
        rcases hv.rs_inv with ⟨cap, b, E, n, ev, _⟩ | ⟨⟨A, ev⟩, e1, e2, e3, _, _⟩
        · exact ⟨_, _, cap, ev, fun h => by cases h⟩
        · subst e2; exact ⟨A, 0, 0, ev, fun _ => rfl⟩
    obtain ⟨A, len, cap, ev, hq⟩ := key
    refine ⟨γ, w, .bool A.isNone, ?_, γ.le_refl, hR, .bb _ _ hq⟩
    unfold execOp
    rw [ho]
    simp only [ev, ez]
    have e2 : eqGuard .eql t y z (.slice A len cap) (.slice none 0 0) = .pure () := rfl
    have e3 : binOp .eql t (.slice A len cap) (.slice none 0 0) = (do pure (.bool (← Op.equal t (.slice A len cap) (.slice none 0 0)))) := rfl
    rw [e2, e3]
    simp [Sem.run_bind, Sem.run, run_equal_slice_nil w t e A len cap ht]

def evEqNil (P : Program) (x : X) (t : TypeId) (y z : Operand) (K : KO) : Prop :=
  match elT P t, evA x.S z with
  | some _, .c (.d (.v (.slice none 0 0))) => match evA x.S y with
    | .c (.d (.s _ _ rows _)) => K [] ⟨.bb (Nat.beq rows.length 0), []⟩ x
    | .c (.rs _ _ _ _ len _) => K [] ⟨.bb (Nat.beq len 0), []⟩ x
    | _ => evBin P x .eql t y z K
  | _, _ => evBin P x .eql t y z K
theorem evEqNil_sound {t u : TypeId} {y z : Operand} (ho : o.op = .binOp .eql t y z u) : Sound P o x (evEqNil P x t y z) := fun K h hd => by
  have opy : y ∈ o.op.operands.toList := by rw [ho]; simp [Op.operands]
  have opz : z ∈ o.op.operands.toList := by rw [ho]; simp [Op.operands]
  unfold evEqNil at h
  split at h
  · rename_i e het hz
    have het := elT_spec het
    split at h
    · rename_i tg wd rows sp hy
      exact ⟨_, _, h, fun w0 own ops => .plain fun st' hal => op_eqNil (fits_alike hal hd) ho het (by rw [hal.ev opz]; exact hz) (.inl ⟨_, _, _, _, by rw [hal.ev opy]; exact hy, rfl⟩)⟩
    · rename_i k g wd lo len kn hy
      exact ⟨_, _, h, fun w0 own ops => .plain fun st' hal => op_eqNil (fits_alike hal hd) ho het (by rw [hal.ev opz]; exact hz) (.inr ⟨_, _, _, _, _, _, by rw [hal.ev opy]; exact hy, rfl⟩)⟩
    · exact evBin_sound ho K h hd
  · exact evBin_sound ho K h hd
end
end Vm
