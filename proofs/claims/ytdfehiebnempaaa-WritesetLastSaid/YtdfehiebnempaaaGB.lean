/- An interpreter for Go's texts over plain data, and its proof: what it answers is what the model does. My own work. -/
import Derived.Test.YtdfehiebnempaaaGA
import Derived.Deep.LoopGhost
import Derived.LoopN
namespace Vm
section
open Go
set_option linter.unusedSimpArgs false
set_option linter.unusedVariables false

variable {P : Program} {w0 : World} {own : Nat → Prop} {γ : Gh} {st : St} {a : Act} {w : World}

/-- A value of pure data. -/
inductive DV where
  | c (x : D)
  | agg (xs : List D)
  | tup (xs : List DV)
  deriving Inhabited

inductive OV (w : World) (G : Nat → Prop) : Value → DV → (Nat → Prop) → Prop
  | c (v : Value) (x : D) (S : Nat → Prop) : OD w G v x S → OV w G v (.c x) S
  | agg (vs : Array Value) (xs : List D) (S : Nat → Prop) (sub : Nat → Nat → Prop) : vs.size = xs.length → (∀ i d, xs[i]? = some d → OD w G (vs.getD i undef) d (sub i)) → (∀ i b, sub i b → S b) →
      (∀ i i' b, sub i b → sub i' b → i = i') → OV w G (.agg vs) (.agg xs) S
  | tup (vs : Array Value) (xs : List DV) (S : Nat → Prop) (sub : Nat → Nat → Prop) : vs.size = xs.length → (∀ i d, xs[i]? = some d → OV w G (vs.getD i undef) d (sub i)) → (∀ i b, sub i b → S b) →
      (∀ i i' b, sub i b → sub i' b → i = i') → OV w G (.tuple vs) (.tup xs) S

/-- What a call of f does with such data: it answers res, and turns nothing but what was handed to it as its own. -/
def CT (P : Program) (f : FuncId) (args : List DV) (res : DV) : Prop :=
  ∀ (w : World) (vs : Array Value) (S G : Nat → Prop), OV w G (.tuple vs) (.tup args) S → (∀ b, G b → b < w.heap.size ∧ ¬ S b) → (∀ b, S b → b < w.heap.size) →
    Calls P f vs w fun e w' => ∃ v S', e = .returned v ∧ OV w' (fun b => (G b ∨ S b ∨ w.heap.size ≤ b) ∧ b < w'.heap.size ∧ ¬ S' b) v res S' ∧ (∀ b, S' b → (S b ∨ w.heap.size ≤ b) ∧ b < w'.heap.size) ∧ Env w S w'

/-! ### what is handed to a call -/
def strip : List (List C) → Option (List (List D))
  | [] => some []
  | r :: l => match stripRow r, strip l with | some x, some y => some (x :: y) | _, _ => none
where
  stripRow : List C → Option (List D)
    | [] => some []
    | .d x :: l => (stripRow l).map (x :: ·)
    | _ :: _ => none

theorem stripRow_spec : ∀ (r : List C) (x : List D), strip.stripRow r = some x → r = x.map C.d
  | [], x, h => by simp [strip.stripRow] at h; subst h; rfl
  | c :: r, x, h => by
    cases c with
    | d y =>
      simp only [strip.stripRow, Option.map_eq_some_iff] at h
      obtain ⟨x', h1, rfl⟩ := h
      rw [stripRow_spec r x' h1]; rfl
    | _ => simp [strip.stripRow] at h
theorem strip_spec : ∀ (rows : List (List C)) (x : List (List D)), strip rows = some x → rows = emb x
  | [], x, h => by simp [strip] at h; subst h; rfl
  | r :: rows, x, h => by
    simp only [strip] at h
    split at h
    · rename_i y z h1 h2
      cases h
      rw [stripRow_spec r y h1, strip_spec rows z h2]; rfl
    · cases h
theorem stripRow_map (x : List D) : strip.stripRow (x.map C.d) = some x := by
  induction x with
  | nil => rfl
  | cons d x ih => simp [strip.stripRow, ih]
@[simp] theorem strip_emb (x : List (List D)) : strip (emb x) = some x := by
  induction x with
  | nil => rfl
  | cons r x ih => simp only [emb, List.map_cons, strip, stripRow_map]; rw [show List.map (fun r => List.map C.d r) x = emb x from rfl, ih]

def resRow (f : C → Option D) : List C → Option (List D)
  | [] => some []
  | y :: l => match f y, resRow f l with | some x, some r => some (x :: r) | _, _ => none

def resC (σ : Nat → Option Root) : Nat → C → Option D
  | 0, _ => none
  | _ + 1, .d x => some x.ro
  | _ + 1, .rs k g wd lo len kn =>
    match σ k with
    | some R => if R.tag = g ∧ R.wd = wd ∧ lo + len ≤ R.rows.length then (strip R.rows).map fun rows => .s 0 wd (roLL ((rows.drop lo).take len)) (roLL ((rows.drop (lo + len)).take (kn - len))) else none
    | none => none
  | n + 1, .rp k g wd i j =>
    match σ k with
    | some R => if R.tag = g ∧ R.wd = wd then (R.rows[i]?).bind fun r => (resRow (resC σ n) r).map fun r => .p 0 r j else none
    | none => none
  | n + 1, .cf fn fs cs => match resRow (resC σ n) fs, resRow (resC σ n) cs with | some x, some y => some (.f fn x y) | _, _ => none
  | _ + 1, .non => none

theorem resRow_spec {f : C → Option D} : ∀ (l : List C) (r : List D), resRow f l = some r → l.length = r.length ∧ ∀ (i : Nat) (c : C) (d : D), l[i]? = some c → r[i]? = some d → f c = some d
  | [], r, h => by simp [resRow] at h; subst h; exact ⟨rfl, by simp⟩
  | y :: l, r, h => by
    simp only [resRow] at h
    split at h
    · rename_i x r' h1 h2
      cases h
      obtain ⟨i1, i2⟩ := resRow_spec l r' h2
      refine ⟨by simp [i1], fun i c d hc hd => ?_⟩
      cases i with
      | zero => simp at hc hd; subst hc hd; exact h1
      | succ i => exact i2 i c d (by simpa using hc) (by simpa using hd)
    · cases h

theorem SR.read {v : Value} {d : D} {k i j : Nat} (h : SR γ w v (.d d) (γ.FP k i j)) : DR w γ.G v d := by
  unfold SR at h
  split at h
  · rename_i heq; cases heq; exact h.read (fun b hb => .inl hb) (fun b hb => .inr ⟨k, i, j, hb⟩)
  · exact (AR.c (γ := γ) _ _ h).d_inv.mono (γ.at_G _) (Same.refl _ _)

theorem D.ro_not_own (x : D) (z : Nat) (rows spare : List (List D)) : x.ro ≠ .s 1 z rows spare := by
  cases x <;> simp [D.ro]

theorem resC_spec (hR : Rel w0 own γ st a w) : ∀ (n : Nat) (c : C) (d : D) (v : Value), CR γ w v c → resC st.store n c = some d → DR w (· < w.heap.size) v d ∧ ∀ z rows spare, d ≠ .s 1 z rows spare
  | 0, c, d, v, _, h => by simp [resC] at h
  | n + 1, .d x, d, v, hc, h => by
    simp only [resC, Option.some.injEq] at h
    subst h
    have := (AR.c (γ := γ) _ _ hc).d_inv
    exact ⟨(this.mono (fun b hb => hR.lt b (γ.at_G _ b hb)) (Same.refl _ _)).ro, x.ro_not_own⟩
  | n + 1, .rs k g wd lo len kn, d, v, hc, h => by
    simp only [resC] at h
    split at h
    · rename_i R hk
      split at h
      · rename_i hcond
        obtain ⟨e1, e2, hle⟩ := hcond
        subst e1 e2
        obtain ⟨rows, hs, rfl⟩ := Option.map_eq_some_iff.1 h
        refine ⟨?_, by simp⟩
        have hrows := strip_spec _ _ hs
        have hm := hR.mem k R hk
        unfold RootOK at hm
        rcases (AR.c (γ := γ) _ _ hc).rs_inv with ⟨cap, b, E, nn, rfl, hβ, hg, hsh, hcap, hlc, hkn⟩ | ⟨⟨_, rfl⟩, hlo, hl0, hk0, hβ, _⟩
        · rw [hβ] at hm
          obtain ⟨arr, E', harr, hw, hsz, hcell⟩ := hm
          have hlr : rows.length = R.rows.length := by rw [hrows]; simp [emb]
          have hll : ((rows.drop lo).take len).length = len := by simp; omega
          have hb : b < w.heap.size := hR.ltβ k R.tag b hg hβ
          generalize hsp : (rows.drop (lo + len)).take (kn - len) = sp
          have hspl : sp.length ≤ kn - len ∧ sp.length ≤ rows.length - (lo + len) := by rw [← hsp]; simp; omega
          have hget : ∀ (i : Nat) r, ((rows.drop lo).take len ++ sp)[i]? = some r → i < len + sp.length ∧ rows[lo + i]? = some r := by
            intro i r hi
            have hil : i < len + sp.length := by have := (List.getElem?_eq_some_iff.1 hi).1; simp at this; omega
            refine ⟨hil, ?_⟩
            by_cases hi2 : i < len
            · rw [List.getElem?_append_left (by omega), List.getElem?_take, if_pos hi2, List.getElem?_drop] at hi
              exact hi
            · rw [List.getElem?_append_right (by omega), hll, ← hsp, List.getElem?_take] at hi
              split at hi
              · rw [List.getElem?_drop] at hi
                rw [← hi]; congr 1; omega
              · cases hi
          have key : DR w (· < w.heap.size) (.slice (some ⟨b, lo * R.wd, none⟩) ((rows.drop lo).take len).length cap) (.s 0 R.wd ((rows.drop lo).take len) sp) := by
            refine .s 0 _ sp b (lo * R.wd) cap R.wd (fun i j => arr.getD ((lo + i) * R.wd + j) undef) hb ?_ (by omega) ?_ ?_
            · intro r hr
              obtain ⟨i, hi⟩ := List.getElem?_of_mem hr
              obtain ⟨_, hi⟩ := hget i r hi
              have : r.map C.d ∈ R.rows := by rw [hrows]; exact List.mem_map.2 ⟨r, List.mem_of_getElem? hi, rfl⟩
              simpa using hw _ this
            · intro i j hi hj
              rw [hll] at hi
              have hpos : (lo + i) * R.wd + j < arr.size := Nat.lt_of_lt_of_le (row_lt (by omega : lo + i < R.rows.length) hj) hsz
              have e : lo * R.wd + (i * R.wd + j) = (lo + i) * R.wd + j := by rw [Nat.add_mul]; omega
              rw [e]
              simp [World.cell?, harr, hpos]
            · intro i j r d h1 h2
              obtain ⟨_, h1⟩ := hget i r h1
              obtain ⟨r', g1, g2⟩ := emb_get h1 h2
              rw [← hrows] at g1
              exact (hcell _ _ _ _ g1 g2).read.mono hR.lt (Same.refl _ _)
          rw [hll] at key
          have := key.ro
          simpa [D.ro] using this
        · subst hl0 hk0
          simp only [List.take_zero, roLL, Nat.sub_self]
          exact .e _ 0 _ _
      · cases h
    · cases h
  | n + 1, .rp k g wd i j, d, v, hc, h => by
    simp only [resC] at h
    split at h
    · rename_i R hk
      split at h
      · rename_i hcond
        obtain ⟨e1, e2⟩ := hcond
        subst e1 e2
        obtain ⟨r, hr, h⟩ := Option.bind_eq_some_iff.1 h
        obtain ⟨rd, hrd, rfl⟩ := Option.map_eq_some_iff.1 h
        refine ⟨?_, by simp⟩
        obtain ⟨b, rfl, hβ, hg⟩ := (AR.c (γ := γ) _ _ hc).rp_inv
        obtain ⟨hl, hf⟩ := resRow_spec _ _ hrd
        have hm := hR.mem k R hk
        unfold RootOK at hm
        rw [hβ] at hm
        obtain ⟨arr, E', harr, hw, hsz, hcell⟩ := hm
        have hi : i < R.rows.length := (List.getElem?_eq_some_iff.1 hr).1
        have hrl := hw r (List.mem_of_getElem? hr)
        refine .p 0 rd b (i * R.wd) j (fun q => arr.getD (i * R.wd + q) undef) (hR.ltβ k R.tag b hg hβ) (fun q hq => ?_) (fun q d hd => ?_)
        · have hpos : i * R.wd + q < arr.size := Nat.lt_of_lt_of_le (row_lt hi (by omega)) hsz
          simp [World.cell?, harr, hpos]
        · have hq : q < r.length := by have := (List.getElem?_eq_some_iff.1 hd).1; omega
          have hc' : r[q]? = some r[q] := List.getElem?_eq_getElem hq
          have hfc := hf q r[q] d hc' hd
          have hsr := hcell i q r r[q] hr hc'
          generalize r[q] = y at hsr hfc
          cases y with
          | d x =>
            cases n with
            | zero => simp [resC] at hfc
            | succ n =>
              simp only [resC, Option.some.injEq] at hfc
              subst hfc
              exact (hsr.read.mono hR.lt (Same.refl _ _)).ro
          | _ => exact (resC_spec hR n _ d _ hsr hfc).1
      · cases h
    · cases h
  | n + 1, .cf fn fs cs, d, v, hc, h => by
    simp only [resC] at h
    split at h
    · rename_i x y h1 h2
      cases h
      refine ⟨?_, by simp⟩
      obtain ⟨l1, f1⟩ := resRow_spec _ _ h1
      obtain ⟨l2, f2⟩ := resRow_spec _ _ h2
      cases hc with
      | cf _ _ _ fv cv s1 s2 c1 c2 =>
        refine .f fn x y fv cv (by omega) (by omega) (fun i d hd => ?_) (fun i d hd => ?_)
        · have hq : i < fs.length := by have := (List.getElem?_eq_some_iff.1 hd).1; omega
          exact (resC_spec hR n fs[i] d _ (c1 i _ (List.getElem?_eq_getElem hq)) (f1 i _ d (List.getElem?_eq_getElem hq) hd)).1
        · have hq : i < cs.length := by have := (List.getElem?_eq_some_iff.1 hd).1; omega
          exact (resC_spec hR n cs[i] d _ (c2 i _ (List.getElem?_eq_getElem hq)) (f2 i _ d (List.getElem?_eq_getElem hq) hd)).1
    · cases h
  | n + 1, .non, d, v, _, h => by simp [resC] at h

def resA (σ : Nat → Option Root) (n : Nat) : A → Option DV
  | .c y => (resC σ n y).map .c
  | .agg cs => (resRow (resC σ n) cs).map .agg
  | _ => none

theorem resA_spec (hR : Rel w0 own γ st a w) {n : Nat} {y : A} {d : DV} {v : Value} (h : AR γ w v y) (hr : resA st.store n y = some d) : OV w (· < w.heap.size) v d fun _ => False := by
  cases y with
  | c y =>
    obtain ⟨x, hx, rfl⟩ := Option.map_eq_some_iff.1 hr
    cases h with
    | c _ _ h =>
      obtain ⟨g1, g2⟩ := resC_spec hR n y x v h hx
      exact .c _ _ _ (.r _ _ _ g2 g1)
  | agg cs =>
    obtain ⟨xs, hx, rfl⟩ := Option.map_eq_some_iff.1 hr
    obtain ⟨l1, f1⟩ := resRow_spec _ _ hx
    cases h with
    | agg vs _ hs hc =>
      refine .agg vs xs _ (fun _ _ => False) (by omega) (fun i d hd => ?_) (fun _ _ h => h) (fun _ _ _ h _ => h.elim)
      have hq : i < cs.length := by have := (List.getElem?_eq_some_iff.1 hd).1; omega
      obtain ⟨g1, g2⟩ := resC_spec hR n cs[i] d _ (hc i _ (List.getElem?_eq_getElem hq)) (f1 i _ d (List.getElem?_eq_getElem hq) hd)
      exact .r _ _ _ g2 g1
  | _ => simp [resA] at hr
end

section
open Go
set_option linter.unusedSimpArgs false
set_option linter.unusedVariables false

variable {P : Program} {w0 : World} {own : Nat → Prop} {γ : Gh} {st : St} {a : Act} {w : World}

/-- Blocks that nobody leans on yet, and that are ours. -/
def Free (w0 : World) (own : Nat → Prop) (γ : Gh) (st : St) (w : World) (S : Nat → Prop) : Prop :=
  ∀ b, S b → ¬ γ.G b ∧ (∀ k R, st.store k = some R → γ.β k R.tag ≠ some b) ∧ (own b ∨ w0.heap.size ≤ b) ∧ b < w.heap.size

/-- Blocks that never turn from now on. -/
def Gh.still (γ : Gh) (N : Nat → Prop) : Gh := { γ with F := fun b => γ.F b ∨ N b }

theorem Rel.still (h : Rel w0 own γ st a w) {N : Nat → Prop} (hN : Free w0 own γ st w N) : Rel w0 own (γ.still N) st a w ∧ γ.le (γ.still N) := by
  have hG : ∀ b, (γ.still N).G b → γ.G b ∨ N b := by
    rintro b ((h | h) | h)
    · exact .inl (.inl h)
    · exact .inr h
    · exact .inl (.inr h)
  have hle : γ.le (γ.still N) := { gen := fun _ => Nat.le_refl _, β := fun _ _ _ => rfl, F := fun b hb => .inl hb, G := fun b hb => hb.elim (fun h => .inl (.inl h)) .inr, F0 := rfl }
  refine ⟨{ env := h.env, size := h.size, defers := h.defers, tmps := fun i => (h.tmps i).mono hle (.refl _ _) (.refl _), gen := h.gen, tag := h.tag, mem := fun k R hk => ?_, inj := h.inj, rootF := fun k R b hk hβ => ?_, fpF := fun k i j b hf => ?_, fpD := h.fpD, fs := fun b hF => hF.elim (h.fs b) fun hn => .inr (hN b hn).2.2.1, lt := fun b hb => ?_, ltβ := h.ltβ }, hle⟩
  · exact (h.mem k R hk).mono hle (.refl _ _) (.refl _) (by rw [h.gen]; exact h.tag k R hk) (fun _ _ => rfl) (fun _ _ _ _ _ _ _ => Iff.rfl)
  · obtain ⟨p1, p2, p3⟩ := h.rootF k R b hk hβ
    exact ⟨fun hF => hF.elim p1 fun hn => (hN b hn).2.1 k R hk hβ, p2, p3⟩
  · obtain ⟨p1, p2⟩ := h.fpF k i j b hf
    exact ⟨fun hF => hF.elim p1 fun hn => (hN b hn).1 (.inr ⟨k, i, j, hf⟩), p2⟩
  · rcases hG b hb with hb | hb
    · exact h.lt b hb
    · exact (hN b hb).2.2.2

def Gh.adopt (γ : Gh) (k : Nat) (b : Option Nat) (sub : Nat → Nat → Nat → Prop) : Gh :=
  { γ.fresh k b with FP := fun k' i j c => if k' = k then sub i j c else γ.FP k' i j c }

theorem OD.not_own {G : Nat → Prop} {v : Value} {d : D} {S : Nat → Prop} (h : OD w G v d S) (hne : ∀ z rows spare, d ≠ .s 1 z rows spare) : DR w G v d := by
  cases h with
  | r _ _ _ _ h => exact h
  | n => exact (hne _ _ _ rfl).elim
  | s => exact (hne _ _ _ rfl).elim

def AdoptMem (γ' : Gh) (w : World) (b : Option Nat) (z : Nat) (rows : List (List C)) (sub : Nat → Nat → Nat → Prop) : Prop :=
  match b with
  | none => rows = []
  | some c => ∃ arr E, w.heap[c]? = some (.cells arr E (0, 0)) ∧ (∀ r ∈ rows, r.length = z) ∧ rows.length * z ≤ arr.size ∧
      ∀ (i j : Nat) (r : List C) (y : C), rows[i]? = some r → r[j]? = some y → SR γ' w (arr.getD (i * z + j) undef) y (sub i j)

/-- A slice that was handed to us is a root. -/
theorem Rel.adopt (h : Rel w0 own γ st a w) (k : Nat) {v : Value} {z : Nat} {rows sp : List (List D)} {S : Nat → Prop} (hv : OD w γ.F v (.s 1 z rows sp) S) (hS : Free w0 own γ st w S) :
    ∃ γ', γ.le γ' ∧ Rel w0 own γ' (st.root k false z (emb (rows ++ sp))) a w ∧ CR γ' w v (.rs k (st.gen k + 1) z 0 rows.length (rows.length + sp.length)) ∧ (∀ b, γ.F b → γ'.F b) ∧
      (∀ S2, Free w0 own γ st w S2 → (∀ b, S b → ¬ S2 b) → Free w0 own γ' (st.root k false z (emb (rows ++ sp))) w S2) := by
  have hgk : γ.gen k = st.gen k := congrFun h.gen k
  have key : ∀ (b : Option Nat) (sub : Nat → Nat → Nat → Prop), (∀ c, b = some c → S c ∧ ∀ i j, ¬ sub i j c) → (∀ i j c, sub i j c → S c) → (∀ i j i' j' c, sub i j c → sub i' j' c → i = i' ∧ j = j') →
      (∀ γ' : Gh, γ' = γ.adopt k b sub → γ.le γ' → AdoptMem γ' w b z (emb (rows ++ sp)) sub) →
      γ.le (γ.adopt k b sub) ∧ Rel w0 own (γ.adopt k b sub) (st.root k false z (emb (rows ++ sp))) a w ∧ (∀ b', γ.F b' → (γ.adopt k b sub).F b') ∧
        (∀ S2, Free w0 own γ st w S2 → (∀ b, S b → ¬ S2 b) → Free w0 own (γ.adopt k b sub) (st.root k false z (emb (rows ++ sp))) w S2) := by
    intro b sub hb hsub hdis hmem
    have hGto : ∀ c, (γ.adopt k b sub).G c → γ.G c ∨ S c := by
      rintro c ((hF | ⟨i, j, hf⟩) | ⟨k', i, j, hf⟩)
      · exact .inl (.inl hF)
      · exact .inl (.inr ⟨_, _, _, hf⟩)
      · simp only [Gh.adopt] at hf
        split at hf
        · exact .inr (hsub _ _ _ hf)
        · exact .inl (.inr ⟨_, _, _, hf⟩)
    have hGfrom : ∀ c, γ.G c → (γ.adopt k b sub).G c := by
      rintro c (hF | ⟨k', i, j, hf⟩)
      · exact .inl (.inl hF)
      · by_cases e : k' = k
        · subst e; exact .inl (.inr ⟨i, j, hf⟩)
        · exact .inr ⟨k', i, j, by simp only [Gh.adopt, e, if_false]; exact hf⟩
    have hle0 := γ.fresh_le k b
    have hle : γ.le (γ.adopt k b sub) := { gen := hle0.gen, β := hle0.β, F := hle0.F, G := hGfrom, F0 := rfl }
    have hold : ∀ k' R, k' ≠ k → (γ.adopt k b sub).β k' R = γ.β k' R := fun k' R hk => by simp [Gh.adopt, Gh.fresh, hk]
    have hnew : (γ.adopt k b sub).β k (γ.gen k + 1) = b := γ.fresh_new k b
    have hst : ∀ k' R, (st.root k false z (emb (rows ++ sp))).store k' = some R → (k' = k ∧ R = ⟨st.gen k + 1, false, z, emb (rows ++ sp)⟩) ∨ (k' ≠ k ∧ st.store k' = some R) := by
      intro k' R h1
      simp only [St.root] at h1
      split at h1
      · cases h1; exact .inl ⟨‹_›, rfl⟩
      · exact .inr ⟨‹_›, h1⟩
    have hroot : ∀ k' R c, (st.root k false z (emb (rows ++ sp))).store k' = some R → (γ.adopt k b sub).β k' R.tag = some c → (k' = k ∧ b = some c) ∨ (k' ≠ k ∧ st.store k' = some R ∧ γ.β k' R.tag = some c) := by
      intro k' R c h1 h2
      rcases hst k' R h1 with ⟨rfl, rfl⟩ | ⟨n1, h3⟩
      · left; refine ⟨rfl, ?_⟩
        have : (γ.adopt k' b sub).β k' (st.gen k' + 1) = some c := h2
        rw [← hgk, hnew] at this
        exact this
      · right; rw [hold k' _ n1] at h2; exact ⟨n1, h3, h2⟩
    refine ⟨hle, { env := h.env, size := h.size, defers := h.defers, tmps := fun i => (h.tmps i).mono hle (.refl _ _) (.refl _), gen := ?_, tag := ?_, mem := ?_, inj := ?_, rootF := ?_, fpF := ?_, fpD := ?_, fs := fun b hF => hF.elim (h.fs b) fun ⟨i, j, hf⟩ => .inr (h.fpF _ _ _ _ hf).2, lt := ?_, ltβ := ?_ }, hle0.F, ?_⟩
    · funext k'; simp only [Gh.adopt, Gh.fresh, St.root]; split
      · rw [hgk]
      · exact congrFun h.gen k'
    · intro k' R h1
      rcases hst k' R h1 with ⟨rfl, rfl⟩ | ⟨n1, h3⟩
      · simp [St.root]
      · simp [St.root, n1]; exact h.tag k' R h3
    · intro k' R h1
      rcases hst k' R h1 with ⟨rfl, rfl⟩ | ⟨n1, h3⟩
      · unfold RootOK
        simp only [← hgk, hnew]
        have := hmem _ rfl hle
        cases b with
        | none => exact this
        | some c =>
          obtain ⟨arr, E, q1, q2, q3, q4⟩ := this
          refine ⟨arr, E, q1, q2, q3, fun i j r y hr hy => ?_⟩
          have e : (γ.adopt k' (some c) sub).FP k' i j = sub i j := by funext x; simp [Gh.adopt]
          rw [e]; exact q4 i j r y hr hy
      · refine (h.mem k' R h3).mono hle (.refl _ _) (.refl _) (by rw [h.gen]; exact h.tag k' R h3) (fun _ _ => rfl) (fun i j r c _ _ x => ?_)
        simp [Gh.adopt, n1]
    · intro k1 R1 k2 R2 c h1 h2 h3 h4
      rcases hroot k1 R1 c h1 h3 with ⟨rfl, e1⟩ | ⟨n1, g1, e1⟩ <;> rcases hroot k2 R2 c h2 h4 with ⟨rfl, e2⟩ | ⟨n2, g2, e2⟩
      · rfl
      · exact ((hS c (hb c e1).1).2.1 k2 R2 g2 e2).elim
      · exact ((hS c (hb c e2).1).2.1 k1 R1 g1 e1).elim
      · exact h.inj k1 R1 k2 R2 c g1 g2 e1 e2
    · intro k1 R1 c h1 h3
      rcases hroot k1 R1 c h1 h3 with ⟨rfl, e1⟩ | ⟨n1, g1, e1⟩
      · obtain ⟨s1, s2⟩ := hb c e1
        obtain ⟨f1, f2, f3, f4⟩ := hS c s1
        refine ⟨fun hF => ?_, fun k' i j hf => ?_, f3⟩
        · rcases hF with hF | ⟨i, j, hF⟩
          · exact f1 (.inl hF)
          · exact f1 (.inr ⟨_, _, _, hF⟩)
        · simp only [Gh.adopt] at hf
          split at hf
          · exact s2 i j hf
          · exact f1 (.inr ⟨_, _, _, hf⟩)
      · obtain ⟨p1, p2, p3⟩ := h.rootF k1 R1 c g1 e1
        refine ⟨fun hF => ?_, fun k' i j hf => ?_, p3⟩
        · rcases hF with hF | ⟨i, j, hF⟩
          · exact p1 hF
          · exact p2 _ _ _ hF
        · simp only [Gh.adopt] at hf
          split at hf
          · exact (hS c (hsub _ _ _ hf)).2.1 k1 R1 g1 e1
          · exact p2 _ _ _ hf
    · intro k1 i j c hf
      simp only [Gh.adopt] at hf
      split at hf
      · obtain ⟨f1, f2, f3, f4⟩ := hS c (hsub _ _ _ hf)
        refine ⟨fun hF => ?_, f3⟩
        rcases hF with hF | ⟨i, j, hF⟩
        · exact f1 (.inl hF)
        · exact f1 (.inr ⟨_, _, _, hF⟩)
      · rename_i n1
        obtain ⟨p1, p2⟩ := h.fpF k1 i j c hf
        refine ⟨fun hF => ?_, p2⟩
        rcases hF with hF | ⟨i', j', hF⟩
        · exact p1 hF
        · exact n1 (h.fpD _ _ _ _ _ _ _ hf hF).1
    · intro k1 i j k2 i2 j2 c h1 h2
      simp only [Gh.adopt] at h1 h2
      split at h1 <;> split at h2
      · rename_i e1 e2; subst e1 e2; exact ⟨rfl, hdis _ _ _ _ _ h1 h2⟩
      · exact ((hS c (hsub _ _ _ h1)).1 (.inr ⟨_, _, _, h2⟩)).elim
      · exact ((hS c (hsub _ _ _ h2)).1 (.inr ⟨_, _, _, h1⟩)).elim
      · exact h.fpD _ _ _ _ _ _ _ h1 h2
    · intro c hc
      rcases hGto c hc with hc | hc
      · exact h.lt c hc
      · exact (hS c hc).2.2.2
    · intro k1 g c hg hβ
      by_cases e : k1 = k ∧ g = γ.gen k + 1
      · obtain ⟨rfl, rfl⟩ := e
        rw [hnew] at hβ
        exact (hS c (hb c hβ).1).2.2.2
      · have hβ' : γ.β k1 g = some c := by
          have : (γ.adopt k b sub).β k1 g = γ.β k1 g := by simp only [Gh.adopt, Gh.fresh]; rw [if_neg e]
          rw [this] at hβ; exact hβ
        refine h.ltβ k1 g c ?_ hβ'
        have hg' : g ≤ if k1 = k then γ.gen k + 1 else γ.gen k1 := hg
        split at hg'
        · rename_i e1; subst e1; simp at e; omega
        · exact hg'
    · intro S2 hS2 hd c hc
      obtain ⟨f1, f2, f3, f4⟩ := hS2 c hc
      refine ⟨fun hG => ?_, fun k' R h1 h2 => ?_, f3, f4⟩
      · rcases hGto c hG with hG | hs
        · exact f1 hG
        · exact hd c hs hc
      · rcases hroot k' R c h1 h2 with ⟨rfl, e1⟩ | ⟨n1, g1, e1⟩
        · exact hd c (hb c e1).1 hc
        · exact f2 k' R g1 e1
  cases hv with
  | r _ _ _ hne _ => exact (hne _ _ _ rfl).elim
  | n av _ _ =>
    obtain ⟨q1, q2, q3, q4⟩ := key none (fun _ _ _ => False) (by simp) (by simp) (by simp) (fun _ _ _ => rfl)
    exact ⟨_, q1, q2, .rn av k (st.gen k + 1) z (by rw [← hgk]; exact Nat.le_of_eq (γ.fresh_gen k none).symm) (by rw [← hgk]; exact γ.fresh_new k none), q3, q4⟩
  | s _ _ b cap _ arr E _ sub hb ha hr hl hc hn hsub hdis =>
    obtain ⟨q1, q2, q3, q4⟩ := key (some b) sub (fun c e => by cases e; exact ⟨hb, fun i j hx => (hsub i j b hx).2 rfl⟩) (fun i j c hx => (hsub i j c hx).1) hdis (fun γ' e hle => by
      refine ⟨arr, E, ha, ?_, ?_, ?_⟩
      · intro r hr'
        obtain ⟨r0, h0, rfl⟩ := List.mem_map.1 hr'
        simpa using hr r0 h0
      · have : (emb (rows ++ sp)).length = rows.length + sp.length := by simp [emb]
        rw [this]
        exact Nat.le_trans (Nat.mul_le_mul_right _ hl) hc
      · intro i j r y hr' hy
        simp only [emb, List.getElem?_map] at hr'
        obtain ⟨r0, h0, rfl⟩ := Option.map_eq_some_iff.1 hr'
        rw [List.getElem?_map] at hy
        obtain ⟨d, hd, rfl⟩ := Option.map_eq_some_iff.1 hy
        have hod := hn i j r0 d h0 hd
        unfold SR
        split
        · rename_i heq; cases heq; exact hod.mono hle.F (.refl _ _) (.refl _ _)
        · rename_i hne
          have hdr := hod.not_own fun z rows spare e => hne z rows spare (by rw [e])
          exact .d _ _ (hdr.mono (fun c hc => by
              cases d.top0
              · exact .inl (hle.F c hc)
              · exact hle.F c hc) (.refl _ _)))
    refine ⟨_, q1, q2, ?_, q3, q4⟩
    have := CR.rs (γ := γ.adopt k (some b) sub) (w := w) k (st.gen k + 1) z 0 rows.length (rows.length + sp.length) cap b E arr.size (by rw [← hgk]; exact Nat.le_of_eq (γ.fresh_gen k (some b)).symm) (by rw [← hgk]; exact γ.fresh_new k (some b))
      (by simp [World.shape?, ha]) (by simpa using hc) (by omega) hl
    simpa using this
end

section
open Go
set_option linter.unusedSimpArgs false
set_option linter.unusedVariables false

variable {P : Program} {w0 : World} {own : Nat → Prop} {γ : Gh} {st : St} {a : Act} {w : World}

def matD (st : St) (k : Nat) (d : D) : St × C :=
  match d with
  | .s 1 z rows sp => (st.root k false z (emb (rows ++ sp)), .rs k (st.gen k + 1) z 0 rows.length (rows.length + sp.length))
  | d => (st, .d d)
def matL (st : St) (k : Nat) : List D → St × List C
  | [] => (st, [])
  | d :: l => ((matL (matD st k d).1 (k + 1) l).1, (matD st k d).2 :: (matL (matD st k d).1 (k + 1) l).2)
def matV1 (st : St) (k : Nat) : DV → St × A
  | .c d => ((matD st k d).1, .c (matD st k d).2)
  | .agg xs => ((matL st k xs).1, .agg (matL st k xs).2)
  | .tup _ => (st, .dead)
def matT (st : St) (k : Nat) : List DV → St × List A
  | [] => (st, [])
  | d :: l => ((matT (matV1 st k d).1 (k + 32) l).1, (matV1 st k d).2 :: (matT (matV1 st k d).1 (k + 32) l).2)
def matV (st : St) (k : Nat) : DV → St × A
  | .tup xs => ((matT st k xs).1, .tup (matT st k xs).2)
  | d => matV1 st k d

/-- What one step of taking over must bring. -/
def Took (P : Prop) (w0 : World) (own : Nat → Prop) (γ : Gh) (st st' : St) (a : Act) (w : World) (S : Nat → Prop) (K : Gh → Prop) : Prop :=
  ∃ γ', γ.le γ' ∧ Rel w0 own γ' st' a w ∧ K γ' ∧ (∀ S2, Free w0 own γ st w S2 → (∀ b, S b → ¬ S2 b) → Free w0 own γ' st' w S2)

theorem matD_spec (h : Rel w0 own γ st a w) (k : Nat) {v : Value} {d : D} {S : Nat → Prop} (hv : OD w γ.F v d S) (hS : Free w0 own γ st w S) :
    Took True w0 own γ st (matD st k d).1 a w S fun γ' => CR γ' w v (matD st k d).2 := by
  unfold matD
  split
  · rename_i z rows sp
    obtain ⟨γ', q1, q2, q3, q4, q5⟩ := h.adopt k hv hS
    exact ⟨γ', q1, q2, q3, q5⟩
  · rename_i hne
    have hdr := hv.not_own fun z rows spare e => hne z rows spare e
    refine ⟨γ, γ.le_refl, h, .d _ _ (hdr.mono (fun c hc => ?_) (.refl _ _)), fun S2 h2 _ => h2⟩
    cases d.top0
    · exact .inl hc
    · exact hc

theorem matL_spec : ∀ (ds : List D) (γ : Gh) (st : St) (k : Nat) (vs : Nat → Value) (sub : Nat → Nat → Prop), Rel w0 own γ st a w → (∀ i d, ds[i]? = some d → OD w γ.F (vs i) d (sub i)) → (∀ i, Free w0 own γ st w (sub i)) → (∀ i i' b, sub i b → sub i' b → i = i') →
    Took True w0 own γ st (matL st k ds).1 a w (fun b => ∃ i, sub i b) fun γ' => (matL st k ds).2.length = ds.length ∧ ∀ i c, (matL st k ds).2[i]? = some c → CR γ' w (vs i) c
  | [], γ, st, k, vs, sub, h, _, _, _ => ⟨γ, γ.le_refl, h, ⟨rfl, by simp [matL]⟩, fun S2 h2 _ => h2⟩
  | d :: ds, γ, st, k, vs, sub, h, hv, hS, hdis => by
    obtain ⟨γ1, q1, q2, q3, q4⟩ := matD_spec h k (hv 0 d rfl) (hS 0)
    obtain ⟨γ2, r1, r2, ⟨r3, r4⟩, r5⟩ := matL_spec ds γ1 (matD st k d).1 (k + 1) (fun i => vs (i + 1)) (fun i => sub (i + 1)) q2 (fun i d' hd => (hv (i + 1) d' (by simpa using hd)).mono q1.F (.refl _ _) (.refl _ _))
      (fun i => q4 _ (hS (i + 1)) fun b hb hb' => by have := hdis _ _ b hb hb'; omega) (fun i i' b h1 h2 => by have := hdis _ _ b h1 h2; omega)
    refine ⟨γ2, Gh.le_trans q1 r1, r2, ⟨by simp [matL, r3], fun i c hc => ?_⟩, fun S2 h2 hd => r5 S2 (q4 S2 h2 fun b hb => hd b ⟨0, hb⟩) fun b ⟨i, hb⟩ => hd b ⟨i + 1, hb⟩⟩
    cases i with
    | zero => simp [matL] at hc; subst hc; exact q3.mono r1 (.refl _ _) (.refl _)
    | succ i => exact r4 i c (by simpa [matL] using hc)


theorem matV1_spec (h : Rel w0 own γ st a w) (k : Nat) {v : Value} {d : DV} {S : Nat → Prop} (hv : OV w γ.F v d S) (hS : Free w0 own γ st w S) :
    Took True w0 own γ st (matV1 st k d).1 a w S fun γ' => AR γ' w v (matV1 st k d).2 := by
  cases hv with
  | c _ x _ hx =>
    obtain ⟨γ1, q1, q2, q3, q4⟩ := matD_spec h k hx hS
    exact ⟨γ1, q1, q2, .c _ _ q3, q4⟩
  | agg vs xs _ sub hs hx hsub hdis =>
    obtain ⟨γ1, q1, q2, ⟨q3, q4⟩, q5⟩ := matL_spec xs γ st k (fun i => vs.getD i undef) sub h hx (fun i b hb => hS b (hsub i b hb)) hdis
    exact ⟨γ1, q1, q2, .agg _ _ (by rw [q3]; exact hs) q4, fun S2 h2 hd => q5 S2 h2 fun b ⟨i, hb⟩ => hd b (hsub i b hb)⟩
  | tup vs xs _ sub hs hx hsub hdis => exact ⟨γ, γ.le_refl, h, .dead _, fun S2 h2 _ => h2⟩

theorem OV.mono {w w' : World} {G G' : Nat → Prop} (hg : ∀ b, G b → G' b) (hs : Same G w w') {v : Value} {d : DV} {S : Nat → Prop} (h : OV w G v d S) : Same S w w' → OV w' G' v d S := by
  induction h with
  | c v x S h => exact fun hS => .c v x S (h.mono hg hs hS)
  | agg vs xs S sub h1 h2 h3 h4 => exact fun hS => .agg vs xs S sub h1 (fun i d hd => (h2 i d hd).mono hg hs (hS.mono (h3 i))) h3 h4
  | tup vs xs S sub h1 _ h3 h4 ih => exact fun hS => .tup vs xs S sub h1 (fun i d hd => ih i d hd (hS.mono (h3 i))) h3 h4

theorem matT_spec : ∀ (ds : List DV) (γ : Gh) (st : St) (k : Nat) (vs : Nat → Value) (sub : Nat → Nat → Prop), Rel w0 own γ st a w → (∀ i d, ds[i]? = some d → OV w γ.F (vs i) d (sub i)) → (∀ i, Free w0 own γ st w (sub i)) → (∀ i i' b, sub i b → sub i' b → i = i') →
    Took True w0 own γ st (matT st k ds).1 a w (fun b => ∃ i, sub i b) fun γ' => (matT st k ds).2.length = ds.length ∧ ∀ i c, (matT st k ds).2[i]? = some c → AR γ' w (vs i) c
  | [], γ, st, k, vs, sub, h, _, _, _ => ⟨γ, γ.le_refl, h, ⟨rfl, by simp [matT]⟩, fun S2 h2 _ => h2⟩
  | d :: ds, γ, st, k, vs, sub, h, hv, hS, hdis => by
    obtain ⟨γ1, q1, q2, q3, q4⟩ := matV1_spec h k (hv 0 d rfl) (hS 0)
    obtain ⟨γ2, r1, r2, ⟨r3, r4⟩, r5⟩ := matT_spec ds γ1 (matV1 st k d).1 (k + 32) (fun i => vs (i + 1)) (fun i => sub (i + 1)) q2 (fun i d' hd => (hv (i + 1) d' (by simpa using hd)).mono q1.F (.refl _ _) (.refl _ _))
      (fun i => q4 _ (hS (i + 1)) fun b hb hb' => by have := hdis _ _ b hb hb'; omega) (fun i i' b h1 h2 => by have := hdis _ _ b h1 h2; omega)
    refine ⟨γ2, Gh.le_trans q1 r1, r2, ⟨by simp [matT, r3], fun i c hc => ?_⟩, fun S2 h2 hd => r5 S2 (q4 S2 h2 fun b hb => hd b ⟨0, hb⟩) fun b ⟨i, hb⟩ => hd b ⟨i + 1, hb⟩⟩
    cases i with
    | zero => simp [matT] at hc; subst hc; exact q3.mono r1 (.refl _ _) (.refl _)
    | succ i => exact r4 i c (by simpa [matT] using hc)

theorem matV_spec (h : Rel w0 own γ st a w) (k : Nat) {v : Value} {d : DV} {S : Nat → Prop} (hv : OV w γ.F v d S) (hS : Free w0 own γ st w S) :
    Took True w0 own γ st (matV st k d).1 a w S fun γ' => AR γ' w v (matV st k d).2 := by
  cases d with
  | tup xs =>
    cases hv with
    | tup vs _ _ sub hs hx hsub hdis =>
      obtain ⟨γ1, q1, q2, ⟨q3, q4⟩, q5⟩ := matT_spec xs γ st k (fun i => vs.getD i undef) sub h hx (fun i b hb => hS b (hsub i b hb)) hdis
      exact ⟨γ1, q1, q2, .tup _ _ (by rw [q3]; exact hs) q4, fun S2 h2 hd => q5 S2 h2 fun b ⟨i, hb⟩ => hd b (hsub i b hb)⟩
  | c x => exact matV1_spec h k hv hS
  | agg xs => exact matV1_spec h k hv hS

/-! ### what of it is own to the last -/
mutual
def D.pureOwn : D → Bool
  | .v _ => true
  | .s t _ rows spare => t == 1 && ownLL rows && ownLL spare
  | _ => false
def ownL : List D → Bool
  | [] => true
  | d :: l => d.pureOwn && ownL l
def ownLL : List (List D) → Bool
  | [] => true
  | r :: l => ownL r && ownLL l
end
theorem ownL_mem : ∀ {l : List D} {d : D}, ownL l = true → d ∈ l → d.pureOwn = true
  | e :: l, d, h, hm => by
    simp only [ownL, Bool.and_eq_true] at h
    cases hm with
    | head => exact h.1
    | tail _ hm => exact ownL_mem h.2 hm
theorem ownLL_mem : ∀ {l : List (List D)} {r : List D}, ownLL l = true → r ∈ l → ownL r = true
  | e :: l, d, h, hm => by
    simp only [ownLL, Bool.and_eq_true] at h
    cases hm with
    | head => exact h.1
    | tail _ hm => exact ownLL_mem h.2 hm
theorem OD.pure {G G' : Nat → Prop} {v : Value} {d : D} {S : Nat → Prop} (h : OD w G v d S) : d.pureOwn = true → OD w G' v d S := by
  induction h with
  | r v d S hne hd =>
    intro hp
    cases d with
    | v x => cases hd with
      | v _ hx => exact .r _ _ _ (by simp) (.v _ hx)
    | s t z rows sp => simp only [D.pureOwn, Bool.and_eq_true, beq_iff_eq] at hp; obtain ⟨⟨rfl, _⟩, _⟩ := hp; exact (hne _ _ _ rfl).elim
    | _ => simp [D.pureOwn] at hp
  | n a z S => exact fun _ => .n a z S
  | s rows spare b cap sz arr E S sub hb ha hr hl hc _ hsub hdis ih =>
    intro hp
    simp only [D.pureOwn, Bool.and_eq_true, beq_iff_eq] at hp
    refine .s rows spare b cap sz arr E S sub hb ha hr hl hc (fun i j r d h1 h2 => ih i j r d h1 h2 ?_) hsub hdis
    have hm := List.mem_of_getElem? h1
    rcases List.mem_append.1 hm with hm | hm
    · exact ownL_mem (ownLL_mem hp.1.2 hm) (List.mem_of_getElem? h2)
    · exact ownL_mem (ownLL_mem hp.2 hm) (List.mem_of_getElem? h2)

def DV.pure1 : DV → Bool
  | .c x => x.pureOwn
  | .agg xs => ownL xs
  | .tup _ => false
def DV.pureOwn : DV → Bool
  | .c d => d.pureOwn
  | .agg xs => ownL xs
  | .tup xs => go xs
where go : List DV → Bool
  | [] => true
  | .c d :: l => d.pureOwn && go l
  | .agg xs :: l => ownL xs && go l
  | .tup _ :: _ => false
theorem OV.pure1 {G G' : Nat → Prop} {v : Value} {d : DV} {S : Nat → Prop} (h : OV w G v d S) (hp : d.pure1 = true) : OV w G' v d S := by
  cases h with
  | c _ x _ hx => exact .c _ _ _ (hx.pure hp)
  | agg vs xs _ sub h1 h2 h3 h4 => exact .agg vs xs _ sub h1 (fun i d hd => (h2 i d hd).pure (ownL_mem hp (List.mem_of_getElem? hd))) h3 h4
  | tup => cases hp
theorem go_mem : ∀ {l : List DV} {d : DV}, DV.pureOwn.go l = true → d ∈ l → d.pure1 = true
  | e :: l, d, h, hm => by
    cases e <;> simp only [DV.pureOwn.go, Bool.and_eq_true] at h
    · cases hm with
      | head => exact h.1
      | tail _ hm => exact go_mem h.2 hm
    · cases hm with
      | head => exact h.1
      | tail _ hm => exact go_mem h.2 hm
    · cases h
theorem OV.pure {G G' : Nat → Prop} {v : Value} {d : DV} {S : Nat → Prop} (h : OV w G v d S) (hp : d.pureOwn = true) : OV w G' v d S := by
  cases h with
  | c _ x _ hx => exact .c _ _ _ (hx.pure hp)
  | agg vs xs _ sub h1 h2 h3 h4 => exact .agg vs xs _ sub h1 (fun i d hd => (h2 i d hd).pure (ownL_mem hp (List.mem_of_getElem? hd))) h3 h4
  | tup vs xs _ sub h1 h2 h3 h4 => exact .tup vs xs _ sub h1 (fun i d hd => (h2 i d hd).pure1 (go_mem hp (List.mem_of_getElem? hd))) h3 h4

/-! ### calls -/
def Goes (P : Program) (f : FuncId) : Prop := ∀ (args : Array Value) (w : World), (callFunc f args).run P w = .ok (.enter f args) w

theorem goes_of {f : FuncId} {fn : Func} (h : P.funcs[f]? = some fn) (hn : (fn.name == "runtime.NumGoroutine") = false) (hb : fn.body.isNone = false) : Goes P f := fun args w => by
  have hb' : fn.body ≠ none := fun e => by rw [e] at hb; cases hb
  have hn' : ¬ fn.name = "runtime.NumGoroutine" := fun e => by rw [e] at hn; simp at hn
  unfold callFunc
  simp [program, Sem.run, h, hn', hb']

/-- An argument of data that never turns. -/
def roA : A → Option DV
  | .c (.d x) => if x.top0 then some (.c x.ro) else none
  | .agg cs => (resRow (fun y => match y with | .d x => if x.top0 then some x.ro else none | _ => none) cs).map .agg
  | _ => none

theorem roA_spec {y : A} {d : DV} {v : Value} (h : AR γ w v y) (hr : roA y = some d) : OV w γ.F v d fun _ => False := by
  cases y with
  | c y =>
    cases y with
    | d x =>
      simp only [roA] at hr
      split at hr
      · rename_i ht
        cases hr
        have := h.d_inv
        rw [ht] at this
        exact .c _ _ _ (.r _ _ _ (fun z rows sp => x.ro_not_own z rows sp) (DR.ro this))
      · cases hr
    | _ => simp [roA] at hr
  | agg cs =>
    simp only [roA] at hr
    obtain ⟨xs, hx, rfl⟩ := Option.map_eq_some_iff.1 hr
    obtain ⟨l1, f1⟩ := resRow_spec _ _ hx
    cases h with
    | agg vs _ hs hc =>
      refine .agg vs xs _ (fun _ _ => False) (by omega) (fun i d hd => ?_) (fun _ _ h => h) (fun _ _ _ h _ => h.elim)
      have hq : i < cs.length := by have := (List.getElem?_eq_some_iff.1 hd).1; omega
      have hf := f1 i _ d (List.getElem?_eq_getElem hq) hd
      have hcr := hc i _ (List.getElem?_eq_getElem hq)
      generalize cs[i] = y at hf hcr
      cases y with
      | d x =>
        simp only at hf
        split at hf
        · rename_i ht
          cases hf
          have := (AR.c (γ := γ) _ _ hcr).d_inv
          rw [ht] at this
          exact .r _ _ _ (fun z rows sp => x.ro_not_own z rows sp) (DR.ro this)
        · cases hf
      | _ => simp at hf
  | _ => simp [roA] at hr

/-- The arguments: of data that never turns (m true), or read as they stand. -/
def argsA (m : Bool) (n : Nat) (st : St) : List Operand → Option (List DV)
  | [] => some []
  | x :: l => match (if m then roA (evA st x) else resA st.store n (evA st x)), argsA m n st l with | some d, some r => some (d :: r) | _, _ => none

theorem argsA_spec (hR : Rel w0 own γ st a w) (m : Bool) (n : Nat) : ∀ (l : List Operand) (ds : List DV), argsA m n st l = some ds → l.length = ds.length ∧ ∀ (i : Nat) d, ds[i]? = some d → OV w (fun b => if m then γ.F b else b < w.heap.size) ((l.map a.eval).toArray.getD i undef) d fun _ => False
  | [], ds, h => by simp [argsA] at h; subst h; exact ⟨rfl, by simp⟩
  | x :: l, ds, h => by
    simp only [argsA] at h
    split at h
    · rename_i d r h1 h2
      cases h
      obtain ⟨i1, i2⟩ := argsA_spec hR m n l r h2
      refine ⟨by simp [i1], fun i d' hd => ?_⟩
      cases i with
      | zero =>
        simp at hd; subst hd
        have : OV w (fun b => if m then γ.F b else b < w.heap.size) (a.eval x) d fun _ => False := by
          cases m with
          | true => exact roA_spec (hR.ev x) h1
          | false => exact resA_spec hR (hR.ev x) h1
        simpa [Array.getD] using this
      | succ i =>
        have := i2 i d' (by simpa using hd)
        simpa [Array.getD_eq_getD_getElem?] using this
    · cases h

theorem op_call {o : Oper} {f : FuncId} {xs : List Operand} {tys : Array TypeId} {ds : List DV} {res : DV} (m : Bool) (n k : Nat) (hd : (matV st k res).1.fits o.dst = true) (ho : o.op = .call { callee := .value (.func f), args := xs.toArray, argTypes := tys }) (hg : Goes P f)
    (ha : argsA m n st xs = some ds) (hct : CT P f ds res) (hm : m = true ∨ res.pureOwn = true) : OpOK P w0 own o st ((matV st k res).1.put o.dst (matV st k res).2) := by
  intro γ a w next Q hR hn
  obtain ⟨l1, hargs⟩ := argsA_spec hR m n xs ds ha
  have hex : (execOp a.eval o).run P w = .ok (.enter f (xs.map a.eval).toArray) w := by
    unfold execOp
    rw [ho]
    simp only [resolve, Act.eval, Deferred.ofValue, Sem.run_bind]
    simp [Sem.run, invoke, hg _ w]
  have hov : OV w (fun b => if m then γ.F b else b < w.heap.size) (.tuple (xs.map a.eval).toArray) (.tup ds) fun _ => False :=
    .tup _ _ _ (fun _ _ => False) (by simp [l1]) (fun i d hd => hargs i d hd) (fun _ _ h => h) (fun _ _ _ h _ => h.elim)
  have hcall := hct w _ (fun _ => False) (fun b => if m then γ.F b else b < w.heap.size) hov (fun b hb => ⟨by
    cases m with
    | true => exact hR.lt b (.inl hb)
    | false => exact hb, fun h => h⟩) (fun _ h => h.elim)
  simp only [Oper.wp, hex, Oper.upon_enter]
  refine hcall.mono fun e w' ⟨v, S', he, hv, hS', henv⟩ => ?_
  subst he
  simp only
  have hR1 := hR.world (w' := w') (fun b hb => henv.block b hb fun h => h) henv.size henv.os henv.tape henv.output
  have hfreshN : ∀ b, w.heap.size ≤ b → b < w'.heap.size → Free w0 own γ st w' (fun c => c = b) := by
    rintro b hb hb' c rfl
    refine ⟨fun hG => ?_, fun k' R hk hβ => ?_, .inr (Nat.le_trans hR.env.size hb), hb'⟩
    · have := hR.lt c hG; omega
    · have := hR.ltβ k' R.tag c (by rw [hR.gen]; exact hR.tag k' R hk) hβ; omega
  have hfree : ∀ S : Nat → Prop, (∀ b, S b → w.heap.size ≤ b ∧ b < w'.heap.size) → Free w0 own γ st w' S := fun S h b hb => hfreshN b (h b hb).1 (h b hb).2 b rfl
  have hSf : ∀ b, S' b → w.heap.size ≤ b ∧ b < w'.heap.size := fun b hb => ⟨(hS' b hb).1.elim (fun h => h.elim) id, (hS' b hb).2⟩
  -- what is not own of the answer never turns
  obtain ⟨hR2, hle2⟩ := hR1.still (N := fun b => w.heap.size ≤ b ∧ b < w'.heap.size ∧ ¬ S' b) (hfree _ fun b hb => ⟨hb.1, hb.2.1⟩)
  have hv2 : OV w' (γ.still fun b => w.heap.size ≤ b ∧ b < w'.heap.size ∧ ¬ S' b).F v res S' := by
    rcases hm with rfl | hp
    · refine hv.mono (fun b hb => ?_) (.refl _ _) (.refl _ _)
      obtain ⟨h1, h2, h3⟩ := hb
      rcases h1 with h1 | h1 | h1
      · exact .inl h1
      · exact h1.elim
      · exact .inr ⟨h1, h2, h3⟩
    · exact hv.pure hp
  have hfS : Free w0 own (γ.still fun b => w.heap.size ≤ b ∧ b < w'.heap.size ∧ ¬ S' b) st w' S' := by
    intro b hb
    obtain ⟨f1, f2, f3, f4⟩ := hfree S' hSf b hb
    refine ⟨fun hG => ?_, f2, f3, f4⟩
    rcases hG with (hF | hN) | hf
    · exact f1 (.inl hF)
    · exact hN.2.2 hb
    · exact f1 (.inr hf)
  obtain ⟨γ3, q1, q2, q3, _⟩ := matV_spec hR2 k hv2 hfS
  exact hn γ3 _ w' (Gh.le_trans hle2 q1) (q2.put q3 hd)
end

section
open Go
set_option linter.unusedSimpArgs false
set_option linter.unusedVariables false

variable {P : Program} {w0 : World} {own : Nat → Prop} {γ : Gh} {st : St} {a : Act} {w : World}

/-- What an operation does to the state: a slot, and roots by their keys. -/
structure Patch where
  dst : Option Nat
  val : A
  ups : List (Nat × Option Root × Nat)

def lookU : List (Nat × Option Root × Nat) → Nat → Option (Option Root × Nat)
  | [], _ => none
  | (k, u) :: l, i => if i = k then some u else lookU l i

def St.patch (st : St) (p : Patch) : St :=
  { st with
    tmps := fun i => if p.dst = some i then p.val else st.tmps i
    store := fun i => match lookU p.ups i with | some u => u.1 | none => st.store i
    gen := fun i => match lookU p.ups i with | some u => u.2 | none => st.gen i }

def keysU (l : List (Nat × Option Root × Nat)) : List Nat := l.map (·.1)

theorem lookU_none : ∀ (l : List (Nat × Option Root × Nat)) (i : Nat), i ∉ keysU l → lookU l i = none
  | [], _, _ => rfl
  | (k, u) :: l, i, h => by
    simp [keysU] at h
    simp only [lookU, h.1, if_false]
    exact lookU_none l i (by simp [keysU]; exact h.2)

/-- The two states are alike where the operation looks. -/
structure Alike (ops : Array Oper) (o : Oper) (K : List Nat) (st st' : St) : Prop where
  n : st'.n = st.n
  lvl : st'.lvl = st.lvl
  tmps : ∀ t, t ∈ o.looksAt ops → st'.tmps t = st.tmps t
  store : ∀ k, k ∈ K → st'.store k = st.store k
  gen : ∀ k, k ∈ K → st'.gen k = st.gen k

theorem Alike.refl (ops : Array Oper) (o : Oper) (K : List Nat) (st : St) : Alike ops o K st st := ⟨rfl, rfl, fun _ _ => rfl, fun _ _ => rfl, fun _ _ => rfl⟩
theorem Alike.symm {ops : Array Oper} {o : Oper} {K : List Nat} {st st' : St} (h : Alike ops o K st st') : Alike ops o K st' st := ⟨h.n.symm, h.lvl.symm, fun t ht => (h.tmps t ht).symm, fun k hk => (h.store k hk).symm, fun k hk => (h.gen k hk).symm⟩
theorem Alike.trans {ops : Array Oper} {o : Oper} {K : List Nat} {st st' st'' : St} (h : Alike ops o K st st') (h' : Alike ops o K st' st'') : Alike ops o K st st'' :=
  ⟨h'.n.trans h.n, h'.lvl.trans h.lvl, fun t ht => (h'.tmps t ht).trans (h.tmps t ht), fun k hk => (h'.store k hk).trans (h.store k hk), fun k hk => (h'.gen k hk).trans (h.gen k hk)⟩

theorem Alike.ev {ops : Array Oper} {o : Oper} {K : List Nat} {st' : St} (h : Alike ops o K st st') {x : Operand} (hx : x ∈ o.op.operands.toList) : evA st' x = evA st x := by
  cases x with
  | tmp t => exact h.tmps t (by unfold Oper.looksAt; refine List.mem_append_left _ (List.mem_filterMap.2 ⟨_, hx, rfl⟩))
  | _ => rfl

/-- In every state that is alike where it looks, the operation does just this. -/
def PatchOK (P : Program) (w0 : World) (own : Nat → Prop) (ops : Array Oper) (o : Oper) (K : List Nat) (st : St) (p : Patch) : Prop :=
  p.dst = o.dst ∧ (∀ k, k ∈ keysU p.ups → k ∈ K) ∧ ∀ st', Alike ops o K st st' → OpOK P w0 own o st' (st'.patch p)

def guardA (ops : Array Oper) (st : St) (o : Oper) : Option Bool :=
  match o.guard with
  | none => some true
  | some (j, want) =>
    match (ops[j]?).bind (·.dst) with
    | some d => match st.tmps d with | .c (.d (.v (.bool b))) => if d < st.n then some (b == want) else none | .tup [] => if d < st.n then some false else none | _ => none
    | none => none

def StepA (P : Program) (w0 : World) (own : Nat → Prop) (ops : Array Oper) (o : Oper) (K : List Nat) (st : St) (p : Patch) : Prop :=
  (guardA ops st o = some true ∧ PatchOK P w0 own ops o K st p) ∨ (guardA ops st o = some false ∧ p = ⟨o.dst, .tup [], []⟩ ∧ st.fits o.dst = true)

theorem guardA_alike {ops : Array Oper} {o : Oper} {K : List Nat} {st' : St} (h : Alike ops o K st st') : guardA ops st' o = guardA ops st o := by
  unfold guardA
  cases hg : o.guard with
  | none => rfl
  | some q =>
    obtain ⟨j, want⟩ := q
    simp only
    cases hd : (ops[j]?).bind (·.dst) with
    | none => rfl
    | some d =>
      simp only
      have : st'.tmps d = st.tmps d := h.tmps d (by unfold Oper.looksAt; refine List.mem_append_right _ ?_; simp [hg, hd])
      rw [this, h.n]

theorem StepA.alike {ops : Array Oper} {o : Oper} {K : List Nat} {st' : St} {p : Patch} (h : Alike ops o K st st') (hs : StepA P w0 own ops o K st p) : StepA P w0 own ops o K st' p := by
  rcases hs with ⟨h1, h2, h3, h4⟩ | ⟨h1, h2, h3⟩
  · exact .inl ⟨by rw [guardA_alike h]; exact h1, h2, h3, fun st'' h'' => h4 st'' (h.trans h'')⟩
  · exact .inr ⟨by rw [guardA_alike h]; exact h1, h2, by cases hd : o.dst <;> simp_all [St.fits, h.n]⟩

theorem wanted_of {ops : Array Oper} {o : Oper} {b : Bool} (hR : Rel w0 own γ st a w) (h : guardA ops st o = some b) : Region.wanted o (yielded ops a.tmps) = b := by
  unfold guardA at h
  unfold Region.wanted
  split at h
  · rename_i hg; rw [hg]; simpa using h
  · rename_i j want hg
    rw [hg]
    simp only
    split at h
    · rename_i d hd
      split at h
      · rename_i b' ht
        split at h
        · rename_i hlt
          cases h
          have := hR.tmps d
          rw [ht] at this
          have e := (AR.sc_inv this).1
          have hsz : d < a.tmps.size := by rw [hR.size]; exact hlt
          have e2 : a.tmps[d]? = some (.bool b') := by
            rw [Array.getD_eq_getD_getElem?, Array.getElem?_eq_getElem hsz] at e
            rw [Array.getElem?_eq_getElem hsz]
            simpa using e
          simp only [yielded, hd, Option.bind_some, e2]
          cases b' <;> cases want <;> rfl
        · cases h
      · rename_i ht
        split at h
        · rename_i hlt
          cases h
          have hth := hR.tmps d
          rw [ht] at hth
          have hsz : d < a.tmps.size := by rw [hR.size]; exact hlt
          have e2 : a.tmps[d]? = some undef := by
            rw [Array.getD_eq_getD_getElem?, Array.getElem?_eq_getElem hsz] at hth
            rw [Array.getElem?_eq_getElem hsz]
            simp only [Option.getD_some] at hth
            generalize a.tmps[d] = v at hth
            cases hth with
            | tup vs _ hs _ =>
              have : vs = #[] := Array.eq_empty_of_size_eq_zero (by simpa using hs)
              rw [this]; rfl
          simp only [yielded, hd, Option.bind_some, e2]
          cases want <;> rfl
        · cases h
      · cases h
    · cases h

theorem Rel.stepA {ops : Array Oper} {o : Oper} {K : List Nat} {p : Patch} {i : Nat} (ho : ops[i]? = some o) (hs : StepA P w0 own ops o K st p) (hR : Rel w0 own γ st a w) {next : Act → World → Prop} {Q : Exit → Act → World → Prop}
    (hn : ∀ γ' a' w', γ.le γ' → Rel w0 own γ' (st.patch p) a' w' → next a' w') : wpOp P ops Q i next a w := by
  unfold wpOp
  simp only [ho]
  rcases hs with ⟨h1, _, _, h4⟩ | ⟨h1, rfl, h3⟩
  · rw [if_pos (wanted_of hR h1)]
    exact .inl (h4 st (.refl _ _ _ _) γ a w next Q hR hn)
  · rw [if_neg (by rw [wanted_of hR h1]; simp)]
    refine hn γ _ w γ.le_refl ?_
    have := hR.put (d := o.dst) (v := undef) (x := .tup []) (.tup #[] [] rfl (by simp)) h3
    have e : st.patch ⟨o.dst, .tup [], []⟩ = st.put o.dst (.tup []) := by
      cases hd : o.dst with
      | none => simp [St.patch, St.put, lookU]
      | some d =>
        simp only [St.patch, St.put, lookU]
        congr 1
        funext i
        by_cases hi : i = d
        · simp [hi]
        · simp [hi, Ne.symm hi]
    rw [e]; exact this

/-! ### a region that draws its order -/
section
variable (ops : Array Oper) (K : Nat → List Nat) (pat : Nat → Patch)

def AAny (P : Program) (w0 : World) (own : Nat → Prop) (Q : St → Prop) : Nat → Array Bool → St → Prop
  | 0, listed, st => Region.ready .any ops listed = [] ∧ Q st
  | fuel + 1, listed, st => (Region.ready .any ops listed = [] → Q st) ∧ ∀ i ∈ Region.ready .any ops listed, ∀ o, ops[i]? = some o → StepA P w0 own ops o (K i) st (pat i) ∧ AAny P w0 own Q fuel (listed.setIfInBounds i true) (st.patch (pat i))

def okPair (i j : Nat) : Bool :=
  match ops[i]?, ops[j]? with
  | some x, some y => x.apart ops y && (keysU (pat i).ups).all (fun k => !(K j).contains k) && (keysU (pat j).ups).all fun k => !(K i).contains k
  | _, _ => true
end

theorem patch_alike {ops : Array Oper} {x y : Oper} {K : List Nat} {p : Patch} (hx : p.dst = x.dst) (hap : ∀ d, x.dst = some d → d ∉ y.looksAt ops) (hk : ∀ k, k ∈ keysU p.ups → k ∉ K) (st : St) : Alike ops y K st (st.patch p) :=
  { n := rfl, lvl := rfl
    tmps := fun t ht => by
      simp only [St.patch]
      rw [if_neg]
      intro e
      exact hap t (hx.symm.trans e) ht
    store := fun k hkK => by
      simp only [St.patch]
      rw [lookU_none _ _ fun hm => hk k hm hkK]
    gen := fun k hkK => by
      simp only [St.patch]
      rw [lookU_none _ _ fun hm => hk k hm hkK] }

theorem patch_comm {p q : Patch} (hd : ∀ d, p.dst = some d → q.dst ≠ some d) (hk : ∀ k, k ∈ keysU p.ups → k ∉ keysU q.ups) (st : St) : (st.patch p).patch q = (st.patch q).patch p := by
  simp only [St.patch]
  have ht : (fun i => if q.dst = some i then q.val else if p.dst = some i then p.val else st.tmps i) = fun i => if p.dst = some i then p.val else if q.dst = some i then q.val else st.tmps i := by
    funext i
    by_cases h1 : p.dst = some i
    · simp [h1, hd i h1]
    · simp [h1]
  have hu : ∀ i, (lookU p.ups i = none ∨ lookU q.ups i = none) := fun i => by
    by_cases h1 : i ∈ keysU p.ups
    · exact .inr (lookU_none _ _ (hk i h1))
    · exact .inl (lookU_none _ _ h1)
  rw [ht]
  congr 1
  · funext i
    rcases hu i with h | h <;> simp [h]
  · funext i
    rcases hu i with h | h <;> simp [h]

section
variable {ops : Array Oper} {K : Nat → List Nat} {pat : Nat → Patch}

theorem okPair_spec {i j : Nat} {x y : Oper} (hx : ops[i]? = some x) (hy : ops[j]? = some y) (h : okPair ops K pat i j = true) : x.apart ops y = true ∧ (∀ k, k ∈ keysU (pat i).ups → k ∉ K j) ∧ (∀ k, k ∈ keysU (pat j).ups → k ∉ K i) := by
  unfold okPair at h
  simp only [hx, hy, Bool.and_eq_true] at h
  refine ⟨h.1.1, fun k hk => ?_, fun k hk => ?_⟩
  · have := List.all_eq_true.1 h.1.2 k hk; simpa using this
  · have := List.all_eq_true.1 h.2 k hk; simpa using this

theorem getD_set_ne' {l : Array Bool} {i j : Nat} (h : j ≠ i) (d : Bool) : (l.setIfInBounds i true).getD j d = l.getD j d := by
  rw [Array.getD_eq_getD_getElem?, Array.getElem?_setIfInBounds_ne (fun e => h e.symm), ← Array.getD_eq_getD_getElem?]

theorem mem_ready' {listed : Array Bool} {i : Nat} : i ∈ Region.ready .any ops listed ↔ i < ops.size ∧ listed.getD i true = false ∧ ∃ o, ops[i]? = some o ∧ ∀ e ∈ o.after, Region.binds .any e = true → listed.getD e.on false = true := by
  unfold Region.ready
  rw [List.mem_filter, List.mem_range]
  constructor
  · rintro ⟨h1, h2⟩
    simp only [Bool.and_eq_true, Bool.not_eq_true'] at h2
    refine ⟨h1, h2.1, ?_⟩
    obtain ⟨o, ho⟩ : ∃ o, ops[i]? = some o := ⟨_, Array.getElem?_eq_getElem h1⟩
    refine ⟨o, ho, fun e he hb => ?_⟩
    have := h2.2
    simp only [ho, Option.map_some, Option.getD_some, Array.all_eq_true_iff_forall_mem] at this
    have := this e he
    simpa [hb] using this
  · rintro ⟨h1, h2, o, ho, h3⟩
    refine ⟨h1, ?_⟩
    simp only [Bool.and_eq_true, Bool.not_eq_true', h2, true_and, ho, Option.map_some, Option.getD_some, Array.all_eq_true_iff_forall_mem]
    intro e he
    cases hb : Region.binds .any e with
    | false => simp
    | true => simpa using h3 e he hb

theorem ready_mono' {listed : Array Bool} {i j : Nat} (hj : j ∈ Region.ready .any ops listed) (hne : j ≠ i) : j ∈ Region.ready .any ops (listed.setIfInBounds i true) := by
  rw [mem_ready'] at hj ⊢
  obtain ⟨h1, h2, o, ho, h3⟩ := hj
  refine ⟨h1, by rw [getD_set_ne' hne]; exact h2, o, ho, fun e he hb => ?_⟩
  have := h3 e he hb
  by_cases he' : e.on = i
  · subst he'
    have hlt : e.on < listed.size := by
      rcases Nat.lt_or_ge e.on listed.size with h | h
      · exact h
      · simp [Array.getD_eq_getD_getElem?, Array.getElem?_eq_none h] at this
    simp [Array.getD_eq_getD_getElem?, hlt]
  · rw [getD_set_ne' he']; exact this

def Closed (ops : Array Oper) (listed : Array Bool) : Prop := ∀ k ok, ops[k]? = some ok → listed.getD k true = true → ∀ e ∈ ok.after, Region.binds .any e = true → listed.getD e.on true = true
def Back (ops : Array Oper) : Prop := ∀ k ok, ops[k]? = some ok → ∀ e ∈ ok.after, Region.binds .any e = true → e.on < k
def DepOK (ops : Array Oper) (dep : Nat → Nat → Bool) : Prop := ∀ i j oj, ops[j]? = some oj → dep j i = true → ∃ e ∈ oj.after, Region.binds .any e = true ∧ (e.on = i ∨ dep e.on i = true)

theorem closed_dep {ops : Array Oper} {listed : Array Bool} {dep : Nat → Nat → Bool} (hb : Back ops) (hd : DepOK ops dep) (hc : Closed ops listed) (i : Nat) : ∀ (k : Nat), k < ops.size → listed.getD k true = true → dep k i = true → listed.getD i true = true := by
  intro k
  induction k using Nat.strongRecOn with
  | _ k ih =>
    intro hk hl hdep
    have hok : ops[k]? = some ops[k] := Array.getElem?_eq_getElem hk
    obtain ⟨e, he, hbi, h⟩ := hd i k _ hok hdep
    have hl2 := hc k _ hok hl e he hbi
    rcases h with rfl | h
    · exact hl2
    · have hlt := hb k _ hok e he hbi
      exact ih e.on hlt (by omega) hl2 h

theorem getD_tf {l : Array Bool} {i : Nat} (h : l.getD i false = true) : l.getD i true = true := by
  rcases Nat.lt_or_ge i l.size with h' | h'
  · simp [Array.getD_eq_getD_getElem?, h'] at h ⊢; exact h
  · simp [Array.getD_eq_getD_getElem?, Array.getElem?_eq_none h'] at h

theorem closed_set {ops : Array Oper} {listed : Array Bool} {j : Nat} {oj : Oper} (hc : Closed ops listed) (hoj : ops[j]? = some oj) (hr : ∀ e ∈ oj.after, Region.binds .any e = true → listed.getD e.on false = true) : Closed ops (listed.setIfInBounds j true) := by
  intro k ok hok hl e he hb
  have key : listed.getD e.on true = true → (listed.setIfInBounds j true).getD e.on true = true := fun h => by
    by_cases hej : e.on = j
    · subst hej
      rcases Nat.lt_or_ge e.on listed.size with h' | h'
      · simp [Array.getD_eq_getD_getElem?, h']
      · simp [Array.getD_eq_getD_getElem?, h']
    · rw [getD_set_ne' hej]; exact h
  by_cases hkj : k = j
  · subst hkj; rw [hoj] at hok; cases hok
    exact key (getD_tf (hr e he hb))
  · rw [getD_set_ne' hkj] at hl
    exact key (hc k ok hok hl e he hb)

theorem AAny.first {Q : St → Prop} {i : Nat} {oi : Oper} (hi : ops[i]? = some oi) {dep : Nat → Nat → Bool} (hback : Back ops) (hdep : DepOK ops dep) : ∀ (fuel : Nat) (listed : Array Bool) (st : St), Closed ops listed →
    (∀ j oj, ops[j]? = some oj → j ≠ i → listed.getD j true = false → dep j i = false → okPair ops K pat i j = true) →
    i ∈ Region.ready .any ops listed → StepA P w0 own ops oi (K i) st (pat i) → (pat i).dst = oi.dst → (∀ j oj, ops[j]? = some oj → (pat j).dst = oj.dst ∧ ∀ k, k ∈ keysU (pat j).ups → k ∈ K j) →
    AAny ops K pat P w0 own Q fuel (listed.setIfInBounds i true) (st.patch (pat i)) → AAny ops K pat P w0 own Q (fuel + 1) listed st := by
  intro fuel
  induction fuel with
  | zero =>
    intro listed st _ _ hr hs _ _ H
    refine ⟨fun h => (by rw [h] at hr; cases hr), fun j hj oj hoj => ?_⟩
    by_cases hji : j = i
    · subst hji; rw [hi] at hoj; cases hoj; exact ⟨hs, H⟩
    · have := ready_mono' (i := i) hj hji
      rw [H.1] at this
      cases this
  | succ fuel ih =>
    intro listed st hcl hfree hr hs hd hall H
    refine ⟨fun h => (by rw [h] at hr; cases hr), fun j hj oj hoj => ?_⟩
    by_cases hji : j = i
    · subst hji; rw [hi] at hoj; cases hoj; exact ⟨hs, H⟩
    · obtain ⟨hj1, hj2, oj', hoj', hj3⟩ := mem_ready'.1 hj
      rw [hoj] at hoj'; cases hoj'
      have hiun : listed.getD i true = false := (mem_ready'.1 hr).2.1
      have hno : dep j i = false := by
        cases hdji : dep j i with
        | false => rfl
        | true =>
          exfalso
          obtain ⟨e, he, hb, hor⟩ := hdep i j oj hoj hdji
          have hle := getD_tf (hj3 e he hb)
          rcases hor with rfl | hor
          · rw [hiun] at hle; cases hle
          · have hlt := hback j oj hoj e he hb
            have := closed_dep hback hdep hcl i e.on (by omega) hle hor
            rw [hiun] at this; cases this
      obtain ⟨ap, c1, c2⟩ := okPair_spec hi hoj (hfree j oj hoj hji hj2 hno)
      obtain ⟨a1, a2, a3⟩ := Oper.apart_spec ap
      obtain ⟨hdj, hKj⟩ := hall j oj hoj
      obtain ⟨s1, s2⟩ := H.2 j (ready_mono' hj hji) oj hoj
      have hal : Alike ops oj (K j) st (st.patch (pat i)) := patch_alike hd a1 c1 st
      have hal2 : Alike ops oi (K i) st (st.patch (pat j)) := patch_alike hdj a3 c2 st
      refine ⟨s1.alike hal.symm, ?_⟩
      refine ih (listed.setIfInBounds j true) (st.patch (pat j)) (closed_set hcl hoj hj3) (fun k ok hk hki hun hno' => hfree k ok hk hki ?_ hno') (ready_mono' hr (Ne.symm hji)) (hs.alike hal2) hd hall ?_
      · by_cases hjk : k = j
        · subst hjk; exact hj2
        · rw [getD_set_ne' hjk] at hun; exact hun
      · rw [Array.setIfInBounds_comm _ _ hji, patch_comm (fun d hdd he => ?_) (fun k hk hk' => ?_)]
        · exact s2
        · rw [hdj] at hdd
          rw [hd] at he
          exact a2 d he hdd
        · exact c1 k hk' (hKj k hk)
end
end

section
open Go
set_option linter.unusedSimpArgs false
set_option linter.unusedVariables false

variable {P : Program} {w0 : World} {own : Nat → Prop} {γ : Gh} {st : St} {a : Act} {w : World}

def Post (w0 : World) (own : Nat → Prop) (γ : Gh) (Q : Exit → St → Prop) (e : Exit) (a : Act) (w : World) : Prop := ∃ γ' st', γ.le γ' ∧ Rel w0 own γ' st' a w ∧ Q e st'

/-- The code leads from st to what Q tells, whatever the memory is that st tells of. -/
def AWP (P : Program) (w0 : World) (own : Nat → Prop) (c : Code) (Q : Exit → St → Prop) (st : St) : Prop :=
  ∀ γ a w, Rel w0 own γ st a w → c.wp P (Post w0 own γ Q) a w

section
variable {ops : Array Oper} {K : Nat → List Nat} {pat : Nat → Patch} {Q : Exit → St → Prop}

theorem AAny.sound {γ0 : Gh} : ∀ (fuel : Nat) (listed : Array Bool) (st : St) (γ : Gh) (a : Act) (w : World), γ0.le γ → Rel w0 own γ st a w → AAny ops K pat P w0 own (Q .normal) fuel listed st → wpAny P .any ops (Post w0 own γ0 Q) fuel listed a w
  | 0, listed, st, γ, a, w, hle, hR, h => ⟨h.1, γ, st, hle, hR, h.2⟩
  | fuel + 1, listed, st, γ, a, w, hle, hR, h => ⟨fun hr => ⟨γ, st, hle, hR, h.1 hr⟩, fun i hi => by
      obtain ⟨_, _, o, ho, _⟩ := mem_ready'.1 hi
      obtain ⟨s1, s2⟩ := h.2 i hi o ho
      exact hR.stepA ho s1 fun γ' a' w' h1 h2 => AAny.sound fuel _ _ γ' a' w' (Gh.le_trans hle h1) h2 s2⟩

/-- Edges lead back, and what no edge parts does not meet. -/
def lexOK (ops : Array Oper) (dep : Nat → Nat → Bool) (K : Nat → List Nat) (pat : Nat → Patch) : Nat → Nat → Bool
  | 0, _ => true
  | m + 1, k =>
    ((List.range ops.size).all fun j => decide (j ≤ k) || dep j k || okPair ops K pat k j) &&
    lexOK ops dep K pat m (k + 1)

theorem AAny.lex {dep : Nat → Nat → Bool} (hback : Back ops) (hdep : DepOK ops dep) : ∀ (m k : Nat) (listed : Array Bool) (st : St), k + m = ops.size → listed.size = ops.size → (∀ j, j < ops.size → listed.getD j true = decide (j < k)) → lexOK ops dep K pat m k = true →
    (∀ j oj, ops[j]? = some oj → (pat j).dst = oj.dst ∧ ∀ q, q ∈ keysU (pat j).ups → q ∈ K j) →
    (∃ sts : Nat → St, sts k = st ∧ (∀ j, k ≤ j → j < ops.size → ∀ o, ops[j]? = some o → StepA P w0 own ops o (K j) (sts j) (pat j) ∧ sts (j + 1) = (sts j).patch (pat j)) ∧ Q .normal (sts ops.size)) →
    AAny ops K pat P w0 own (Q .normal) m listed st
  | 0, k, listed, st, hk, hl, hlisted, _, _, ⟨sts, h0, hs, hQ⟩ => by
    refine ⟨?_, ?_⟩
    · rw [List.eq_nil_iff_forall_not_mem]
      intro i hi
      obtain ⟨h1, h2, _⟩ := mem_ready'.1 hi
      rw [hlisted i h1] at h2
      simp at h2
      omega
    · have : k = ops.size := by omega
      rw [← h0, this]; exact hQ
  | m + 1, k, listed, st, hk, hl, hlisted, hok, hall, ⟨sts, h0, hs, hQ⟩ => by
    have hk' : k < ops.size := by omega
    obtain ⟨o, ho⟩ : ∃ o, ops[k]? = some o := ⟨_, Array.getElem?_eq_getElem hk'⟩
    simp only [lexOK, Bool.and_eq_true, ho] at hok
    obtain ⟨ok2, ok3⟩ := hok
    obtain ⟨s1, s2⟩ := hs k (Nat.le_refl _) hk' o ho
    have hset : ∀ j, j < ops.size → (listed.setIfInBounds k true).getD j true = decide (j < k + 1) := by
      intro j hj
      by_cases e : j = k
      · subst e; simp [Array.getD_eq_getD_getElem?, hl, hk']
      · rw [getD_set_ne' e, hlisted j hj]
        have : (j < k) ↔ (j < k + 1) := by omega
        simp [this]
    have ih := AAny.lex hback hdep m (k + 1) (listed.setIfInBounds k true) (sts (k + 1)) (by omega) (by simpa using hl) hset ok3 hall ⟨sts, rfl, fun j h1 h2 => hs j (by omega) h2, hQ⟩
    rw [s2, h0] at ih
    rw [h0] at s1
    refine AAny.first ho hback hdep m listed st ?_ ?_ ?_ s1 (hall k o ho).1 hall ih
    · intro j oj hoj hl' e he hb
      have hj : j < ops.size := by
        rcases Nat.lt_or_ge j ops.size with h | h
        · exact h
        · rw [Array.getElem?_eq_none h] at hoj; cases hoj
      have hlt := hback j oj hoj e he hb
      rw [hlisted j hj] at hl'
      rw [hlisted e.on (by omega)]
      simp at hl' ⊢; omega
    · intro j oj hoj hne hun hno
      have hj : j < ops.size := by
        rcases Nat.lt_or_ge j ops.size with h | h
        · exact h
        · rw [Array.getElem?_eq_none h] at hoj; cases hoj
      have hjk : ¬ j ≤ k := by
        rw [hlisted j hj] at hun
        simp at hun
        omega
      have := List.all_eq_true.1 ok2 j (List.mem_range.2 hj)
      simp only [Bool.or_eq_true, decide_eq_true_eq, hjk, false_or, hno, Bool.false_eq_true] at this
      exact this
    · rw [mem_ready']
      refine ⟨hk', by rw [hlisted k hk']; simp, o, ho, fun e he hb => ?_⟩
      have this := hback k o ho e he hb
      have hlt : e.on < listed.size := by omega
      have h2 := hlisted e.on (by omega)
      simp only [Array.getD_eq_getD_getElem?, Array.getElem?_eq_getElem hlt, Option.getD_some] at h2 ⊢
      rw [h2]; simpa using this
end

/-- The lexical walk through a region: each operation by a patch; what it looks at and what it turns is noted. -/
def ALex (P : Program) (w0 : World) (own : Nat → Prop) (ops : Array Oper) (Q : List (List Nat × List Nat) → St → Prop) : List Oper → List (List Nat × List Nat) → St → Prop
  | [], acc, st => Q acc st
  | o :: l, acc, st => ∃ K p, StepA P w0 own ops o K st p ∧ p.dst = o.dst ∧ (∀ q, q ∈ keysU p.ups → q ∈ K) ∧ ALex P w0 own ops Q l ((K, keysU p.ups) :: acc) (st.patch p)

theorem ALex.wpList {ops : Array Oper} {Q : Exit → St → Prop} {γ0 : Gh} : ∀ (l : List Oper) (acc : List (List Nat × List Nat)) (k : Nat) (st : St) (γ : Gh) (a : Act) (w : World), (∀ j, l[j]? = ops[k + j]?) → γ0.le γ → Rel w0 own γ st a w →
    ALex P w0 own ops (fun _ => Q .normal) l acc st → wpList P ops (Post w0 own γ0 Q) l a w
  | [], acc, k, st, γ, a, w, _, hle, hR, h => ⟨γ, st, hle, hR, h⟩
  | o :: l, acc, k, st, γ, a, w, hl, hle, hR, ⟨K, p, h1, h2, h3, h4⟩ => by
    have ho : ops[k]? = some o := by simpa using (hl 0).symm
    have := hR.stepA ho h1 (next := Go.wpList P ops (Post w0 own γ0 Q) l) (Q := Post w0 own γ0 Q) fun γ' a' w' g1 g2 =>
      ALex.wpList l _ (k + 1) (st.patch p) γ' a' w' (fun j => by have := hl (j + 1); simpa [Nat.add_assoc, Nat.add_comm 1 j] using this) (Gh.le_trans hle g1) g2 h4
    unfold wpOp at this
    simp only [ho] at this
    unfold Go.wpList
    exact this

/-- A region in the text's own order. -/
theorem awp_region {id : Nat} {l : List Oper} {Q : Exit → St → Prop} (h : ALex P w0 own l.toArray (fun _ => Q .normal) l [] st) : AWP P w0 own (.region id l.toArray false) Q st :=
  fun γ a w hR => wp_region_lit (ALex.wpList l [] 0 st γ a w (by simp) γ.le_refl hR h)

/-- The noted footprints, by place. -/
def footK (acc : List (List Nat × List Nat)) (j : Nat) : List Nat := (acc.getD j ([], [])).1
def footW (acc : List (List Nat × List Nat)) (j : Nat) : List Nat := (acc.getD j ([], [])).2

def okPairF (ops : Array Oper) (acc : List (List Nat × List Nat)) (i j : Nat) : Bool :=
  match ops[i]?, ops[j]? with
  | some x, some y => x.apart ops y && (footW acc i).all (fun k => !(footK acc j).contains k) && (footW acc j).all fun k => !(footK acc i).contains k
  | _, _ => true
def backOK : List Oper → Nat → Bool
  | [], _ => true
  | o :: l, k => (o.after.toList.all fun e => !Region.binds .any e || Nat.ble (e.on + 1) k) && backOK l (k + 1)
def maskE (acc : List Nat) : List Edge → Nat → Nat
  | [], s => s
  | e :: l, s => maskE acc l (match Region.binds .any e with | true => s ||| (2 ^ e.on ||| acc.getD e.on 0) | false => s)
/-- Of each operation: which ones it waits for, as bits. -/
def masks : List Oper → List Nat → List Nat
  | [], acc => acc
  | o :: l, acc => masks l (acc ++ [maskE acc o.after.toList 0])
def depM (ops : Array Oper) (j i : Nat) : Bool := ((masks ops.toList []).getD j 0).testBit i

theorem backOK_spec : ∀ (l : List Oper) (k : Nat), backOK l k = true → ∀ j o, l[j]? = some o → ∀ e ∈ o.after, Region.binds .any e = true → e.on < k + j
  | [], k, _, j, o, h => by simp at h
  | x :: l, k, h, j, o, ho => by
    simp only [backOK, Bool.and_eq_true] at h
    intro e he hb
    cases j with
    | zero =>
      simp at ho; subst ho
      have := List.all_eq_true.1 h.1 e (by simpa using he)
      simp only [hb, Bool.not_true, Bool.false_or] at this
      have := Nat.le_of_ble_eq_true this
      omega
    | succ j =>
      have := backOK_spec l (k + 1) h.2 j o (by simpa using ho) e he hb
      omega
theorem maskE_spec (acc : List Nat) (i : Nat) : ∀ (l : List Edge) (s : Nat), (maskE acc l s).testBit i = true → s.testBit i = true ∨ ∃ e ∈ l, Region.binds .any e = true ∧ (e.on = i ∨ (acc.getD e.on 0).testBit i = true)
  | [], s, h => .inl h
  | e :: l, s, h => by
    simp only [maskE] at h
    rcases maskE_spec acc i l _ h with h | ⟨e', he, h1, h2⟩
    · split at h
      · rename_i hb
        rw [Nat.testBit_or, Nat.testBit_or, Bool.or_eq_true, Bool.or_eq_true] at h
        rcases h with h | h | h
        · exact .inl h
        · refine .inr ⟨e, by simp, hb, .inl ?_⟩
          rw [Nat.testBit_two_pow] at h
          simpa using h
        · exact .inr ⟨e, by simp, hb, .inr h⟩
      · exact .inl h
    · exact .inr ⟨e', by simp [he], h1, h2⟩
theorem masks_pre : ∀ (l : List Oper) (acc : List Nat) (j : Nat), j < acc.length → (masks l acc).getD j 0 = acc.getD j 0
  | [], _, _, _ => rfl
  | o :: l, acc, j, h => by
    simp only [masks]
    rw [masks_pre l _ j (by simp; omega)]
    simp [List.getD_eq_getElem?_getD, List.getElem?_append_left h]
theorem masks_get : ∀ (l : List Oper) (acc : List Nat) (j : Nat) (o : Oper), l[j]? = some o → ∃ pre : List Nat, pre.length = acc.length + j ∧ (masks l acc).getD (acc.length + j) 0 = maskE pre o.after.toList 0 ∧ ∀ q, q < pre.length → (masks l acc).getD q 0 = pre.getD q 0
  | [], _, j, o, h => by simp at h
  | x :: l, acc, 0, o, h => by
    simp at h; subst h
    refine ⟨acc, by simp, ?_, fun q hq => masks_pre (x :: l) acc q hq⟩
    simp only [masks, Nat.add_zero]
    rw [masks_pre l _ _ (by simp)]
    simp [List.getD_eq_getElem?_getD]
  | x :: l, acc, j + 1, o, h => by
    obtain ⟨pre, h1, h2, h3⟩ := masks_get l (acc ++ [maskE acc x.after.toList 0]) j o (by simpa using h)
    simp only [List.length_append, List.length_singleton] at h1 h2
    refine ⟨pre, by omega, ?_, h3⟩
    simp only [masks]
    rw [← h2]; congr 1; omega
theorem depM_ok (ops : Array Oper) : DepOK ops (depM ops) := by
  intro i j oj hoj h
  obtain ⟨pre, h1, h2, h3⟩ := masks_get ops.toList [] j oj (by simpa using hoj)
  simp only [List.length_nil, Nat.zero_add] at h1 h2
  unfold depM at h
  rw [h2] at h
  rcases maskE_spec pre i _ _ h with h | ⟨e, he, hb, hor⟩
  · simp at h
  · refine ⟨e, by simpa using he, hb, hor.imp id fun h4 => ?_⟩
    unfold depM
    rcases Nat.lt_or_ge e.on pre.length with hq | hq
    · rw [h3 _ hq]; exact h4
    · simp [List.getD_eq_getElem?_getD, List.getElem?_eq_none hq] at h4

def pairsF (ops : Array Oper) (M : List Nat) (acc : List (List Nat × List Nat)) : Nat → Nat → Bool
  | 0, _ => true
  | m + 1, k =>
    ((List.range ops.size).all fun j => Nat.ble j k || (M.getD j 0).testBit k || okPairF ops acc k j) && pairsF ops M acc m (k + 1)
def lexOKF (ops : Array Oper) (acc : List (List Nat × List Nat)) (m k : Nat) : Bool := backOK ops.toList 0 && pairsF ops (masks ops.toList []) acc m k

theorem ALex.run {ops : Array Oper} {Q : List (List Nat × List Nat) → St → Prop} : ∀ (l : List Oper) (acc : List (List Nat × List Nat)) (st : St), (∀ j, l[j]? = ops[acc.length + j]?) → ALex P w0 own ops Q l acc st →
    ∃ (add : List (List Nat × List Nat)) (pat : Nat → Patch) (sts : Nat → St), add.length = l.length ∧ sts acc.length = st ∧ Q (add.reverse ++ acc) (sts (acc.length + l.length)) ∧
      ∀ j, j < l.length → ∀ o, l[j]? = some o → ∃ f, add[j]? = some f ∧ f.2 = keysU (pat (acc.length + j)).ups ∧ (pat (acc.length + j)).dst = o.dst ∧ (∀ q, q ∈ f.2 → q ∈ f.1) ∧ StepA P w0 own ops o f.1 (sts (acc.length + j)) (pat (acc.length + j)) ∧ sts (acc.length + j + 1) = (sts (acc.length + j)).patch (pat (acc.length + j))
  | [], acc, st, _, h => ⟨[], fun _ => ⟨none, .dead, []⟩, fun _ => st, rfl, rfl, h, fun j hj => by simp at hj⟩
  | o :: l, acc, st, hl, ⟨K, p, h1, h2, h3, h4⟩ => by
    obtain ⟨add, pat, sts, e1, e2, e3, e4⟩ := ALex.run l ((K, keysU p.ups) :: acc) (st.patch p) (fun j => by have := hl (j + 1); simpa [Nat.add_assoc, Nat.add_comm 1 j] using this) h4
    refine ⟨(K, keysU p.ups) :: add, fun i => if i = acc.length then p else pat i, fun i => if i = acc.length then st else sts i, by simp [e1], by simp, ?_, ?_⟩
    · have : ¬ (acc.length + (o :: l).length = acc.length) := by simp
      simp only [if_neg this]
      have e : acc.length + (o :: l).length = ((K, keysU p.ups) :: acc).length + l.length := by simp; omega
      rw [e]
      simpa using e3
    · intro j hj o' ho'
      cases j with
      | zero =>
        simp at ho'; subst ho'
        refine ⟨_, rfl, by simp, by simpa using h2, h3, by simpa using h1, ?_⟩
        simp only [Nat.add_zero, if_true]
        rw [if_neg (by omega)]
        have := e2
        simpa using this
      | succ j =>
        obtain ⟨f, g1, g2, g3, g4, g5, g6⟩ := e4 j (by simpa using hj) o' (by simpa using ho')
        have e : acc.length + (j + 1) = ((K, keysU p.ups) :: acc).length + j := by simp; omega
        have n1 : ¬ (acc.length + (j + 1) = acc.length) := by omega
        have n2 : ¬ (acc.length + (j + 1) + 1 = acc.length) := by omega
        refine ⟨f, by simpa using g1, ?_, ?_, g4, ?_, ?_⟩
        · simp only [if_neg n1]; rw [e]; exact g2
        · simp only [if_neg n1]; rw [e]; exact g3
        · simp only [if_neg n1]; rw [e]; exact g5
        · simp only [if_neg n1, if_neg n2]; rw [e]; exact g6

/-- A region that draws its order. -/
theorem awp_region_draw {id : Nat} {l : List Oper} {Q : Exit → St → Prop} (hm : P.follows .mixedOrders = true) (h : ALex P w0 own l.toArray (fun acc st' => lexOKF l.toArray acc.reverse l.length 0 = true ∧ Q .normal st') l [] st) :
    AWP P w0 own (.region id l.toArray true) Q st := by
  intro γ a w hR
  refine wp_region_any hm ?_
  obtain ⟨add, pat, sts, e1, e2, ⟨e3, e3'⟩, e4⟩ := ALex.run l [] st (by simp) h
  simp only [List.append_nil, List.reverse_reverse, List.length_nil, Nat.zero_add] at e2 e3 e3' e4
  have hfoot : ∀ j, j < l.length → footW add j = keysU (pat j).ups := by
    intro j hj
    obtain ⟨f, g1, g2, _⟩ := e4 j hj l[j] (List.getElem?_eq_getElem hj)
    simp [footW, List.getD, g1, g2]
  have hpair : ∀ i j, i < l.length → j < l.length → okPairF l.toArray add i j = okPair l.toArray (footK add) pat i j := by
    intro i j hi hj
    unfold okPairF okPair
    rw [hfoot i hi, hfoot j hj]
    all_goals (cases l.toArray[i]? <;> cases l.toArray[j]? <;> rfl)
  have hlex : ∀ m k, k + m = l.length → pairsF l.toArray (masks l.toArray.toList []) add m k = true → lexOK l.toArray (depM l.toArray) (footK add) pat m k = true := by
    intro m
    induction m with
    | zero => intro _ _ _; rfl
    | succ m ih =>
      intro k hk hx
      simp only [pairsF, lexOK, Bool.and_eq_true] at hx ⊢
      refine ⟨?_, ih (k + 1) (by omega) hx.2⟩
      have this := hx.1
      rw [List.all_eq_true] at this ⊢
      intro j hj
      have hj' : j < l.length := by simpa using hj
      rw [← hpair k j (by omega) hj']
      have h2 := this j hj
      simp only [Bool.or_eq_true, decide_eq_true_eq] at h2 ⊢
      rcases h2 with (h2 | h2) | h2
      · exact .inl (.inl (Nat.le_of_ble_eq_true h2))
      · exact .inl (.inr h2)
      · exact .inr h2
  unfold lexOKF at e3
  rw [Bool.and_eq_true] at e3
  have hbk : Back l.toArray := fun k ok hok e he hb => by
    have := backOK_spec _ 0 e3.1 k ok (by simpa using hok) e he hb
    omega
  have hsize : l.toArray.size = l.length := by simp
  refine AAny.sound (K := footK add) (pat := pat) _ _ st γ a _ γ.le_refl hR.drew ?_
  rw [hsize]
  refine AAny.lex (K := footK add) (pat := pat) hbk (depM_ok _) l.length 0 _ st (by simp) (by simp) (fun j hj => by simp at hj; simp [Array.getD_eq_getD_getElem?, Array.getElem?_replicate, hj]) (hlex _ 0 (by simp) e3.2) ?_ ⟨sts, e2, ?_, by simpa using e3'⟩
  · intro j oj hoj
    have hj : j < l.length := by
      rcases Nat.lt_or_ge j l.length with h | h
      · exact h
      · simp [List.getElem?_eq_none h] at hoj
    obtain ⟨f, g1, g2, g3, g4, _⟩ := e4 j hj oj (by simpa using hoj)
    refine ⟨g3, fun q hq => ?_⟩
    have : footK add j = f.1 := by simp [footK, List.getD, g1]
    rw [this]; exact g4 q (by rw [g2]; exact hq)
  · intro j _ hj o ho
    have hj' : j < l.length := by simpa using hj
    obtain ⟨f, g1, g2, g3, g4, g5, g6⟩ := e4 j hj' o (by simpa using ho)
    have : footK add j = f.1 := by simp [footK, List.getD, g1]
    rw [this]; exact ⟨g5, g6⟩
end

section
open Go
set_option linter.unusedSimpArgs false
set_option linter.unusedVariables false

variable {P : Program} {w0 : World} {own : Nat → Prop} {γ : Gh} {st : St} {a : Act} {w : World} {Q : Exit → St → Prop}

/-! ### code -/
def thenA (next : St → Prop) (Q : Exit → St → Prop) : Exit → St → Prop
  | .normal, st => next st
  | e, st => Q e st
def inBlockA (id : Nat) (Q : Exit → St → Prop) : Exit → St → Prop
  | .exit id', st => if id' = id then Q .normal st else Q (.exit id') st
  | e, st => Q e st

theorem Post.mono {γ γ' : Gh} {Q Q' : Exit → St → Prop} (hle : γ.le γ') (hq : ∀ e st, Q e st → Q' e st) {e : Exit} {a : Act} {w : World} (h : Post w0 own γ' Q e a w) : Post w0 own γ Q' e a w := by
  obtain ⟨γ2, st', h1, h2, h3⟩ := h
  exact ⟨γ2, st', Gh.le_trans hle h1, h2, hq _ _ h3⟩

theorem AWP.mono {c : Code} {Q Q' : Exit → St → Prop} (h : AWP P w0 own c Q st) (hq : ∀ e st, Q e st → Q' e st) : AWP P w0 own c Q' st :=
  fun γ a w hR => Code.wp_mono (fun e a w hp => Post.mono γ.le_refl hq hp) (h γ a w hR)

theorem awp_skip (h : Q .normal st) : AWP P w0 own .skip Q st := fun γ a w hR => wp_skip ⟨γ, st, γ.le_refl, hR, h⟩
theorem awp_ret (h : Q .ret st) : AWP P w0 own .ret Q st := fun γ a w hR => wp_ret ⟨γ, st, γ.le_refl, hR, h⟩
theorem awp_exit {id : Nat} (h : Q (.exit id) st) : AWP P w0 own (.exit id) Q st := fun γ a w hR => wp_exit ⟨γ, st, γ.le_refl, hR, h⟩
theorem awp_seq {x y : Code} (h : AWP P w0 own x (thenA (AWP P w0 own y Q) Q) st) : AWP P w0 own (.seq x y) Q st := fun γ a w hR => by
  refine wp_seq (Code.wp_mono (fun e a' w' hp => ?_) (h γ a w hR))
  obtain ⟨γ', st', h1, h2, h3⟩ := hp
  cases e with
  | normal => exact Code.wp_mono (fun e a w hp => Post.mono h1 (fun _ _ h => h) hp) (h3 γ' a' w' h2)
  | _ => exact ⟨γ', st', h1, h2, h3⟩
theorem awp_cond {c : Operand} {x y : Code} {t : Bool} (hc : evA st c = sc (.bool t)) (h : AWP P w0 own (if t then x else y) Q st) : AWP P w0 own (.cond c x y) Q st := fun γ a w hR => by
  have := hR.ev c
  rw [hc] at this
  exact wp_cond (AR.sc_inv this).1 (h γ a w hR)
theorem awp_cond_split {c : Operand} {x y : Code} {t : Bool} (hc : evA st c = sc (.bool t)) (hx : t = true → AWP P w0 own x Q st) (hy : t = false → AWP P w0 own y Q st) : AWP P w0 own (.cond c x y) Q st := by
  refine awp_cond hc ?_
  cases t
  · exact hy rfl
  · exact hx rfl
theorem awp_block {id : Nat} {c : Code} (h : AWP P w0 own c (inBlockA id Q) st) : AWP P w0 own (.block id c) Q st := fun γ a w hR => by
  refine wp_block (Code.wp_mono (fun e a' w' hp => ?_) (h γ a w hR))
  obtain ⟨γ', st', h1, h2, h3⟩ := hp
  cases e with
  | exit id' =>
    simp only [Exit.inBlock]
    simp only [inBlockA] at h3
    split
    · rw [if_pos ‹_›] at h3; exact ⟨γ', st', h1, h2, h3⟩
    · rw [if_neg ‹_›] at h3; exact ⟨γ', st', h1, h2, h3⟩
  | _ => exact ⟨γ', st', h1, h2, h3⟩
theorem awp_loop {c : Code} (I : Nat → St → Prop) (n₀ : Nat) (h₀ : I n₀ st) (round : ∀ n st, I n st → AWP P w0 own c (thenA (fun st' => ∃ n', n' < n ∧ I n' st') Q) st) : AWP P w0 own (.loop c) Q st := fun γ a w hR => by
  refine wp_loop_ghost (fun n a w => ∃ γ' st', γ.le γ' ∧ Rel w0 own γ' st' a w ∧ I n st') n₀ ⟨γ, st, γ.le_refl, hR, h₀⟩ ?_
  rintro n a w ⟨γ1, st1, g1, g2, g3⟩
  refine Code.wp_mono (fun e a' w' hp => ?_) (round n st1 g3 γ1 a w g2)
  obtain ⟨γ', st', h1, h2, h3⟩ := hp
  cases e with
  | normal => obtain ⟨n', hn, hI⟩ := h3; exact ⟨n', hn, γ', st', Gh.le_trans g1 h1, h2, hI⟩
  | _ => exact ⟨γ', st', Gh.le_trans g1 h1, h2, h3⟩
def roundsA (P : Program) (w0 : World) (own : Nat → Prop) (c : Code) (Q : Exit → St → Prop) : Nat → St → Prop
  | 0, _ => False
  | n + 1, st => AWP P w0 own c (thenA (roundsA P w0 own c Q n) Q) st
theorem awp_rounds {c : Code} (n : Nat) (h : roundsA P w0 own c Q n st) : AWP P w0 own (.loop c) Q st := by
  refine awp_loop (fun m st => roundsA P w0 own c Q m st) n h fun m st hm => ?_
  cases m with
  | zero => exact hm.elim
  | succ m => exact AWP.mono hm fun e st hq => by cases e <;> first | exact ⟨m, Nat.lt_succ_self _, hq⟩ | exact hq

/-! ### a function's beginning and its end -/
def entry0 (fn : Func) : St := { n := fn.ntmps, lvl := 0, tmps := fun _ => .dead, store := fun _ => none, gen := fun _ => 0 }
def entry (fn : Func) (args : List DV) : St := { (matT (entry0 fn) 1000000 args).1 with tmps := fun i => (matT (entry0 fn) 1000000 args).2.getD i .dead }

inductive OutC (st : St) : C → D → List Nat → Prop
  | v (x : Value) : OutC st (.d (.v x)) (.v x) []
  | ro (x : D) : x.top0 = true → OutC st (.d x) x []
  | rs (k wd len kn : Nat) (R : Root) (rows : List (List D)) : st.store k = some R → R.wd = wd → R.rows = emb rows → len ≤ rows.length → (rows.all fun r => r.all D.keeps) = true →
      OutC st (.rs k R.tag wd 0 len kn) (.s 1 wd (rows.take len) ((rows.drop len).take (kn - len))) [k]
inductive OutL (st : St) : List C → List D → List Nat → Prop
  | nil : OutL st [] [] []
  | cons {c d ks cs ds kss} : OutC st c d ks → OutL st cs ds kss → OutL st (c :: cs) (d :: ds) (ks ++ kss)
inductive OutA (st : St) : A → DV → List Nat → Prop
  | c {y d ks} : OutC st y d ks → OutA st (.c y) (.c d) ks
  | agg {ys ds ks} : OutL st ys ds ks → OutA st (.agg ys) (.agg ds) ks
inductive OutT (st : St) : List A → List DV → List Nat → Prop
  | nil : OutT st [] [] []
  | cons {c d ks cs ds kss} : OutA st c d ks → OutT st cs ds kss → OutT st (c :: cs) (d :: ds) (ks ++ kss)

/-- The blocks of a root and of what lies in it. -/
def Gh.foot (γ : Gh) (st : St) (ks : List Nat) (b : Nat) : Prop := ∃ k R, k ∈ ks ∧ st.store k = some R ∧ (γ.β k R.tag = some b ∨ ∃ i j, γ.FP k i j b)

theorem outC_spec (hR : Rel w0 own γ st a w) {v : Value} {y : C} {d : D} {ks : List Nat} (hv : CR γ w v y) (h : OutC st y d ks) : OD w γ.F v d (γ.foot st ks) := by
  cases h with
  | v x => cases hv with
    | d _ _ h => exact .r _ _ _ (by simp) h
  | ro x ht =>
    have hd := (AR.c (γ := γ) _ _ hv).d_inv
    rw [ht] at hd
    refine .r _ _ _ (fun z rows sp e => ?_) hd
    subst e; simp [D.top0] at ht
  | rs k wd len kn R rows hk hw hrows hlen hkeep =>
    subst hw
    have hm := hR.mem k R hk
    unfold RootOK at hm
    rcases (AR.c (γ := γ) _ _ hv).rs_inv with ⟨cap, b, E, n, rfl, hβ, hg, hsh, hcap, hlc, hkn⟩ | ⟨⟨_, rfl⟩, _, hl0, hk0, hβ, _⟩
    · rw [hβ] at hm
      obtain ⟨arr, E', harr, hw2, hsz, hcell⟩ := hm
      have hn : n = arr.size := by simp [World.shape?, harr] at hsh; exact hsh.2.symm
      have hll : (rows.take len).length = len := by simp; omega
      generalize hsp : (rows.drop len).take (kn - len) = sp
      have hspl : sp.length ≤ kn - len := by rw [← hsp]; simp; omega
      have hget : ∀ (i : Nat) r, (rows.take len ++ sp)[i]? = some r → rows[i]? = some r := by
        intro i r hi
        by_cases hi2 : i < len
        · rw [List.getElem?_append_left (by omega), List.getElem?_take, if_pos hi2] at hi
          exact hi
        · rw [List.getElem?_append_right (by omega), hll, ← hsp, List.getElem?_take] at hi
          split at hi
          · rw [List.getElem?_drop] at hi
            rw [← hi]; congr 1; omega
          · cases hi
      have := OD.s (w := w) (G := γ.F) (rows.take len) sp b cap R.wd arr E' (γ.foot st [k]) (fun i j => γ.FP k i j) ⟨k, R, by simp, hk, .inl hβ⟩ harr ?_ (by omega) (by rw [← hn]; simpa using hcap) ?_ ?_ ?_
      · rw [hll] at this
        simpa using this
      · intro r hr
        obtain ⟨i, hi⟩ := List.getElem?_of_mem hr
        have : r.map C.d ∈ R.rows := by rw [hrows]; exact List.mem_map.2 ⟨r, List.mem_of_getElem? (hget i r hi), rfl⟩
        simpa using hw2 _ this
      · intro i j r d h1 h2
        obtain ⟨r', g1, g2⟩ := emb_get (hget i r h1) h2
        rw [← hrows] at g1
        have hsr := hcell i j r' _ g1 g2
        have hkp : d.keeps = true := List.all_eq_true.1 (List.all_eq_true.1 hkeep r (List.mem_of_getElem? (hget i r h1))) d (List.mem_of_getElem? h2)
        unfold SR at hsr
        split at hsr
        · rename_i heq; cases heq; exact hsr
        · rename_i hne'
          have ht : d.top0 = true := by
            cases d with
            | s t z rr' sp =>
              simp [D.keeps] at hkp
              rcases hkp with rfl | rfl
              · rfl
              · exact (hne' z rr' sp rfl).elim
            | p t cells off => simpa [D.keeps, D.top0] using hkp
            | _ => rfl
          have hh := (AR.c (γ := γ) _ _ hsr).d_inv
          rw [ht] at hh
          exact .r _ _ _ (fun z rr' sp e => hne' z rr' sp (by rw [e])) hh
      · intro i j c hc
        exact ⟨⟨k, R, by simp, hk, .inr ⟨i, j, hc⟩⟩, fun e => by subst e; exact (hR.rootF k R c hk hβ).2.1 _ _ _ hc⟩
      · intro i j i' j' c h1 h2
        exact (hR.fpD _ _ _ _ _ _ _ h1 h2).2
    · subst hl0 hk0
      simp only [List.take_zero, Nat.sub_self]
      exact .n _ _ _

theorem foot_disj (hR : Rel w0 own γ st a w) {k1 k2 : List Nat} (hd : ∀ k, k ∈ k1 → k ∉ k2) (b : Nat) (h1 : γ.foot st k1 b) (h2 : γ.foot st k2 b) : False := by
  obtain ⟨ka, Ra, m1, s1, c1⟩ := h1
  obtain ⟨kb, Rb, m2, s2, c2⟩ := h2
  have hne : ka ≠ kb := fun e => hd ka m1 (e ▸ m2)
  rcases c1 with c1 | ⟨i, j, c1⟩ <;> rcases c2 with c2 | ⟨i', j', c2⟩
  · exact hne (hR.inj _ _ _ _ _ s1 s2 c1 c2)
  · exact (hR.rootF _ _ _ s1 c1).2.1 _ _ _ c2
  · exact (hR.rootF _ _ _ s2 c2).2.1 _ _ _ c1
  · exact hne (hR.fpD _ _ _ _ _ _ _ c1 c2).1

theorem foot_sub {k1 k2 : List Nat} (h : ∀ k, k ∈ k1 → k ∈ k2) (b : Nat) (hb : γ.foot st k1 b) : γ.foot st k2 b := by
  obtain ⟨k, R, m, s, c⟩ := hb; exact ⟨k, R, h k m, s, c⟩

theorem outL_spec (hR : Rel w0 own γ st a w) : ∀ (ys : List C) (ds : List D) (ks : List Nat) (vs : Nat → Value), OutL st ys ds ks → ks.Nodup → (∀ i c, ys[i]? = some c → CR γ w (vs i) c) →
    ys.length = ds.length ∧ ∃ sub : Nat → Nat → Prop, (∀ i d, ds[i]? = some d → OD w γ.F (vs i) d (sub i)) ∧ (∀ i b, sub i b → γ.foot st ks b) ∧ ∀ i i' b, sub i b → sub i' b → i = i'
  | _, _, _, vs, .nil, _, _ => ⟨rfl, fun _ _ => False, by simp, fun _ _ h => h.elim, fun _ _ _ h => h.elim⟩
  | _, _, _, vs, .cons (c := c) (d := d) (ks := ks) (cs := cs) (ds := ds) (kss := kss) h1 h2, hn, hv => by
    obtain ⟨n1, n2, n3⟩ := List.nodup_append.1 hn
    obtain ⟨e1, sub, s1, s2, s3⟩ := outL_spec hR cs ds kss (fun i => vs (i + 1)) h2 n2 (fun i c hc => hv (i + 1) c (by simpa using hc))
    have hdis : ∀ k, k ∈ ks → k ∉ kss := fun k h1 h2 => n3 k h1 k h2 rfl
    refine ⟨by simp [e1], fun i => match i with | 0 => γ.foot st ks | i + 1 => sub i, fun i d' hd => ?_, fun i b hb => ?_, fun i i' b hb hb' => ?_⟩
    · cases i with
      | zero => simp at hd; subst hd; exact outC_spec hR (hv 0 c rfl) h1
      | succ i => exact s1 i d' (by simpa using hd)
    · cases i with
      | zero => exact foot_sub (fun k hk => List.mem_append_left _ hk) b hb
      | succ i => exact foot_sub (fun k hk => List.mem_append_right _ hk) b (s2 i b hb)
    · cases i <;> cases i'
      · rfl
      · exact (foot_disj hR hdis b hb (s2 _ b hb')).elim
      · exact (foot_disj hR hdis b hb' (s2 _ b hb)).elim
      · rw [s3 _ _ b hb hb']

theorem outA_spec (hR : Rel w0 own γ st a w) {v : Value} {y : A} {d : DV} {ks : List Nat} (hv : AR γ w v y) (h : OutA st y d ks) (hn : ks.Nodup) : OV w γ.F v d (γ.foot st ks) := by
  cases h with
  | c h => cases hv with
    | c _ _ hv => exact .c _ _ _ (outC_spec hR hv h)
  | agg h => cases hv with
    | agg vs xs hs hc =>
      obtain ⟨e1, sub, s1, s2, s3⟩ := outL_spec hR _ _ _ (fun i => vs.getD i undef) h hn hc
      exact .agg vs _ _ sub (by omega) s1 s2 s3

theorem outT_spec (hR : Rel w0 own γ st a w) : ∀ (ys : List A) (ds : List DV) (ks : List Nat) (vs : Nat → Value), OutT st ys ds ks → ks.Nodup → (∀ i c, ys[i]? = some c → AR γ w (vs i) c) →
    ys.length = ds.length ∧ ∃ sub : Nat → Nat → Prop, (∀ i d, ds[i]? = some d → OV w γ.F (vs i) d (sub i)) ∧ (∀ i b, sub i b → γ.foot st ks b) ∧ ∀ i i' b, sub i b → sub i' b → i = i'
  | _, _, _, vs, .nil, _, _ => ⟨rfl, fun _ _ => False, by simp, fun _ _ h => h.elim, fun _ _ _ h => h.elim⟩
  | _, _, _, vs, .cons (c := c) (d := d) (ks := ks) (cs := cs) (ds := ds) (kss := kss) h1 h2, hn, hv => by
    obtain ⟨n1, n2, n3⟩ := List.nodup_append.1 hn
    obtain ⟨e1, sub, s1, s2, s3⟩ := outT_spec hR cs ds kss (fun i => vs (i + 1)) h2 n2 (fun i c hc => hv (i + 1) c (by simpa using hc))
    have hdis : ∀ k, k ∈ ks → k ∉ kss := fun k h1 h2 => n3 k h1 k h2 rfl
    refine ⟨by simp [e1], fun i => match i with | 0 => γ.foot st ks | i + 1 => sub i, fun i d' hd => ?_, fun i b hb => ?_, fun i i' b hb hb' => ?_⟩
    · cases i with
      | zero => simp at hd; subst hd; exact outA_spec hR (hv 0 c rfl) h1 n1
      | succ i => exact s1 i d' (by simpa using hd)
    · cases i with
      | zero => exact foot_sub (fun k hk => List.mem_append_left _ hk) b hb
      | succ i => exact foot_sub (fun k hk => List.mem_append_right _ hk) b (s2 i b hb)
    · cases i <;> cases i'
      · rfl
      · exact (foot_disj hR hdis b hb (s2 _ b hb')).elim
      · exact (foot_disj hR hdis b hb' (s2 _ b hb)).elim
      · rw [s3 _ _ b hb hb']
end

section
open Go
set_option linter.unusedSimpArgs false
set_option linter.unusedVariables false

variable {P : Program} {w0 : World} {own : Nat → Prop} {γ : Gh} {st : St} {a : Act} {w : World} {Q : Exit → St → Prop}

def resV (P : Program) (st : St) : ResultVar → Option A
  | .tmp t => some (st.tmps t).wk
  | .cell t T =>
    match st.tmps t with
    | .c (.rp k g wd i j) =>
      match st.store k with
      | some R => if R.tag = g ∧ R.wd = wd then (R.rows[i]?).bind fun r => (szT P T).bind fun n => (seg r j n).bind fun cs => if cellsOK cs then (aggT P T).bind fun ag => mkA ag cs else none else none
      | none => none
    | _ => none
def resVs (P : Program) (st : St) : List ResultVar → Option (List A)
  | [] => some []
  | r :: l => match resV P st r, resVs P st l with | some x, some y => some (x :: y) | _, _ => none

theorem resV_spec (hR : Rel w0 own γ st a w) {r : ResultVar} {x : A} (h : resV P st r = some x) :
    ∃ v, ((match r with | .tmp t => pure (a.tmps.getD t undef) | .cell t T => do loadVar T (← asAddr (a.tmps.getD t undef)) : Sem Value).run P w = .ok v w) ∧ AR γ w v x := by
  cases r with
  | tmp t => simp only [resV, Option.some.injEq] at h; subst h; exact ⟨_, rfl, (hR.tmps t).wk⟩
  | cell t T =>
    simp only [resV] at h
    split at h
    · rename_i k g wd i j ht
      split at h
      · rename_i R hk
        split at h
        · rename_i hc
          obtain ⟨rfl, rfl⟩ := hc
          obtain ⟨r, hr, h⟩ := Option.bind_eq_some_iff.1 h
          obtain ⟨n, hn, h⟩ := Option.bind_eq_some_iff.1 h
          obtain ⟨cs, hs, h⟩ := Option.bind_eq_some_iff.1 h
          split at h
          · rename_i hok
            obtain ⟨ag, ha, hy⟩ := Option.bind_eq_some_iff.1 h
            have hv := hR.tmps t
            rw [ht] at hv
            obtain ⟨b, e, hβ, _⟩ := hv.rp_inv
            have hm := hR.mem k R hk
            unfold RootOK at hm
            rw [hβ] at hm
            obtain ⟨arr, E, harr, hwd, hsz, hcell⟩ := hm
            obtain ⟨hl, hle, hget⟩ := seg_spec hs
            have hrl := hwd r (List.mem_of_getElem? hr)
            have hi : i < R.rows.length := (List.getElem?_eq_some_iff.1 hr).1
            have hpos : ∀ q, q < n → i * R.wd + j + q < arr.size := fun q hq => by
              have := row_lt (i := i) (j := j + q) (n := R.rows.length) (sz := R.wd) hi (by omega)
              omega
            have hread : ∀ q, q < n → w.cell? ⟨b, i * R.wd + j + q, none⟩ = some (arr.getD (i * R.wd + j + q) undef) := fun q hq => by
              simp [World.cell?, harr, hpos q hq]
            have hAR := AR.mkA (γ := γ) (w := w) (f := fun q => arr.getD (i * R.wd + j + q) undef) hl hy (fun q z hz => by
              have hq : q < n := by have := (List.getElem?_eq_some_iff.1 hz).1; omega
              have hflat := (cellsOK_get hok hz).1
              rw [hget q hq] at hz
              have := hcell i (j + q) r z hr hz
              rw [← Nat.add_assoc] at this
              unfold SR at this
              split at this
              · simp [C.flat] at hflat
              · exact this)
            refine ⟨_, ?_, hAR.1⟩
            simp only [e, asAddr, Sem.run_bind]
            rw [show ((pure (⟨b, i * R.wd + j, none⟩ : Addr) : Sem Addr).run P w) = .ok ⟨b, i * R.wd + j, none⟩ w from rfl]
            simp only [Result.andThen_ok]
            rw [run_loadVar _ ha hn hread hAR.2]
          · cases h
        · cases h
      · cases h
    · cases h

theorem resVs_spec (hR : Rel w0 own γ st a w) : ∀ (rs : List ResultVar) (xs : List A), resVs P st rs = some xs → ∃ vs : List Value, ((rs.mapM fun | .tmp t => pure (a.tmps.getD t undef) | .cell t T => do loadVar T (← asAddr (a.tmps.getD t undef)) : Sem (List Value)).run P w = .ok vs w) ∧
    vs.length = xs.length ∧ ∀ i x, xs[i]? = some x → AR γ w (vs.getD i undef) x
  | [], xs, h => by simp [resVs] at h; subst h; exact ⟨[], rfl, rfl, by simp⟩
  | r :: rs, xs, h => by
    simp only [resVs] at h
    split at h
    · rename_i x y h1 h2
      cases h
      obtain ⟨v, g1, g2⟩ := resV_spec hR h1
      obtain ⟨vs, i1, i2, i3⟩ := resVs_spec hR rs y h2
      refine ⟨v :: vs, ?_, by simp [i2], fun i z hz => ?_⟩
      · rw [List.mapM_cons, Sem.run_bind, g1]
        simp only [Result.andThen_ok, Sem.run_bind, i1]
        rfl
      · cases i with
        | zero => simp at hz; subst hz; exact g2
        | succ i => simpa using i3 i z (by simpa using hz)
    · cases h

/-- The function has come to its end, and answers res. -/
def FinA (P : Program) (fn : Func) (res : DV) (e : Exit) (st : St) : Prop :=
  (e = .ret ∨ e = .normal) ∧ ((∃ x ks, resVs P st fn.results.toList = some [x] ∧ OutA st x res ks ∧ ks.Nodup) ∨ (∃ xs ds ks, resVs P st fn.results.toList = some xs ∧ xs.length ≠ 1 ∧ res = .tup ds ∧ OutT st xs ds ks ∧ ks.Nodup))

def packV : List Value → Value
  | [v] => v
  | vs => .tuple vs.toArray

theorem run_results {fn : Func} {vs : List Value} {tmps : Array Value} (h : (fn.results.toList.mapM fun | .tmp t => pure (tmps.getD t undef) | .cell t T => do loadVar T (← asAddr (tmps.getD t undef)) : Sem (List Value)).run P w = .ok vs w) :
    (results fn tmps).run P w = .ok (packV vs) w := by
  unfold results
  rw [← Array.toList_mapM, Sem.run_map] at h
  rw [Sem.run_bind]
  revert h
  generalize hm : (Sem.run P (Array.mapM (m := Sem) _ fn.results) w) = r
  intro h
  cases r with
  | halt x w' => simp at h
  | ok arr w' =>
    simp only [Result.andThen_ok, Result.ok.injEq] at h
    obtain ⟨e1, e2⟩ := h
    subst e2
    subst e1
    simp only [Result.andThen_ok]
    show Result.ok _ w' = _
    congr 1
    cases harr : arr.toList with
    | nil =>
      have : arr.size = 0 := by rw [← Array.length_toList, harr]; rfl
      rw [dif_neg (by omega)]
      have : arr = #[] := by apply Array.ext'; rw [harr]
      subst this; rfl
    | cons v l =>
      cases l with
      | nil =>
        have : arr.size = 1 := by rw [← Array.length_toList, harr]; rfl
        rw [dif_pos this]
        have : arr = #[v] := by apply Array.ext'; rw [harr]
        subst this; rfl
      | cons u l =>
        have : arr.size = l.length + 2 := by rw [← Array.length_toList, harr]; rfl
        rw [dif_neg (by omega)]
        show Value.tuple arr = Value.tuple _
        congr 1
        apply Array.ext'
        rw [harr]

theorem Rel.know (h : Rel w0 own γ st a w) {f : Nat → A} (hf : ∀ i, AR γ w (a.tmps.getD i undef) (f i)) : Rel w0 own γ { st with tmps := f } a w :=
  { h with size := h.size, defers := h.defers, tmps := hf, gen := h.gen, tag := h.tag, mem := h.mem, inj := h.inj, rootF := h.rootF }

theorem Rel.start (fn : Func) (w : World) (vs : Array Value) (S G : Nat → Prop) (hG : ∀ b, G b → b < w.heap.size ∧ ¬ S b) (hn : vs.size ≤ fn.ntmps) :
    Rel w S { β := fun _ _ => none, F := G, FP := fun _ _ _ _ => False, gen := fun _ => 0, F0 := G } (entry0 fn) { tmps := vs ++ Array.replicate (fn.ntmps - vs.size) undef, defers := [] } w :=
  { env := Env.refl _ _
    size := by simp [entry0]; omega
    defers := rfl
    tmps := fun i => .dead _
    gen := rfl
    tag := fun k R h => by simp [entry0] at h
    mem := fun k R h => by simp [entry0] at h
    inj := fun k R k' R' b h => by simp [entry0] at h
    rootF := fun k R b h => by simp [entry0] at h
    fpF := fun k i j b h => h.elim
    fpD := fun k i j k' i' j' b h => h.elim
    fs := fun b h => .inl h
    lt := fun b h => by
      rcases h with h | ⟨_, _, _, h⟩
      · exact (hG b h).1
      · exact h.elim
    ltβ := fun k g b _ h => by simp at h }

theorem ct_of {f : FuncId} {fn : Func} {c : Code} {args : List DV} {res : DV} (hf : P.funcs[f]? = some fn) (hb : fn.body = some c) (hn : args.length ≤ fn.ntmps)
    (h : ∀ w0 own, AWP P w0 own c (FinA P fn res) (entry fn args)) : CT P f args res := by
  intro w vs S G hov hG hS
  cases hov with
  | tup _ _ _ sub hs hx hsub hdis =>
    have h0 := Rel.start fn w vs S G hG (by omega)
    have hfree : ∀ i, Free w S { β := fun _ _ => none, F := G, FP := fun _ _ _ _ => False, gen := fun _ => 0, F0 := G } (entry0 fn) w (sub i) := fun i b hb => by
      refine ⟨fun hg => ?_, fun k R hk => by simp [entry0] at hk, .inl (hsub i b hb), hS b (hsub i b hb)⟩
      rcases hg with hg | ⟨_, _, _, hg⟩
      · exact (hG b hg).2 (hsub i b hb)
      · exact hg.elim
    obtain ⟨γ1, q1, q2, ⟨q3, q4⟩, _⟩ := matT_spec args _ (entry0 fn) 1000000 (fun i => vs.getD i undef) sub h0 hx hfree hdis
    have hR : Rel w S γ1 (entry fn args) { tmps := vs ++ Array.replicate (fn.ntmps - vs.size) undef, defers := [] } w := by
      refine q2.know fun i => ?_
      by_cases hi : i < args.length
      · have := q4 i ((matT (entry0 fn) 1000000 args).2[i]'(by omega)) (List.getElem?_eq_getElem _)
        have e1 : (vs ++ Array.replicate (fn.ntmps - vs.size) undef).getD i undef = vs.getD i undef := by
          have : i < vs.size := by omega
          simp [Array.getD_eq_getD_getElem?, Array.getElem?_append, this]
        have e2 : (matT (entry0 fn) 1000000 args).2.getD i .dead = (matT (entry0 fn) 1000000 args).2[i]'(by omega) := by
          simp [List.getD, List.getElem?_eq_getElem (show i < (matT (entry0 fn) 1000000 args).2.length by omega)]
        simp only [e2]
        show AR γ1 w ((vs ++ Array.replicate (fn.ntmps - vs.size) undef).getD i undef) _
        rw [e1]; exact this
      · have e2 : (matT (entry0 fn) 1000000 args).2.getD i .dead = .dead := by
          simp [List.getD, List.getElem?_eq_none (show (matT (entry0 fn) 1000000 args).2.length ≤ i by omega)]
        simp only [e2]
        exact .dead _
    refine calls_of_wp hf hb (Code.wp_mono (fun e a' w' hp => ?_) (h w S γ1 _ w hR))
    obtain ⟨γ', st', g1, g2, hfin, hres⟩ := hp
    have hF0 : γ'.F0 = G := g1.F0.trans q1.F0
    have hfoot : ∀ ks b, γ'.foot st' ks b → (S b ∨ w.heap.size ≤ b) ∧ b < w'.heap.size ∧ ¬ γ'.F b := by
      rintro ks b ⟨k, R, _, hk, hc | ⟨i, j, hc⟩⟩
      · obtain ⟨p1, _, p3⟩ := g2.rootF k R b hk hc
        exact ⟨p3, g2.ltβ k R.tag b (by rw [g2.gen]; exact g2.tag k R hk) hc, p1⟩
      · obtain ⟨p1, p2⟩ := g2.fpF k i j b hc
        exact ⟨p2, g2.lt b (.inr ⟨k, i, j, hc⟩), p1⟩
    have hG' : ∀ ks b, γ'.F b → (G b ∨ S b ∨ w.heap.size ≤ b) ∧ b < w'.heap.size ∧ ¬ γ'.foot st' ks b := fun ks b hF => by
      refine ⟨?_, g2.lt b (.inl hF), fun hx => (hfoot ks b hx).2.2 hF⟩
      have := g2.fs b hF
      rw [hF0] at this
      exact this
    have key : ∃ v, (results fn a'.tmps).run P w' = .ok v w' ∧ ∃ ks, OV w' γ'.F v res (γ'.foot st' ks) := by
      rcases hres with ⟨x, ks, r1, r2, r3⟩ | ⟨xs, ds, ks, r1, r2, rfl, r4, r5⟩
      · obtain ⟨us, u1, u2, u3⟩ := resVs_spec g2 _ _ r1
        obtain ⟨u, rfl⟩ : ∃ u, us = [u] := by
          match us, u2 with
          | [u], _ => exact ⟨u, rfl⟩
        exact ⟨_, run_results u1, ks, outA_spec g2 (show AR γ' w' u x by simpa using u3 0 x rfl) r2 r3⟩
      · obtain ⟨us, u1, u2, u3⟩ := resVs_spec g2 _ _ r1
        obtain ⟨e1, sub', s1, s2, s3⟩ := outT_spec g2 xs ds ks (fun i => us.getD i undef) r4 r5 u3
        refine ⟨_, run_results u1, ks, ?_⟩
        have : packV us = .tuple us.toArray := by
          match us, u2 with
          | [u], h => simp at h; omega
          | [], _ => rfl
          | _ :: _ :: _, _ => rfl
        rw [this]
        exact .tup _ _ _ sub' (by simp; omega) (fun i d hd => by simpa [Array.getD_eq_getD_getElem?, List.getD] using s1 i d hd) s2 s3
    obtain ⟨v, v1, ks, v2⟩ := key
    have hpost : a'.defers = [] ∧ ∃ v, (results fn a'.tmps).run P w' = .ok v w' ∧ ∃ v' S', Ending.returned v = .returned v' ∧ OV w' (fun b => (G b ∨ S b ∨ w.heap.size ≤ b) ∧ b < w'.heap.size ∧ ¬ S' b) v' res S' ∧ (∀ b, S' b → (S b ∨ w.heap.size ≤ b) ∧ b < w'.heap.size) ∧ Env w S w' :=
      ⟨g2.defers, v, v1, v, γ'.foot st' ks, rfl, v2.mono (hG' ks) (.refl _ _) (.refl _ _), fun b hb => ⟨(hfoot ks b hb).1, (hfoot ks b hb).2.1⟩, g2.env⟩
    rcases hfin with rfl | rfl
    · exact hpost
    · exact hpost
end

section
open Go
set_option linter.unusedSimpArgs false
set_option linter.unusedVariables false

variable {P : Program} {w0 : World} {own : Nat → Prop} {γ : Gh} {st : St} {a : Act} {w : World}
variable {ops : Array Oper} {Q : List (List Nat × List Nat) → St → Prop} {o : Oper} {l : List Oper} {acc : List (List Nat × List Nat)}

theorem put_patch (st : St) (d : Option Nat) (y : A) : st.put d y = st.patch ⟨d, y, []⟩ := by
  cases d with
  | none => simp [St.patch, St.put, lookU]
  | some d =>
    simp only [St.patch, St.put, lookU]
    congr 1
    funext i
    by_cases hi : i = d
    · simp [hi]
    · simp [hi, Ne.symm hi]

theorem root_patch (st : St) (d : Option Nat) (y : A) (k : Nat) (box : Bool) (wd : Nat) (rows : List (List C)) :
    (st.root k box wd rows).put d y = st.patch ⟨d, y, [(k, some ⟨st.gen k + 1, box, wd, rows⟩, st.gen k + 1)]⟩ := by
  rw [put_patch]
  simp only [St.patch, St.root, lookU]
  congr 1
  · funext i; by_cases hi : i = k <;> simp [hi]
  · funext i; by_cases hi : i = k <;> simp [hi]

theorem set_patch (st : St) (d : Option Nat) (y : A) (k : Nat) (R : Root) : (st.set k R).put d y = st.patch ⟨d, y, [(k, some R, st.gen k)]⟩ := by
  rw [put_patch]
  simp only [St.patch, St.set, lookU]
  congr 1
  · funext i; by_cases hi : i = k <;> simp [hi]
  · funext i; by_cases hi : i = k <;> simp [hi]

theorem alex_step {K : List Nat} {p : Patch} (hg : guardA ops st o = some true) (hp : PatchOK P w0 own ops o K st p) (h : ALex P w0 own ops Q l ((K, keysU p.ups) :: acc) (st.patch p)) : ALex P w0 own ops Q (o :: l) acc st :=
  ⟨K, p, .inl ⟨hg, hp⟩, hp.1, hp.2.1, h⟩

/-- An operation whose guard says no. -/
theorem x_skip (hg : guardA ops st o = some false) (hd : st.fits o.dst = true) (h : ALex P w0 own ops Q l (([], []) :: acc) (st.patch ⟨o.dst, .tup [], []⟩)) : ALex P w0 own ops Q (o :: l) acc st :=
  ⟨[], ⟨o.dst, .tup [], []⟩, .inr ⟨hg, rfl, hd⟩, rfl, by simp [keysU], h⟩

theorem fits_alike {K : List Nat} {st' : St} (h : Alike ops o K st st') {d : Option Nat} (hd : st.fits d = true) : st'.fits d = true := by
  cases d <;> simp_all [St.fits, h.n]

theorem PatchOK.plain {y : A} (h : ∀ st', Alike ops o [] st st' → OpOK P w0 own o st' (st'.put o.dst y)) : PatchOK P w0 own ops o [] st ⟨o.dst, y, []⟩ :=
  ⟨rfl, by simp [keysU], fun st' ha => by rw [← put_patch]; exact h st' ha⟩
theorem PatchOK.reads {K : List Nat} {y : A} (h : ∀ st', Alike ops o K st st' → OpOK P w0 own o st' (st'.put o.dst y)) : PatchOK P w0 own ops o K st ⟨o.dst, y, []⟩ :=
  ⟨rfl, by simp [keysU], fun st' ha => by rw [← put_patch]; exact h st' ha⟩

theorem PatchOK.one {k g : Nat} {y : A} {R : Option Root} (h : ∀ st', Alike ops o [k] st st' → OpOK P w0 own o st' (st'.patch ⟨o.dst, y, [(k, R, g)]⟩)) : PatchOK P w0 own ops o [k] st ⟨o.dst, y, [(k, R, g)]⟩ :=
  ⟨rfl, by simp [keysU], h⟩

theorem mem1 {o : Oper} {x : Operand} (h : o.op.operands = #[x]) : x ∈ o.op.operands.toList := by rw [h]; simp
theorem mem21 {o : Oper} {x y : Operand} (h : o.op.operands = #[x, y]) : x ∈ o.op.operands.toList := by rw [h]; simp
theorem mem22 {o : Oper} {x y : Operand} (h : o.op.operands = #[x, y]) : y ∈ o.op.operands.toList := by rw [h]; simp

theorem x_move {x : Operand} {y : A} (hg : guardA ops st o = some true) (hd : st.fits o.dst = true) (ho : o.op = .move x ∨ o.op = .assign x) (hy : evA st x = y) (h : ALex P w0 own ops Q l (([], []) :: acc) (st.patch ⟨o.dst, y, []⟩)) : ALex P w0 own ops Q (o :: l) acc st :=
  alex_step hg (.plain fun st' ha => by
    have e := ha.ev (x := x) (by rcases ho with h | h <;> rw [h] <;> simp [Op.operands])
    rw [← hy, ← e]
    exact op_move (fits_alike ha hd) ho) h

theorem x_pick {c x y : Operand} {t : Bool} {z : A} (hg : guardA ops st o = some true) (hd : st.fits o.dst = true) (ho : o.op = .pick c x y) (hc : evA st c = sc (.bool t)) (hz : (if t then evA st x else evA st y) = z) (h : ALex P w0 own ops Q l (([], []) :: acc) (st.patch ⟨o.dst, z, []⟩)) : ALex P w0 own ops Q (o :: l) acc st :=
  alex_step hg (.plain fun st' ha => by
    have e1 := ha.ev (x := c) (by rw [ho]; simp [Op.operands])
    have e2 := ha.ev (x := x) (by rw [ho]; simp [Op.operands])
    have e3 := ha.ev (x := y) (by rw [ho]; simp [Op.operands])
    rw [← hz, ← e2, ← e3]
    exact op_pick (fits_alike ha hd) ho (e1.trans hc)) h

theorem x_bin {b : BinOp} {t u : TypeId} {x y : Operand} {p q r : Value} (hg : guardA ops st o = some true) (hd : st.fits o.dst = true) (ho : o.op = .binOp b t x y u) (hx : (evA st x).val = some p) (hy : (evA st y).val = some q)
    (hr : pureRun P (do eqGuard b t x y p q; binOp b t p q) = some r) (hp : plain r = true) (h : ALex P w0 own ops Q l (([], []) :: acc) (st.patch ⟨o.dst, sc r, []⟩)) : ALex P w0 own ops Q (o :: l) acc st :=
  alex_step hg (.plain fun st' ha => by
    have e1 := ha.ev (x := x) (by rw [ho]; simp [Op.operands])
    have e2 := ha.ev (x := y) (by rw [ho]; simp [Op.operands])
    exact op_bin (fits_alike ha hd) ho (by rw [e1]; exact hx) (by rw [e2]; exact hy) hr hp) h

theorem x_un {b : UnOp} {t : TypeId} {x : Operand} {p r : Value} (hg : guardA ops st o = some true) (hd : st.fits o.dst = true) (ho : o.op = .unOp b t x) (hx : (evA st x).val = some p)
    (hr : pureRun P (Op.unary b p) = some r) (hp : plain r = true) (h : ALex P w0 own ops Q l (([], []) :: acc) (st.patch ⟨o.dst, sc r, []⟩)) : ALex P w0 own ops Q (o :: l) acc st :=
  alex_step hg (.plain fun st' ha => by
    have e1 := ha.ev (x := x) (by rw [ho]; simp [Op.operands])
    exact op_un (fits_alike ha hd) ho (by rw [e1]; exact hx) hr hp) h

theorem x_conv {t u : TypeId} {x : Operand} {p r : Value} (hg : guardA ops st o = some true) (hd : st.fits o.dst = true) (ho : o.op = .convert t u x) (hx : (evA st x).val = some p)
    (hr : pureRun P (convert t u p) = some r) (hp : plain r = true) (h : ALex P w0 own ops Q l (([], []) :: acc) (st.patch ⟨o.dst, sc r, []⟩)) : ALex P w0 own ops Q (o :: l) acc st :=
  alex_step hg (.plain fun st' ha => by
    have e1 := ha.ev (x := x) (by rw [ho]; simp [Op.operands])
    exact op_conv (fits_alike ha hd) ho (by rw [e1]; exact hx) hr hp) h

theorem x_alloc {t : TypeId} {zs : List Value} (k : Nat) (hg : guardA ops st o = some true) (hd : st.fits o.dst = true) (ho : o.op = .alloc t) (hz : zeroT P t = some zs) (hp : zs.all plain = true)
    (h : ALex P w0 own ops Q l (([k], [k]) :: acc) (st.patch ⟨o.dst, .c (.rp k (st.gen k + 1) zs.length 0 0), [(k, some ⟨st.gen k + 1, true, zs.length, [zs.map fun x => .d (.v x)]⟩, st.gen k + 1)]⟩)) : ALex P w0 own ops Q (o :: l) acc st :=
  alex_step hg (.one fun st' ha => by
    have := op_alloc (P := P) (w0 := w0) (own := own) k (fits_alike ha hd) ho hz hp
    rw [root_patch, ha.gen k (by simp)] at this
    exact this) h

theorem x_box {t : TypeId} {x : Operand} {cs : List C} (k : Nat) (hg : guardA ops st o = some true) (hd : st.fits o.dst = true) (ho : o.op = .box t x) (hx : (evA st x).cells = some cs) (hp : cellsOK cs = true)
    (h : ALex P w0 own ops Q l (([k], [k]) :: acc) (st.patch ⟨o.dst, .c (.rp k (st.gen k + 1) cs.length 0 0), [(k, some ⟨st.gen k + 1, true, cs.length, [cs]⟩, st.gen k + 1)]⟩)) : ALex P w0 own ops Q (o :: l) acc st :=
  alex_step hg (.one fun st' ha => by
    have e1 := ha.ev (x := x) (by rw [ho]; simp [Op.operands])
    have := op_box (P := P) (w0 := w0) (own := own) k (fits_alike ha hd) ho (by rw [e1]; exact hx) hp
    rw [root_patch, ha.gen k (by simp)] at this
    exact this) h

theorem x_load {t : TypeId} {x : Operand} {k g wd i j n : Nat} {R : Root} {r cs : List C} {ag : Bool} {y : A} (hg : guardA ops st o = some true) (hd : st.fits o.dst = true) (ho : o.op = .load t x) (hx : evA st x = .c (.rp k g wd i j)) (hk : st.store k = some R) (hgw : R.tag = g ∧ R.wd = wd)
    (hr : R.rows[i]? = some r) (ha : aggT P t = some ag) (hn : szT P t = some n) (hs : seg r j n = some cs) (hy : mkA ag (cs.map C.lend) = some y) (h : ALex P w0 own ops Q l (([k], []) :: acc) (st.patch ⟨o.dst, y, []⟩)) : ALex P w0 own ops Q (o :: l) acc st :=
  alex_step (K := [k]) hg (.reads fun st' hal => by
    have e1 := hal.ev (x := x) (by rw [ho]; simp [Op.operands])
    exact op_load (fits_alike hal hd) ho (e1.trans hx) ((hal.store k (by simp)).trans hk) hgw.1 hgw.2 hr ha hn hs hy) h

theorem x_loadp {t : TypeId} {x : Operand} {tg off n : Nat} {cells cs : List D} {ag : Bool} {y : A} (hg : guardA ops st o = some true) (hd : st.fits o.dst = true) (ho : o.op = .load t x) (hx : evA st x = .c (.d (.p tg cells off)))
    (ha : aggT P t = some ag) (hn : szT P t = some n) (hs : seg cells off n = some cs) (hy : mkA ag (cs.map (D.under tg)) = some y) (h : ALex P w0 own ops Q l (([], []) :: acc) (st.patch ⟨o.dst, y, []⟩)) : ALex P w0 own ops Q (o :: l) acc st :=
  alex_step hg (.plain fun st' hal => by
    have e1 := hal.ev (x := x) (by rw [ho]; simp [Op.operands])
    exact op_loadp (fits_alike hal hd) ho (e1.trans hx) ha hn hs hy) h

theorem x_fieldAddr {t ft : TypeId} {x : Operand} {f off n : Nat} {y z : A} (hg : guardA ops st o = some true) (hd : st.fits o.dst = true) (ho : o.op = .fieldAddr t x f) (hx : evA st x = y) (hf : fldT P t f = some (off, ft)) (hn : szT P ft = some n) (h0 : n ≠ 0)
    (hz : y.ptrAdd off = some z) (h : ALex P w0 own ops Q l (([], []) :: acc) (st.patch ⟨o.dst, z, []⟩)) : ALex P w0 own ops Q (o :: l) acc st :=
  alex_step hg (.plain fun st' hal => by
    have e1 := hal.ev (x := x) (by rw [ho]; simp [Op.operands])
    exact op_fieldAddr (fits_alike hal hd) ho (e1.trans hx) hf hn h0 hz) h

theorem x_indexArr {t e : TypeId} {x ix : Operand} {n sz q : Nat} {u : Value} {y z : A} (hg : guardA ops st o = some true) (hd : st.fits o.dst = true) (ho : o.op = .indexAddr t x ix) (hx : evA st x = y) (hix : evA st ix = sc u) (ht : arT P t = some (n, e)) (hs : szT P e = some sz) (hq : idx u n = some q)
    (hz : y.ptrAdd (q * sz) = some z) (h : ALex P w0 own ops Q l (([], []) :: acc) (st.patch ⟨o.dst, z, []⟩)) : ALex P w0 own ops Q (o :: l) acc st :=
  alex_step hg (.plain fun st' hal => by
    have e1 := hal.ev (x := x) (by rw [ho]; simp [Op.operands])
    have e2 := hal.ev (x := ix) (by rw [ho]; simp [Op.operands])
    exact op_indexArr (fits_alike hal hd) ho (e1.trans hx) (e2.trans hix) ht hs hq hz) h

theorem x_indexOwn {t e : TypeId} {x ix : Operand} {k g wd lo len kn q : Nat} {u : Value} (hg : guardA ops st o = some true) (hd : st.fits o.dst = true) (ho : o.op = .indexAddr t x ix) (hx : evA st x = .c (.rs k g wd lo len kn)) (hix : evA st ix = sc u) (ht : elT P t = some e) (hs : szT P e = some wd) (hq : idx u len = some q)
    (h : ALex P w0 own ops Q l (([], []) :: acc) (st.patch ⟨o.dst, .c (.rp k g wd (lo + q) 0), []⟩)) : ALex P w0 own ops Q (o :: l) acc st :=
  alex_step hg (.plain fun st' hal => by
    have e1 := hal.ev (x := x) (by rw [ho]; simp [Op.operands])
    have e2 := hal.ev (x := ix) (by rw [ho]; simp [Op.operands])
    exact op_indexOwn (fits_alike hal hd) ho (e1.trans hx) (e2.trans hix) ht hs hq) h

theorem x_indexD {t e : TypeId} {x ix : Operand} {tg sz q : Nat} {rows spare : List (List D)} {r : List D} {u : Value} (hg : guardA ops st o = some true) (hd : st.fits o.dst = true) (ho : o.op = .indexAddr t x ix) (hx : evA st x = .c (.d (.s tg sz rows spare))) (hix : evA st ix = sc u) (ht : elT P t = some e) (hs : szT P e = some sz) (hq : idx u rows.length = some q)
    (hr : rows[q]? = some r) (h : ALex P w0 own ops Q l (([], []) :: acc) (st.patch ⟨o.dst, .c (.d (.p tg r 0)), []⟩)) : ALex P w0 own ops Q (o :: l) acc st :=
  alex_step hg (.plain fun st' hal => by
    have e1 := hal.ev (x := x) (by rw [ho]; simp [Op.operands])
    have e2 := hal.ev (x := ix) (by rw [ho]; simp [Op.operands])
    exact op_indexD (fits_alike hal hd) ho (e1.trans hx) (e2.trans hix) ht hs hq hr) h

theorem x_nilCheck {x : Operand} {y : A} (hg : guardA ops st o = some true) (hd : st.fits o.dst = true) (ho : o.op = .nilCheck x) (hx : evA st x = y) (hy : y.isPtr = true) (h : ALex P w0 own ops Q l (([], []) :: acc) (st.patch ⟨o.dst, y, []⟩)) : ALex P w0 own ops Q (o :: l) acc st :=
  alex_step hg (.plain fun st' hal => by
    have e1 := hal.ev (x := x) (by rw [ho]; simp [Op.operands])
    exact op_nilCheck (fits_alike hal hd) ho (e1.trans hx) hy) h

theorem x_extract {x : Operand} {i : Nat} {xs : List A} {y : A} (hg : guardA ops st o = some true) (hd : st.fits o.dst = true) (ho : o.op = .extract x i) (hx : evA st x = .tup xs) (hy : xs[i]? = some y) (h : ALex P w0 own ops Q l (([], []) :: acc) (st.patch ⟨o.dst, y, []⟩)) : ALex P w0 own ops Q (o :: l) acc st :=
  alex_step hg (.plain fun st' hal => by
    have e1 := hal.ev (x := x) (by rw [ho]; simp [Op.operands])
    exact op_extract (fits_alike hal hd) ho (e1.trans hx) hy) h

theorem x_store {t : TypeId} {x y : Operand} {k g wd i j : Nat} {R : Root} {r cs : List C} (hg : guardA ops st o = some true) (hd : st.fits o.dst = true) (ho : o.op = .store t x y) (hx : evA st x = .c (.rp k g wd i j)) (hk : st.store k = some R) (hgw : R.tag = g ∧ R.wd = wd)
    (hr : R.rows[i]? = some r) (hy : (evA st y).cells = some cs) (hok : cellsOK cs = true) (hn : szT P t = some cs.length) (hj : j + cs.length ≤ wd)
    (h : ALex P w0 own ops Q l (([k], [k]) :: acc) (st.patch ⟨o.dst, .dead, [(k, some { R with rows := R.rows.set i (splice r j cs) }, st.gen k)]⟩)) : ALex P w0 own ops Q (o :: l) acc st :=
  alex_step hg (.one fun st' hal => by
    have e1 := hal.ev (x := x) (by rw [ho]; simp [Op.operands])
    have e2 := hal.ev (x := y) (by rw [ho]; simp [Op.operands])
    have := op_store (P := P) (w0 := w0) (own := own) (fits_alike hal hd) ho (e1.trans hx) ((hal.store k (by simp)).trans hk) hgw.1 hgw.2 hr (by rw [e2]; exact hy) hok hn hj
    rw [set_patch, hal.gen k (by simp)] at this
    exact this) h

theorem ones_alike {K : List Nat} {st' : St} (h : Alike ops o K st st') : ∀ (xs : List Operand), (∀ x ∈ xs, x ∈ o.op.operands.toList) → ones st' xs = ones st xs
  | [], _ => rfl
  | x :: xs, hx => by
    simp only [ones, h.ev (hx x (by simp)), ones_alike h xs fun y hy => hx y (List.mem_cons_of_mem _ hy)]

theorem x_makeFunc {f : FuncId} {fst cap : List Operand} {cf cc : List C} (hg : guardA ops st o = some true) (hd : st.fits o.dst = true) (ho : o.op = .makeFunc (.func f) fst.toArray cap.toArray) (h1 : ones st fst = some cf) (h2 : ones st cap = some cc) (h : ALex P w0 own ops Q l (([], []) :: acc) (st.patch ⟨o.dst, .c (.cf f cf cc), []⟩)) : ALex P w0 own ops Q (o :: l) acc st :=
  alex_step hg (.plain fun st' hal => by
    exact op_makeFunc (fits_alike hal hd) ho (by rw [ones_alike hal fst fun x hx => by rw [ho]; simp [Op.operands, hx]]; exact h1) (by rw [ones_alike hal cap fun x hx => by rw [ho]; simp [Op.operands, hx]]; exact h2)) h

theorem x_field {t ft : TypeId} {x : Operand} {f off n : Nat} {cs r : List C} {ag : Bool} {y : A} (hg : guardA ops st o = some true) (hd : st.fits o.dst = true) (ho : o.op = .field t x f) (hx : evA st x = .agg cs) (hf : fldT P t f = some (off, ft)) (ha : aggT P ft = some ag) (hn : szT P ft = some n) (hr : seg cs off n = some r) (hy : mkA ag r = some y)
    (h : ALex P w0 own ops Q l (([], []) :: acc) (st.patch ⟨o.dst, y, []⟩)) : ALex P w0 own ops Q (o :: l) acc st :=
  alex_step hg (.plain fun st' hal => by
    have e1 := hal.ev (x := x) (by rw [ho]; simp [Op.operands])
    exact op_field (fits_alike hal hd) ho (e1.trans hx) hf ha hn hr hy) h

theorem x_index {t e : TypeId} {x ix : Operand} {n sz q : Nat} {u : Value} {cs r : List C} {ag : Bool} {y : A} (hg : guardA ops st o = some true) (hd : st.fits o.dst = true) (ho : o.op = .index t x ix) (hx : evA st x = .agg cs) (hix : evA st ix = sc u) (ht : arT P t = some (n, e)) (hq : idx u n = some q) (ha : aggT P e = some ag) (hn : szT P e = some sz)
    (hr : seg cs (q * sz) sz = some r) (hy : mkA ag r = some y) (h : ALex P w0 own ops Q l (([], []) :: acc) (st.patch ⟨o.dst, y, []⟩)) : ALex P w0 own ops Q (o :: l) acc st :=
  alex_step hg (.plain fun st' hal => by
    have e1 := hal.ev (x := x) (by rw [ho]; simp [Op.operands])
    have e2 := hal.ev (x := ix) (by rw [ho]; simp [Op.operands])
    exact op_index (fits_alike hal hd) ho (e1.trans hx) (e2.trans hix) ht hq ha hn hr hy) h

theorem partsA_alike {K : List Nat} {st' : St} (h : Alike ops o K st st') (ps : List (Nat × Operand)) (hx : ∀ p ∈ ps, p.2 ∈ o.op.operands.toList) : partsA st' ps = partsA st ps := by
  unfold partsA
  apply List.map_congr_left
  intro p hp
  simp [h.ev (hx p hp)]

theorem x_build {t : TypeId} {ps : List (Nat × Operand)} {zs : List Value} {out : List C} {fs : Array Field} (hg : guardA ops st o = some true) (hd : st.fits o.dst = true) (ho : o.op = .build t ps.toArray) (hz : zeroT P t = some zs) (hp : zs.all plain = true)
    (hf : fillA (placeT P t) (zs.map fun x => .d (.v x)) (partsA st ps) = some out) (hu : P.underlying t = some (.struct fs)) (hsome : ∀ f ∈ fs.toList, (szT P f.type).isSome = true) (h : ALex P w0 own ops Q l (([], []) :: acc) (st.patch ⟨o.dst, .agg out, []⟩)) : ALex P w0 own ops Q (o :: l) acc st :=
  alex_step hg (.plain fun st' hal => by
    exact op_build (fits_alike hal hd) ho hz hp (by rw [partsA_alike hal ps fun p hp => by rw [ho]; simp only [Op.operands]; simp; exact ⟨p.1, hp⟩]; exact hf) hu hsome) h

theorem x_buildArr {t e : TypeId} {n sz : Nat} {ps : List (Nat × Operand)} {zs : List Value} {out : List C} (hg : guardA ops st o = some true) (hd : st.fits o.dst = true) (ho : o.op = .build t ps.toArray) (hz : zeroT P t = some zs) (hp : zs.all plain = true) (ht : arT P t = some (n, e)) (hsz : szT P e = some sz)
    (hf : fillA (fun i => some (i * sz, sz)) (zs.map fun x => .d (.v x)) (partsA st ps) = some out) (h : ALex P w0 own ops Q l (([], []) :: acc) (st.patch ⟨o.dst, .agg out, []⟩)) : ALex P w0 own ops Q (o :: l) acc st :=
  alex_step hg (.plain fun st' hal => by
    exact op_buildArr (fits_alike hal hd) ho hz hp ht hsz (by rw [partsA_alike hal ps fun p hp => by rw [ho]; simp only [Op.operands]; simp; exact ⟨p.1, hp⟩]; exact hf)) h
end
end Vm
