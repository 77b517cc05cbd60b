/- An interpreter for Go's texts over plain data, and its proof: what it answers is what the model does. My own work. -/
import Derived.Test.YtdfehiebnempaaaGE
import Derived.Lib.Overlaps
import Derived.Lib.AppendZerosOnto
namespace Vm
section
open Go
set_option linter.unusedSimpArgs false
set_option linter.unusedVariables false

variable {P : Program} {w0 : World} {own : Nat → Prop} {γ : Gh} {st : St} {a : Act} {w : World} {o : Oper} {x : X} {ops : Array Oper}

/-! ### the capacity of an exact slice -/
theorem op_cap {y : Operand} {t e : TypeId} {k g wd lo len cap : Nat} (hd : st.fits o.dst = true) (ho : o.op = .call { callee := .builtin .cap, args := #[y], argTypes := #[t] }) (hy : evA st y = .rx k g wd lo len cap) (ht : P.underlying t = some (.slice e)) :
    OpOK P w0 own o st (st.put o.dst (sc (.int .i64 cap))) :=
  op_pure hd rfl fun γ a w hR => by
    have hv := hR.ev y
    rw [hy] at hv
    generalize hev : a.eval y = v at hv
    cases hv with
    | rx _ _ _ _ _ _ b E n hg hβ hsh hcap hlc =>
      unfold execOp
      rw [ho]
      simp only [resolve, Sem.run_bind]
      have e3 : (#[y] : Array Operand).map a.eval = #[.slice (some ⟨b, lo * wd, none⟩) len cap] := by simp [hev]
      rw [e3]
      simp [Sem.run, invoke, builtin, Builtin.cap_, Sem.run_bind, run_under ht, goInt]

def evCap (P : Program) (x : X) (args : Array Operand) (tys : Array TypeId) (K : KO) : Prop :=
  match args.toList, tys.toList with
  | [y], [t] => match evA x.S y, elT P t with
    | .rx k g wd lo len cap, some e => K [] ⟨sc (.int .i64 cap), []⟩ x
    | _, _ => False
  | _, _ => False
theorem evCap_sound {args : Array Operand} {tys : Array TypeId} (ho : o.op = .call { callee := .builtin .cap, args := args, argTypes := tys }) : Sound P o x (evCap P x args tys) := fun K h hd => by
  unfold evCap at h
  split at h
  · rename_i y t hy ht
    have e1 : args = #[y] := by apply Array.ext'; rw [hy]
    have e2 : tys = #[t] := by apply Array.ext'; rw [ht]
    subst e1 e2
    split at h
    · rename_i k g wd lo len cap e hev he
      exact ⟨_, _, h, fun w0 own ops => .plain fun st' hal => op_cap (fits_alike hal hd) ho (by rw [hal.ev (x := y) (by rw [ho]; simp [Op.operands, Call.operands])]; exact hev) (elT_spec he)⟩
    · exact h.elim
  · exact h.elim

/-! ### a root's plain rows are written over in place -/
theorem Rel.rewrite (h : Rel w0 own γ st a w) {k : Nat} {R : Root} {b : Nat} {arr arr' : Array Value} {E : TypeId} {rows : List (List C)} (hst : st.store k = some R) (hβ : γ.β k R.tag = some b)
    (harr : w.heap[b]? = some (.cells arr E (0, 0))) (hs : arr'.size = arr.size) (hw : ∀ r ∈ rows, r.length = R.wd) (hl : rows.length * R.wd ≤ arr.size)
    (hc : ∀ i j r c, rows[i]? = some r → r[j]? = some c → CR γ w (arr'.getD (i * R.wd + j) undef) c ∧ c.flat = true) :
    Rel w0 own γ (st.set k { R with rows := rows }) a (w.setRow b arr') := by
  obtain ⟨qF, qP, qo⟩ := h.rootF k R b hst hβ
  have hG : ¬ γ.G b := fun hG => hG.elim qF fun ⟨k', i, j, hf⟩ => qP k' i j hf
  have hS : Same γ.G w (w.setRow b arr') := .setRow hG
  have hz : Shapes w (w.setRow b arr') := .setRow harr hs
  have hsto : ∀ k' R', (st.set k { R with rows := rows }).store k' = some R' → (k' = k ∧ R' = { R with rows := rows }) ∨ (k' ≠ k ∧ st.store k' = some R') := fun k' R' hs' => by
    simp only [St.set] at hs'
    split at hs'
    · cases hs'; exact .inl ⟨‹_›, rfl⟩
    · exact .inr ⟨‹_›, hs'⟩
  have hold : ∀ k' R', (st.set k { R with rows := rows }).store k' = some R' → ∃ R0, st.store k' = some R0 ∧ R0.tag = R'.tag := fun k' R' hs' => by
    rcases hsto k' R' hs' with ⟨rfl, rfl⟩ | ⟨_, h2⟩
    · exact ⟨R, hst, rfl⟩
    · exact ⟨R', h2, rfl⟩
  refine { env := ?_, size := h.size, defers := h.defers, tmps := fun i => (h.tmps i).mono γ.le_refl hS hz, gen := h.gen, tag := ?_, mem := ?_, inj := ?_, rootF := ?_, fpF := h.fpF, fpD := h.fpD, fs := h.fs, lt := fun c hc => by simpa using h.lt c hc, ltβ := fun k' g c hg hb => by simpa using h.ltβ k' g c hg hb }
  · exact ⟨h.env.os, h.env.tape, h.env.output, by simpa using h.env.size, fun c hc hn => by
      have hcb : c ≠ b := fun e => by subst e; rcases qo with q | q; exact hn q; omega
      rw [setRow_other _ _ _ _ hcb]; exact h.env.block c hc hn, fun b s e => hz b s (h.env.shapes b s e)⟩
  · intro k' R' hs'
    obtain ⟨R0, h1, h2⟩ := hold k' R' hs'
    rw [← h2]; exact h.tag k' R0 h1
  · intro k' R' hs'
    rcases hsto k' R' hs' with ⟨rfl, rfl⟩ | ⟨hne, h2⟩
    · unfold RootOK
      simp only [hβ]
      refine ⟨arr', E, setRow_heap _ _ _ _ _ _ harr, hw, by rw [hs]; exact hl, fun i j r c hr hcc => ?_⟩
      obtain ⟨g1, g2⟩ := hc i j r c hr hcc
      exact SR.of_CR (g1.mono γ.le_refl hS hz) g2
    · refine (h.mem k' R' h2).mono γ.le_refl hS hz (by rw [h.gen]; exact h.tag k' R' h2) (fun c hβ' => setRow_other _ _ _ _ fun e => hne (h.inj k' R' k R b h2 hst (e ▸ hβ') hβ)) (fun _ _ _ _ _ _ _ => Iff.rfl)
  · intro k1 R1 k2 R2 c h1 h2 h3 h4
    obtain ⟨R1', g1, e1⟩ := hold k1 R1 h1
    obtain ⟨R2', g2, e2⟩ := hold k2 R2 h2
    exact h.inj k1 R1' k2 R2' c g1 g2 (e1 ▸ h3) (e2 ▸ h4)
  · intro k1 R1 c h1 h3
    obtain ⟨R1', g1, e1⟩ := hold k1 R1 h1
    exact h.rootF k1 R1' c g1 (e1 ▸ h3)

theorem Laid.first {wd : Nat} {v : Value} {rows : List (List D)} {vs : Nat → Nat → Value} (h : Laid w wd v rows vs) (hw : 0 < wd) {c : Nat} (hc : c ≤ rows.length) : (Builtin.firstCells wd c v).run P w = .ok (news wd c vs).toArray w := by
  obtain ⟨A, cap, rfl, hcell⟩ := h.val
  cases A with
  | none =>
    have h0 : rows.length = 0 := by
      rcases Nat.eq_zero_or_pos rows.length with h0 | h0
      · exact h0
      · obtain ⟨b, off, e, _⟩ := hcell 0 0 h0 hw
        cases e
    have : c = 0 := by omega
    subst this
    simp [Builtin.firstCells, news]
  | some A =>
    have hl := run_loadCells_list (P := P) w A (news wd c vs) (fun q u hq => by
      have hlt := (List.getElem?_eq_some_iff.1 hq).1
      rw [news_length] at hlt
      obtain ⟨a1, a2, a3⟩ := news_split hw hlt
      have hg := news_get (vs := vs) a1 a2
      rw [a3, hq] at hg
      cases hg
      obtain ⟨b, off, e, hcell2⟩ := hcell _ _ (Nat.lt_of_lt_of_le a1 hc) a2
      cases e
      rw [addr_add]
      rw [a3] at hcell2
      exact hcell2)
    rw [news_length] at hl
    simpa [Builtin.firstCells] using hl
theorem Laid.news_one {wd : Nat} {v : Value} {rows : List (List D)} {vs : Nat → Nat → Value} (h : Laid w wd v rows vs) (hw : 0 < wd) {c : Nat} (hc : c ≤ rows.length) : ∀ u ∈ news wd c vs, u.oneCell' = true := fun u hu => by
  obtain ⟨q, hq⟩ := List.getElem?_of_mem hu
  have hlt := (List.getElem?_eq_some_iff.1 hq).1
  rw [news_length] at hlt
  obtain ⟨a1, a2, a3⟩ := news_split hw hlt
  have hg := news_get (vs := vs) a1 a2
  rw [a3, hq] at hg
  cases hg
  have hr := List.getElem?_eq_getElem (Nat.lt_of_lt_of_le a1 hc)
  have hrl := h.wid _ (List.getElem_mem (Nat.lt_of_lt_of_le a1 hc))
  obtain ⟨_, hp⟩ := h.get (q / wd) (q % wd) _ _ hr (List.getElem?_eq_getElem (by omega))
  exact plain_one hp
theorem Laid.lenOf {wd : Nat} {v : Value} {rows : List (List D)} {vs : Nat → Nat → Value} (h : Laid w wd v rows vs) (w' : World) : (Builtin.lenOf v).run P w' = .ok rows.length w' := by
  obtain ⟨A, cap, rfl, _⟩ := h.val
  rfl

theorem run_copy_gen (dT sT ty e : TypeId) (i : TypeInfo) (b o dLen dCap : Nat) (x : Value) (n : Nat) (nw : List Value) {arr : Array Value} {E : TypeId} (hu : P.underlying dT = some (.slice e)) (hi : P.info? e = some i)
    (hlen : (Builtin.lenOf x).run P w = .ok n w) (hcells : (Builtin.firstCells i.size (Nat.min n dLen) x).run P w = .ok nw.toArray w) (h1 : ∀ v ∈ nw, v.oneCell' = true) (harr : w.heap[b]? = some (.cells arr E (0, 0))) (hfit : o + nw.length ≤ arr.size) :
    (Builtin.copy_ #[dT, sT] ty #[.slice (some ⟨b, o, none⟩) dLen dCap, x]).run P w = .ok (goInt (Nat.min n dLen)) (w.setRow b (poke arr o nw)) := by
  have hst := run_storeCells_at P b o E nw 0 arr w harr (by simpa using hfit) h1
  simp only [Nat.add_zero] at hst
  have hst' : (storeCells ⟨b, o, none⟩ nw).run P w = .ok () (w.setRow b (poke arr o nw)) := hst
  simp [Builtin.copy_, run_underlying hu, hlen, hcells, Go.sizeOf, typeInfo, hi, hst']
theorem run_copy_empty (dT sT ty e : TypeId) (i : TypeInfo) (A : Option Addr) (dCap : Nat) (x : Value) (n : Nat) (hu : P.underlying dT = some (.slice e)) (hi : P.info? e = some i)
    (hlen : (Builtin.lenOf x).run P w = .ok n w) (hcells : (Builtin.firstCells i.size 0 x).run P w = .ok #[] w) :
    (Builtin.copy_ #[dT, sT] ty #[.slice A 0 dCap, x]).run P w = .ok (goInt 0) w := by
  cases A <;> simp [Builtin.copy_, run_underlying hu, hlen, hcells, Go.sizeOf, typeInfo, hi, storeCells]

def overR (rows : List (List C)) (lo : Nat) (nr : List (List D)) : List (List C) := rows.take lo ++ emb nr ++ rows.drop (lo + nr.length)

theorem overR_get {rows : List (List C)} {lo : Nat} {nr : List (List D)} (hlo : lo ≤ rows.length) {i : Nat} {r : List C} (h : (overR rows lo nr)[i]? = some r) :
    ((i < lo ∨ lo + nr.length ≤ i) ∧ rows[i]? = some r) ∨ (lo ≤ i ∧ i < lo + nr.length ∧ ∃ r0, nr[i - lo]? = some r0 ∧ r = r0.map C.d) := by
  have htl : (rows.take lo).length = lo := by simp; omega
  have hel : (rows.take lo ++ emb nr).length = lo + nr.length := by rw [List.length_append, htl, emb_len]
  unfold overR at h
  by_cases h1 : i < lo
  · left
    rw [List.getElem?_append_left (by omega), List.getElem?_append_left (by omega), List.getElem?_take, if_pos h1] at h
    exact ⟨.inl h1, h⟩
  · by_cases h2 : i < lo + nr.length
    · right
      rw [List.getElem?_append_left (by omega), List.getElem?_append_right (by omega), htl] at h
      simp only [emb, List.getElem?_map] at h
      obtain ⟨r0, h0, rfl⟩ := Option.map_eq_some_iff.1 h
      exact ⟨by omega, h2, r0, h0, rfl⟩
    · left
      rw [List.getElem?_append_right (by omega), hel, List.getElem?_drop] at h
      have : lo + nr.length + (i - (lo + nr.length)) = i := by omega
      rw [this] at h
      exact ⟨.inr (by omega), h⟩
theorem overR_len {rows : List (List C)} {lo : Nat} {nr : List (List D)} (hlo : lo ≤ rows.length) : (overR rows lo nr).length = max rows.length (lo + nr.length) := by
  simp only [overR, List.length_append, emb_len, List.length_take, List.length_drop]; omega

theorem op_copy {y z : Operand} {dT sT e : TypeId} {i : TypeInfo} {k g wd lo len kn : Nat} {R : Root} {nr : List (List D)} {n0 : Nat} (hd : st.fits o.dst = true) (ho : o.op = .call { callee := .builtin .copy, args := #[y, z], argTypes := #[dT, sT] })
    (hy : (evA st y).wk = .c (.rs k g wd lo len kn)) (hk : st.store k = some R) (hg : R.tag = g) (hw : R.wd = wd) (hlo : lo ≤ R.rows.length) (hpl : plainR R) (ht : P.underlying dT = some (.slice e)) (hi : P.info? e = some i) (hsz : i.size = wd) (h0 : 0 < wd)
    (hu : ∀ γ a w, Rel w0 own γ st a w → ∃ vs A cap m, a.eval z = .slice A n0 cap ∧ Laid w wd (.slice A m cap) nr vs) (hcn0 : Nat.min n0 len ≤ nr.length) :
    OpOK P w0 own o st ((st.set k { R with rows := overR R.rows lo (nr.take (Nat.min n0 len)) }).put o.dst (sc (.int .i64 (Nat.min n0 len : Nat)))) :=
  .value (by cases h : o.dst <;> simp_all [St.fits, St.set]) fun γ a w hR => by
    subst hg
    subst hsz
    have hv := (hR.ev y).wk
    rw [hy] at hv
    obtain ⟨vs, A1, cap1, m1, hz1, hL⟩ := hu γ a w hR
    have hmn : Nat.min n0 len ≤ nr.length := hcn0
    have hml : Nat.min n0 len ≤ len := Nat.min_le_right _ _
    have hlen1 : (Builtin.lenOf (a.eval z)).run P w = .ok n0 w := by rw [hz1]; rfl
    have hfc : ∀ c, (Builtin.firstCells i.size c (a.eval z)).run P w = (Builtin.firstCells i.size c (.slice A1 m1 cap1)).run P w := fun c => by rw [hz1]; cases A1 <;> rfl
    generalize hcn : Nat.min n0 len = cn at *
    have hnl := news_length i.size cn vs
    have hcl : (nr.take cn).length = cn := by simp; omega
    have ex : ∀ v' w', (Builtin.copy_ #[dT, sT] o.type #[a.eval y, a.eval z]).run P w = .ok v' w' → (execOp a.eval o).run P w = .ok (.value v') w' := fun v' w' h1 => by
      unfold execOp
      rw [ho]
      simp only [resolve, Sem.run_bind]
      have e3 : (#[y, z] : Array Operand).map a.eval = #[a.eval y, a.eval z] := by simp
      rw [e3]
      simp only [Sem.run_pure, Result.andThen_ok, invoke, builtin, Sem.run_bind, h1]
    have hm := hR.mem k R hk
    unfold RootOK at hm
    rcases hv.rs_inv with ⟨cap, b, E, n, ev, hβ, hg, hsh, hcap, hlc, hkn⟩ | ⟨⟨A, ev⟩, e1, e2, e3, hβ, hg⟩
    · rw [hβ] at hm
      obtain ⟨arr, E', harr, hwd, hsz2, hcell⟩ := hm
      rw [hw] at hwd hsz2 hcell
      have hn : n = arr.size := by simp [World.shape?, harr] at hsh; exact hsh.2.symm
      subst hn
      have hfit : lo * i.size + (news i.size cn vs).length ≤ arr.size := by
        rw [hnl, ← Nat.add_mul]
        exact Nat.le_trans (Nat.mul_le_mul_right _ (by omega)) hcap
      have hrun := run_copy_gen (P := P) (w := w) dT sT o.type e i b (lo * i.size) len cap (a.eval z) n0 (news i.size cn vs) ht hi hlen1 (by rw [hcn, hfc]; exact hL.first h0 hmn) (hL.news_one h0 hmn) harr hfit
      rw [← ev, hcn] at hrun
      refine ⟨γ, _, _, ex _ _ hrun, γ.le_refl, ?_, AR.sc_mk rfl⟩
      refine hR.rewrite hk hβ harr (poke_size _ _ _ hfit) (fun r hr => ?_) ?_ fun i' j r c hr hc => ?_
      · rw [hw]
        obtain ⟨i', hi'⟩ := List.getElem?_of_mem hr
        rcases overR_get hlo hi' with ⟨_, h2⟩ | ⟨_, _, r0, h2, rfl⟩
        · exact hwd r (List.mem_of_getElem? h2)
        · have := hL.wid r0 (List.mem_of_mem_take (List.mem_of_getElem? h2))
          simpa using this
      · rw [overR_len hlo, hw, hcl]
        rcases Nat.le_total R.rows.length (lo + cn) with h | h
        · rw [Nat.max_eq_right h]
          exact Nat.le_trans (Nat.mul_le_mul_right _ (by omega)) hcap
        · rw [Nat.max_eq_left h]; exact hsz2
      · rw [hw, poke_get _ _ _ hfit]
        rcases overR_get hlo hr with ⟨hor, h2⟩ | ⟨hge, hlt, r0, h2, rfl⟩
        · rw [hcl] at hor
          have hjl : j < i.size := by have := (List.getElem?_eq_some_iff.1 hc).1; rw [hwd r (List.mem_of_getElem? h2)] at this; exact this
          rw [if_neg (by
            rw [hnl]
            rintro ⟨q1, q2⟩
            rcases hor with hor | hor
            · have := row_lt hor hjl; omega
            · have : (lo + cn) * i.size ≤ i' * i.size := Nat.mul_le_mul_right _ hor
              rw [Nat.add_mul] at this; omega)]
          obtain ⟨v, rfl⟩ := hpl r (List.mem_of_getElem? h2) c (List.mem_of_getElem? hc)
          exact ⟨(show CR γ w _ (.d (.v v)) from hcell i' j r _ h2 hc), rfl⟩
        · rw [hcl] at hlt
          rw [List.getElem?_map] at hc
          obtain ⟨d, hd', rfl⟩ := Option.map_eq_some_iff.1 hc
          rw [List.getElem?_take, if_pos (by omega)] at h2
          have hjl : j < i.size := by have := (List.getElem?_eq_some_iff.1 hd').1; rw [hL.wid r0 (List.mem_of_getElem? h2)] at this; exact this
          obtain ⟨rfl, hp⟩ := hL.get _ _ _ _ h2 hd'
          have eq : i' * i.size + j = lo * i.size + ((i' - lo) * i.size + j) := by
            have : i' = lo + (i' - lo) := by omega
            rw [this, Nat.add_mul]; simp; omega
          have hq2 : (i' - lo) * i.size + j < cn * i.size := row_lt (by omega) hjl
          rw [if_pos (by rw [hnl]; omega)]
          have eg : (news i.size cn vs).getD (i' * i.size + j - lo * i.size) undef = vs (i' - lo) j := by
            have : i' * i.size + j - lo * i.size = (i' - lo) * i.size + j := by omega
            rw [List.getD_eq_getElem?_getD, this, news_get (by omega) hjl]; rfl
          rw [eg]
          exact ⟨.d _ _ (.v _ hp), rfl⟩
    · subst e1 e2 e3
      have hc0 : cn = 0 := by omega
      subst hc0
      rw [hβ] at hm
      simp only at hm
      have hrun := run_copy_empty (P := P) (w := w) dT sT o.type e i A 0 (a.eval z) n0 ht hi hlen1 (by rw [hfc]; have := hL.first (P := P) h0 (c := 0) (Nat.zero_le _); simpa [news] using this)
      rw [← ev] at hrun
      refine ⟨γ, _, _, ex _ _ hrun, γ.le_refl, ?_, AR.sc_mk rfl⟩
      have : st.set k { R with rows := overR R.rows 0 (nr.take 0) } = st := by
        have e : ({ R with rows := overR R.rows 0 (nr.take 0) } : Root) = R := by simp [overR, emb]
        rw [e]
        simp only [St.set]
        congr 1
        funext j
        split
        · rename_i hj; subst hj; exact hk.symm
        · rfl
      rw [this]; exact hR

def shortA (y : A) (c : Nat) : A := match y with | .c (.rs k g wd lo _ kn) => .c (.rs k g wd lo c kn) | y => y
theorem shortA_src (hR : Rel w0 own γ st a w) {wd n c : Nat} {y : A} {v : Value} {nr : List (List D)} (hv : AR γ w v y) (hn : lenA y = some n) (hc : c ≤ n) (h : srcD st wd (shortA y c) = some nr) : ∃ vs A cap m, v = .slice A n cap ∧ Laid w wd (.slice A m cap) nr vs := by
  unfold shortA at h
  split at h
  · rename_i k g wd' lo len kn
    have hn : len = n := by simpa [lenA] using hn
    subst hn
    rcases hv.rs_inv with ⟨cap, b, E, n', ev, hβ, hg, hsh, hcap, hlc, hkn⟩ | ⟨⟨A, ev⟩, e1, e2, e3, hβ, hg⟩
    · obtain ⟨vs, hL⟩ := srcD_spec hR (v := .slice (some ⟨b, lo * wd', none⟩) c cap) (.c _ _ (.rs k g wd' lo c kn cap b E n' hg hβ hsh hcap (by omega) hkn)) h
      exact ⟨vs, _, cap, c, ev, hL⟩
    · subst e1 e2 e3
      have : c = 0 := by omega
      subst this
      obtain ⟨vs, hL⟩ := srcD_spec hR (v := .slice A 0 0) (.c _ _ (.rn A k g wd' hg hβ)) h
      exact ⟨vs, A, 0, 0, ev, hL⟩
  · obtain ⟨vs, hL⟩ := srcD_spec hR hv h
    obtain ⟨b, cap, e⟩ := hv.sliceLen (n := n) (by
      unfold lenA at hn
      split at hn
      · cases hn; exact .inl ⟨_, _, _, _, _, rfl⟩
      · cases hn; exact .inr (.inl ⟨_, _, _, _, rfl, rfl⟩)
      · cases hn; exact .inr (.inr ⟨rfl, rfl⟩)
      · cases hn)
    rw [e] at hL
    exact ⟨vs, b, cap, n, e, hL⟩
def evCopy (P : Program) (x : X) (args : Array Operand) (tys : Array TypeId) (K : KO) : Prop :=
  match args.toList, tys.toList with
  | [y, z], [t, _] => match elT P t with
    | some e => match sizesT P e with
      | some (0, _) => False
      | some (wd + 1, bytes) => match (evA x.S y).wk, lenA (evA x.S z).wk with
        | .c (.rs k g wd' lo len kn), some n => match lookN x.store k with
          | some (.sl tg wd2 rows) => match Nat.beq tg g && (Nat.beq wd2 (wd + 1) && Nat.beq wd' (wd + 1)) with
            | true => ∀ c : Nat, Nat.min n len = c → srcX x (wd + 1) (shortA (evA x.S z).wk c) fun Ks nr => cond (decide (lo ≤ rows.length) && (allV rows && decide (c ≤ nr.length)))
                (∀ (rs : List (List D)), rows.take lo ++ (nr.take c ++ rows.drop (lo + (nr.take c).length)) = rs → K (k :: Ks) ⟨sc (.int .i64 c), [(k, some (.sl tg (wd + 1) rs), x.gen k)]⟩ x) False
            | false => False
          | _ => False
        | _, _ => False
      | none => False
    | none => False
  | _, _ => False

theorem plainR_of {tg wd : Nat} {rows : List (List D)} (h : allV rows = true) : plainR (XRoot.sl tg wd rows).root := by
  intro r hr c hc
  obtain ⟨r0, h0, rfl⟩ := List.mem_map.1 hr
  obtain ⟨d, hd, rfl⟩ := List.mem_map.1 hc
  have := List.all_eq_true.1 (List.all_eq_true.1 h r0 h0) d hd
  cases d <;> simp [D.isV] at this
  exact ⟨_, rfl⟩

theorem evCopy_sound {args : Array Operand} {tys : Array TypeId} (ho : o.op = .call { callee := .builtin .copy, args := args, argTypes := tys }) : Sound P o x (evCopy P x args tys) := fun K h hd => by
  unfold evCopy at h
  split at h
  · rename_i y z t tx hy ht
    have e1 : args = #[y, z] := by apply Array.ext'; rw [hy]
    have e2 : tys = #[t, tx] := by apply Array.ext'; rw [ht]
    subst e1 e2
    split at h
    · rename_i e het
      have het := elT_spec het
      split at h
      · exact h.elim
      · rename_i wd bytes hst
        obtain ⟨i, zv, i1, i2, i3, i4, i5⟩ := sizesT_spec hst
        have hopy : y ∈ o.op.operands.toList := by rw [ho]; simp [Op.operands, Call.operands]
        have hopz : z ∈ o.op.operands.toList := by rw [ho]; simp [Op.operands, Call.operands]
        split at h
        · rename_i k g wd' lo len kn n hey hen
          split at h
          · rename_i tg wd2 rows hk
            split at h
            · rename_i hc
              simp only [Bool.and_eq_true] at hc
              obtain ⟨c1, c2, c3⟩ := hc
              have c1 := beq_true c1
              have c2 := beq_true c2
              have c3 := beq_true c3
              subst c1 c2 c3
              obtain ⟨Ks, nr, h, hsrc⟩ := srcX_spec (h _ rfl)
              obtain ⟨h1, h2⟩ := cond_P h
              simp only [Bool.and_eq_true, decide_eq_true_eq] at h1
              refine ⟨_, _, h2 _ rfl, fun w0 own ops => ⟨rfl, by simp [XP.patch, toU, keysU], fun st' hal => ?_⟩⟩
              have hst' : st'.store k = some (XRoot.sl tg (wd + 1) rows).root := (hal.store k (by simp)).trans (lookN_S hk)
              have := op_copy (P := P) (w0 := w0) (own := own) (st := st') (n0 := n) (fits_alike hal hd) ho (by rw [hal.ev hopy]; exact hey) hst' rfl rfl (by simpa [XRoot.root, emb_len] using h1.1) (plainR_of h1.2.1) het i1 i2 (Nat.succ_pos _) (nr := nr)
                (fun γ a w hR => by
                  have hv := (hR.ev z).wk
                  rw [hal.ev hopz] at hv
                  exact shortA_src hR hv hen (Nat.min_le_left _ _) (hsrc st' fun q hq => hal.store q (List.mem_cons_of_mem _ hq))) h1.2.2
              rw [set_patch, hal.gen k (by simp)] at this
              have e9 : ({ (XRoot.sl tg (wd + 1) rows).root with rows := overR (XRoot.sl tg (wd + 1) rows).root.rows lo (nr.take (Nat.min n len)) } : Root) = (XRoot.sl tg (wd + 1) (rows.take lo ++ (nr.take (Nat.min n len) ++ rows.drop (lo + (nr.take (Nat.min n len)).length)))).root := by
                simp only [XRoot.root, overR]
                congr 1
                simp [emb, List.map_take, List.map_drop]
              rw [e9] at this
              exact this
            · exact h.elim
          · exact h.elim
        · exact h.elim
      · exact h.elim
    · exact h.elim
  · exact h.elim

/-! ### append(s, make([]T, n)...), where it grows: a new root -/
theorem op_appendZ {y z : Operand} {t tn e : TypeId} {i : TypeInfo} {zv : Value} {zs : List Value} {kn kq : IntKind} {k g wd lo len cap q : Nat} {nr : List (List D)} (k2 : Nat) (hd : st.fits o.dst = true) (ho : o.op = .call { callee := .builtin .append, args := #[y, z], argTypes := #[t, tn] })
    (hy : evA st y = .rx k g wd lo len cap) (hu : srcD st wd (evA st y).wk = some nr) (ht : P.underlying t = some (.slice e)) (htn : P.underlying tn = some (.int kn)) (hi : P.info? e = some i) (hsz : i.size = wd) (h0 : 0 < wd) (hz : i.zero = some zv) (hzs : zv.cells.toList = zs) (hzl : zs.length = wd) (hzp : zs.all plain = true)
    (hq : evA st z = sc (.int kq q)) (h1 : 0 < q) (hc : cap < len + q) (hb : (len + q) * i.bytes ≤ 140737488355328) (h63 : len + q ≤ 9223372036854775807) :
    OpOK P w0 own o st ((st.root k2 false wd (emb (nr ++ List.replicate q (zs.map D.v)))).put o.dst (.c (.rs k2 (st.gen k2 + 1) wd 0 (len + q) (len + q)))) :=
  .value (by cases h : o.dst <;> simp_all [St.fits, St.root]) fun γ a w hR => by
    subst hsz
    have hv := hR.ev y
    obtain ⟨vs, hL⟩ := srcD_spec hR hv.wk hu
    rw [hy] at hv
    generalize hev : a.eval y = v at hv hL
    cases hv with
    | rx _ _ _ _ _ _ b E n hg hβ hsh hcap hlc =>
    obtain ⟨A0, cap0, hA, hcl⟩ := hL.val
    have hlen : nr.length = len := by cases hA; rfl
    have hLd : Laid w.drew i.size (.slice (some ⟨b, lo * i.size, none⟩) len cap) nr vs := ⟨hL.val, hL.wid, hL.get⟩
    have hzc : zv.cells.size = i.size := by rw [← Array.length_toList, hzs, hzl]
    have hqv : a.eval z = .int kq q := by
      have := hR.ev z
      rw [hq] at this
      exact (AR.sc_inv this).1
    have hrun := Go.Lib.run_append_grow_zeros (P := P) w t tn o.type e i zv kq kn ht htn hi hz (some ⟨b, lo * i.size, none⟩) len cap (news i.size len vs) (hLd.first h0 (by omega)) q h1 h0 hc (by omega) (by
        have : q * i.bytes ≤ (len + q) * i.bytes := Nat.mul_le_mul_right _ (by omega)
        omega) (growslice_fits hc hb)
    have hge := grownCap_ge w (len + q) cap e
    generalize hgc : grownCap w (len + q) cap e = gc at hrun hge
    have hD := hR.drew
    have hol := news_length i.size len vs
    generalize harr2 : ((news i.size len vs).toArray ++ Builtin.zeroCells zv.cells q ++ Builtin.zeroCells zv.cells (gc - (len + q))) = arr2 at hrun
    have hs2 : arr2.size = gc * i.size := by
      rw [← harr2, Array.size_append, Array.size_append, List.size_toArray, hol, size_zeroCells, size_zeroCells, hzc, ← Nat.add_mul, ← Nat.add_mul]
      congr 1; omega
    have hrl : (emb (nr ++ List.replicate q (zs.map D.v))).length = len + q := by rw [emb_len]; simp [hlen]
    refine ⟨γ.fresh k2 (some w.heap.size), w.drew.alloc (.cells arr2 e), .slice (some ⟨w.heap.size, 0, none⟩) (len + q) gc, ?_, γ.fresh_le k2 (some w.heap.size), hD.alloc k2 false i.size _ arr2 e ?_ ?_ ?_, ?_⟩
    · unfold execOp
      rw [ho]
      simp only [resolve, Sem.run_bind]
      have e3 : (#[y, z] : Array Operand).map a.eval = #[.slice (some ⟨b, lo * i.size, none⟩) len cap, .int kq q] := by simp [hev, hqv]
      rw [e3]
      simp only [Sem.run_pure, Result.andThen_ok, invoke, builtin, Sem.run_bind, hrun]
    · intro r hr
      obtain ⟨r0, h0', rfl⟩ := List.mem_map.1 hr
      rcases List.mem_append.1 h0' with h | h
      · simpa using hL.wid r0 h
      · have := (List.mem_replicate.1 h).2
        subst this
        simpa using hzl
    · rw [hrl, hs2]; exact Nat.mul_le_mul_right _ hge
    · intro i' j r c hr hcc
      simp only [emb, List.getElem?_map] at hr
      obtain ⟨r0, hr0, rfl⟩ := Option.map_eq_some_iff.1 hr
      rw [List.getElem?_map] at hcc
      obtain ⟨d, hd', rfl⟩ := Option.map_eq_some_iff.1 hcc
      by_cases hil : i' < len
      · rw [List.getElem?_append_left (by omega)] at hr0
        have hjl : j < i.size := by have := (List.getElem?_eq_some_iff.1 hd').1; rw [hL.wid r0 (List.mem_of_getElem? hr0)] at this; exact this
        obtain ⟨rfl, hp⟩ := hL.get _ _ _ _ hr0 hd'
        have hqq : i' * i.size + j < len * i.size := row_lt hil hjl
        have eg : arr2.getD (i' * i.size + j) undef = vs i' j := by
          rw [← harr2, Array.append_assoc, Array.getD_eq_getD_getElem?, Array.getElem?_append_left (by simpa [hol] using hqq), List.getElem?_toArray, news_get hil hjl]; rfl
        rw [eg]
        exact ⟨.d _ _ (.v _ hp), rfl⟩
      · rw [List.getElem?_append_right (by omega), hlen] at hr0
        have hlt := (List.getElem?_eq_some_iff.1 hr0).1
        rw [List.length_replicate] at hlt
        rw [List.getElem?_replicate, if_pos hlt] at hr0
        cases hr0
        rw [List.getElem?_map] at hd'
        obtain ⟨u, hu', rfl⟩ := Option.map_eq_some_iff.1 hd'
        have hjl : j < i.size := by have := (List.getElem?_eq_some_iff.1 hu').1; omega
        have eq : i' * i.size + j = len * i.size + ((i' - len) * i.size + j) := by
          have : i' = len + (i' - len) := by omega
          rw [this, Nat.add_mul]; simp; omega
        have hq2 : (i' - len) * i.size + j < q * i.size := row_lt hlt hjl
        have hmod : ((i' - len) * i.size + j) % i.size = j := by
          rw [Nat.mul_comm, Nat.mul_add_mod]; exact Nat.mod_eq_of_lt hjl
        have eg : arr2.getD (i' * i.size + j) undef = u := by
          rw [← harr2, Array.getD_eq_getD_getElem?, Array.getElem?_append_left (by rw [Array.size_append, List.size_toArray, hol, size_zeroCells, hzc]; omega), Array.getElem?_append_right (by simp [hol]; omega)]
          have e5 : i' * i.size + j - (news i.size len vs).toArray.size = (i' - len) * i.size + j := by simp [hol]; omega
          rw [e5]
          have hsz3 : (i' - len) * i.size + j < (Builtin.zeroCells zv.cells q).size := by rw [size_zeroCells, hzc]; exact hq2
          rw [Array.getElem?_eq_getElem hsz3, Option.getD_some]
          simp only [Builtin.zeroCells, Array.getElem_map, Array.getElem_range, hzc, hmod]
          have e6 : zv.cells[j]? = some u := by rw [← Array.getElem?_toList, hzs]; exact hu'
          rw [Array.getElem!_eq_getD, Array.getD_eq_getD_getElem?, e6]; rfl
        rw [eg]
        have hpu := List.all_eq_true.1 hzp u (List.mem_of_getElem? hu')
        exact ⟨.d _ _ (.v _ hpu), rfl⟩
    · have hgk : γ.gen k2 = st.gen k2 := congrFun hR.gen k2
      have := CR.rs (γ := γ.fresh k2 (some w.heap.size)) (w := w.drew.alloc (.cells arr2 e)) k2 (st.gen k2 + 1) i.size 0 (len + q) (len + q) gc w.heap.size e arr2.size (by rw [Gh.fresh_gen, hgk]; exact Nat.le_refl _) (by rw [← hgk, Gh.fresh_new])
        (by simp only [World.shape?]; rw [show (w.drew.alloc (.cells arr2 e)).heap[w.heap.size]? = some (.cells arr2 e (0, 0)) from heap_alloc_new w.drew _]) (by rw [hs2]; simp) hge hge
      exact .c _ _ (by simpa using this)

def isIntT (P : Program) (t : TypeId) : Bool := match P.underlying t with | some (.int _) => true | _ => false
def evAppendZ (P : Program) (o : Oper) (x : X) (args : Array Operand) (tys : Array TypeId) (K : KO) : Prop :=
  match args.toList, tys.toList with
  | [y, z], [t, _] => match elT P t with
    | some e => match sizesT P e, zeroT P e with
      | some (wd + 1, bytes), some zs => match zs.all plain && Nat.beq zs.length (wd + 1) with
        | true => match evA x.S y, evA x.S z with
          | .rx k g wd' lo len cap, .c (.d (.v (.int _ q))) => match Nat.beq wd' (wd + 1) with
            | true => srcX x (wd + 1) (A.rx k g wd' lo len cap).wk fun Ks nr =>
                cond (decide (1 ≤ q) && (decide (cap < len + q.toNat) && (decide ((len + q.toNat) * bytes ≤ 140737488355328) && decide (len + q.toNat ≤ 9223372036854775807))))
                  (∀ (n : Nat) (rs : List (List D)), len + q.toNat = n → nr ++ List.replicate q.toNat (zs.map D.v) = rs → K (x.freeO o :: Ks) ⟨.c (.rs (x.freeO o) (x.gen (x.freeO o) + 1) (wd + 1) 0 n n), [(x.freeO o, some (.sl (x.gen (x.freeO o) + 1) (wd + 1) rs), x.gen (x.freeO o) + 1)]⟩ x) False
            | false => False
          | _, _ => False
        | false => False
      | _, _ => False
    | none => False
  | _, _ => False
def evAppends (P : Program) (o : Oper) (x : X) (args : Array Operand) (tys : Array TypeId) (K : KO) : Prop :=
  match tys.toList with
  | [_, tn] => match isIntT P tn with | true => evAppendZ P o x args tys K | false => evAppend P o x args tys K
  | _ => False

theorem zeroT_of {e : TypeId} {zs : List Value} {i : TypeInfo} {zv : Value} (h : zeroT P e = some zs) (hi : P.info? e = some i) (hz : i.zero = some zv) : zv.cells.toList = zs := by
  simp [zeroT, hi, hz] at h; exact h

theorem evAppends_sound {args : Array Operand} {tys : Array TypeId} (ho : o.op = .call { callee := .builtin .append, args := args, argTypes := tys }) : Sound P o x (evAppends P o x args tys) := fun K h hd => by
  unfold evAppends at h
  split at h
  · rename_i t0 tn hty
    split at h
    · rename_i htn
      unfold evAppendZ at h
      split at h
      · rename_i y z t tx hy ht
        have e1 : args = #[y, z] := by apply Array.ext'; rw [hy]
        have e2 : tys = #[t, tx] := by apply Array.ext'; rw [ht]
        rw [ht] at hty
        cases hty
        subst e1 e2
        obtain ⟨kn, htn⟩ : ∃ kn, P.underlying tn = some (.int kn) := by
          unfold isIntT at htn
          split at htn
          · exact ⟨_, ‹_›⟩
          · cases htn
        split at h
        · rename_i e het
          have het := elT_spec het
          split at h
          · rename_i wd bytes zs hst hzt
            obtain ⟨i, zv, i1, i2, i3, i4, i5⟩ := sizesT_spec hst
            split at h
            · rename_i hzp
              simp only [Bool.and_eq_true] at hzp
              obtain ⟨z1, z2⟩ := hzp
              have z2 := beq_true z2
              split at h
              · rename_i k g wd' lo len cap kq q hey hez
                split at h
                · rename_i hwd
                  have hwd := beq_true hwd
                  subst hwd
                  obtain ⟨Ks, nr, h, hsrc⟩ := srcX_spec h
                  obtain ⟨hc, h⟩ := cond_P h
                  simp only [Bool.and_eq_true, decide_eq_true_eq] at hc
                  obtain ⟨c1, c2, c3, c4⟩ := hc
                  have hopy : y ∈ o.op.operands.toList := by rw [ho]; simp [Op.operands, Call.operands]
                  have hopz : z ∈ o.op.operands.toList := by rw [ho]; simp [Op.operands, Call.operands]
                  refine ⟨_, _, h _ _ rfl rfl, fun w0 own ops => .many (by simp) fun st' hal => ?_⟩
                  have := op_appendZ (P := P) (w0 := w0) (own := own) (st := st') (q := q.toNat) (kq := kq) (nr := nr) (x.freeO o) (fits_alike hal hd) ho (by rw [hal.ev hopy]; exact hey)
                    (by rw [hal.ev hopy, hey]; exact hsrc st' fun q hq => hal.store q (List.mem_cons_of_mem _ hq)) het htn i1 i2 (Nat.succ_pos _) i4 (zeroT_of hzt i1 i4) z2 z1
                    (by rw [hal.ev hopz, hez]; simp only [sc]; congr 4; omega) (by omega) c2 (by rw [i3]; exact c3) c4
                  rw [root_patch, hal.gen _ (by simp)] at this
                  exact this
                · exact h.elim
              · exact h.elim
            · exact h.elim
          · exact h.elim
        · exact h.elim
      · exact h.elim
    · exact evAppend_sound ho K h hd
  · exact h.elim

/-! ### two slices over unlike roots do not overlap -/
def OverOK (P : Program) (f : FuncId) : Prop := ∃ (tS tR e : TypeId) (size : Nat), P.underlying tS = some (.slice e) ∧ (∀ w, (Go.sizeOf e).run P w = .ok size w) ∧ ∀ args w, (callFunc f args).run P w = ((Extern.SlicesOverlaps.overlaps #[tS, tS] #[tR] args).run P w).andThen fun v w' => .ok (.value v) w'

theorem op_over {f : FuncId} {y z : Operand} {tys : Array TypeId} {k1 g1 wd1 lo1 len1 kn1 k2 g2 wd2 lo2 len2 kn2 : Nat} {R1 R2 : Root} (hd : st.fits o.dst = true) (ho : o.op = .call { callee := .value (.func f), args := #[y, z], argTypes := tys }) (hf : OverOK P f)
    (hy : (evA st y).wk = .c (.rs k1 g1 wd1 lo1 len1 kn1)) (hz : (evA st z).wk = .c (.rs k2 g2 wd2 lo2 len2 kn2)) (hk1 : st.store k1 = some R1) (hg1 : R1.tag = g1) (hk2 : st.store k2 = some R2) (hg2 : R2.tag = g2) (hne : k1 ≠ k2) (hl1 : 0 < len1) (hl : 0 < len2) (hw : 0 < wd2) :
    OpOK P w0 own o st (st.put o.dst (sc (.bool false))) :=
  op_pure hd rfl fun γ a w hR => by
    subst hg1 hg2
    obtain ⟨tS, tR, e, size, o1, o2, o3⟩ := hf
    have hv := (hR.ev y).wk
    rw [hy] at hv
    have hu := (hR.ev z).wk
    rw [hz] at hu
    have key : (Extern.SlicesOverlaps.overlaps #[tS, tS] #[tR] #[a.eval y, a.eval z]).run P w = .ok (.bool false) w := by
      rcases hu.rs_inv with ⟨cap, b, E, n, ev, hβ, hg, hsh, hcap, hlc, hkn⟩ | ⟨_, _, h0, _⟩
      · rcases hv.rs_inv with ⟨cap1, b1, E1, n1, ev1, hβ1, hg1, hsh1, hcap1, hlc1, hkn1⟩ | ⟨⟨A, ev1⟩, _, h0, _⟩
        · rw [ev, ev1]
          have hb : b1 ≠ b := fun hb => hne (hR.inj _ _ _ _ b hk1 hk2 (hb ▸ hβ1) hβ)
          have hm1 := hR.mem k1 R1 hk1
          unfold RootOK at hm1
          rw [hβ1] at hm1
          obtain ⟨arr, E', harr, _⟩ := hm1
          have hpos : n ≠ 0 := by
            have : 1 * 1 ≤ (lo2 + cap) * wd2 := Nat.mul_le_mul (by omega) hw
            omega
          exact Go.Lib.run_overlaps_apart w tS tR e o1 size o2 ⟨b1, lo1 * wd1, none⟩ ⟨b, lo2 * wd2, none⟩ len1 cap1 len2 cap hb E1 E n1 n hsh1 hsh hpos (by simp [World.frozen?, harr]) (by simp [World.frozen?, harr])
        · omega
      · omega
    unfold execOp
    rw [ho]
    simp only [resolve, Act.eval, Deferred.ofValue, Sem.run_bind]
    have e3 : (#[y, z] : Array Operand).map a.eval = #[a.eval y, a.eval z] := by simp
    have hcf := o3 #[a.eval y, a.eval z] w
    rw [key] at hcf
    simp only [Result.andThen_ok] at hcf
    simp [Sem.run, invoke, hcf]

def evOver (P : Program) (x : X) (f : FuncId) (args : Array Operand) (K : KO) : Prop :=
  match args.toList with
  | [y, z] => match (evA x.S y).wk, (evA x.S z).wk with
    | .c (.rs k1 g1 _ _ len1 _), .c (.rs k2 g2 wd2 _ len2 _) => match lookN x.store k1, lookN x.store k2 with
      | some R1, some R2 => match Nat.beq R1.root.tag g1 && (Nat.beq R2.root.tag g2 && (Nat.ble 1 wd2 && !Nat.beq k1 k2)) with
        | true => cond (decide (1 ≤ len1) && decide (1 ≤ len2)) (OverOK P f ∧ K [k1, k2] ⟨sc (.bool false), []⟩ x) False
        | false => False
      | _, _ => False
    | _, _ => False
  | _ => False
theorem evOver_sound {f : FuncId} {args : Array Operand} {tys : Array TypeId} (ho : o.op = .call { callee := .value (.func f), args := args, argTypes := tys }) : Sound P o x (evOver P x f args) := fun K h hd => by
  unfold evOver at h
  split at h
  · rename_i y z hy
    have e1 : args = #[y, z] := by apply Array.ext'; rw [hy]
    subst e1
    have hopy : y ∈ o.op.operands.toList := by rw [ho]; simp [Op.operands, Call.operands]
    have hopz : z ∈ o.op.operands.toList := by rw [ho]; simp [Op.operands, Call.operands]
    split at h
    · rename_i k1 g1 wd1 lo1 len1 kn1 k2 g2 wd2 lo2 len2 kn2 hey hez
      split at h
      · rename_i R1 R2 hk1 hk2
        split at h
        · rename_i hc
          simp only [Bool.and_eq_true, Bool.not_eq_true'] at hc
          obtain ⟨c1, c2, c3, c4⟩ := hc
          have c1 := beq_true c1
          have c2 := beq_true c2
          have c3 := Nat.le_of_ble_eq_true c3
          have c4 := beq_false c4
          obtain ⟨hl, hf, h⟩ := cond_P h
          simp only [Bool.and_eq_true, decide_eq_true_eq] at hl
          exact ⟨_, _, h, fun w0 own ops => .reads fun st' hal => op_over (fits_alike hal hd) ho hf (by rw [hal.ev hopy]; exact hey) (by rw [hal.ev hopz]; exact hez) ((hal.store k1 (by simp)).trans (lookN_S hk1)) c1 ((hal.store k2 (by simp)).trans (lookN_S hk2)) c2 c4 hl.1 hl.2 c3⟩
        · exact h.elim
      · exact h.elim
    · exact h.elim
  · exact h.elim
end
end Vm
