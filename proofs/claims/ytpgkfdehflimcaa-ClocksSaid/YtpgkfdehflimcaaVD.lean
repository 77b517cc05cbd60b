/- An interpreter for Go's texts over plain data, and its proof: what it answers is what the model does. My own work. -/
import Derived.Test.YtpgkfdehflimcaaVC
import Derived.Laws.StructEq
import Derived.KernelRfl
import Derived.WalkKit
import Derived.ProofKit
import Derived.OpenShut
import Derived.ShutString
import Derived.ChangeOld
import Derived.Below
import Derived.SizedLaws
import Derived.Carry
import Derived.Lib.SmallJoins
import Derived.Deep.Slices
namespace Vm
section
open Go
set_option linter.unusedSimpArgs false
set_option linter.unusedVariables false

variable {P : Program} {w0 : World} {own : Nat → Prop} {γ : Gh} {st : St} {a : Act} {w : World} {o : Oper} {x : X} {ops : Array Oper}

def evArg (P : Program) (x : X) (t : TypeId) (y : A) (K : DV → Prop) : Prop :=
  match y with
  | .c (.d (.v (.slice none 0 0))) => match elT P t with
    | some e => match szT P e with | some z => K (.c (.s 0 z [] [])) | none => False
    | none => False
  | .c c => evC x 40 c fun d => K (.c d)
  | .agg cs => evC.evCL (evC x 40) cs fun ds => K (.agg ds)
  | _ => False

def ReadsA (x : X) (y : A) (d : DV) : Prop :=
  ∀ (w0 : World) (own : Nat → Prop) (γ : Gh) (st : St) (a : Act) (w : World) (v : Value), Rel w0 own γ st a w → (∀ k, k ∈ keysA x.S.store 40 y → st.store k = x.S.store k) → AR γ w v y → OV w (· < w.heap.size) v d fun _ => False

theorem readsA_c {c : C} {d : D} (h : Reads x 40 c d) : ReadsA x (.c c) (.c d) := fun w0 own γ st a w v hR hk hv => by
  cases hv with
  | c _ _ hc =>
    obtain ⟨h1, h2⟩ := h.2 w0 own γ st a w v hR hk hc
    exact .c _ _ _ (.r _ _ _ h2 h1)

theorem evArg_spec {t : TypeId} {y : A} {K : DV → Prop} (h : evArg P x t y K) : ∃ d, K d ∧ ReadsA x y d := by
  unfold evArg at h
  split at h
  · split at h
    · split at h
      · rename_i z _
        refine ⟨_, h, fun w0 own γ st a w v hR hk hv => ?_⟩
        obtain ⟨rfl, _⟩ := AR.sc_inv hv
        exact .c _ _ _ (.r _ _ _ (by simp) (.e none 0 z 0))
      · exact h.elim
    · exact h.elim
  · obtain ⟨d, h1, h2⟩ := evC_spec _ _ _ h
    exact ⟨_, h1, readsA_c h2⟩
  · rename_i cs
    obtain ⟨ds, h1, h2, h3⟩ := evCL_spec (fun c K => evC_spec 40 c K) cs _ h
    refine ⟨_, h1, fun w0 own γ st a w v hR hk hv => ?_⟩
    cases hv with
    | agg vs _ hs hc =>
      refine .agg vs ds _ (fun _ _ => False) (by omega) (fun i d hd => ?_) (fun _ _ h => h) (fun _ _ _ h _ => h.elim)
      have hq : i < cs.length := by have := (List.getElem?_eq_some_iff.1 hd).1; omega
      have hcr := hc i cs[i] (List.getElem?_eq_getElem hq)
      have hrd := h3 i cs[i] d (List.getElem?_eq_getElem hq) hd
      obtain ⟨g1, g2⟩ := hrd.2 w0 own γ st a w _ hR (fun k hkk => hk k (List.mem_flatMap.2 ⟨_, List.getElem_mem hq, hkk⟩)) hcr
      exact .r _ _ _ g2 g1
  · exact h.elim

def evArgs (P : Program) (x : X) : List Operand → List TypeId → (List DV → Prop) → Prop
  | [], _, K => K []
  | y :: l, ts, K => evArg P x (ts.headD 0) (evA x.S y) fun d => evArgs P x l ts.tail fun ds => K (d :: ds)

theorem evArgs_spec : ∀ (l : List Operand) (ts : List TypeId) (K : List DV → Prop), evArgs P x l ts K → ∃ ds, K ds ∧ l.length = ds.length ∧ ∀ (i : Nat) y d, l[i]? = some y → ds[i]? = some d → ReadsA x (evA x.S y) d
  | [], ts, K, h => ⟨[], h, rfl, by simp⟩
  | y :: l, ts, K, h => by
    simp only [evArgs] at h
    obtain ⟨d, h1, h2⟩ := evArg_spec h
    obtain ⟨ds, h3, h4, h5⟩ := evArgs_spec l _ _ h1
    refine ⟨d :: ds, h3, by simp [h4], fun i y' d' hy hd => ?_⟩
    cases i with
    | zero => simp at hy hd; subst hy hd; exact h2
    | succ i => exact h5 i y' d' (by simpa using hy) (by simpa using hd)

/-- A call that enters f with such data. -/
def Enters (P : Program) (w0 : World) (own : Nat → Prop) (o : Oper) (st : St) (f : FuncId) (ds : List DV) : Prop :=
  ∀ γ a w, Rel w0 own γ st a w → ∃ vs, (execOp a.eval o).run P w = .ok (.enter f vs) w ∧ OV w (· < w.heap.size) (.tuple vs) (.tup ds) fun _ => False

theorem op_callG {f : FuncId} {ds : List DV} {res : DV} (k : Nat) (hd : (matV st k res).1.fits o.dst = true) (he : Enters P w0 own o st f ds) (hct : CT P f ds res) (hp : res.pureOwn = true) : OpOK P w0 own o st ((matV st k res).1.put o.dst (matV st k res).2) := by
  intro γ a w next Q hR hn
  obtain ⟨vs, hex, hov⟩ := he γ a w hR
  have hcall := hct w _ (fun _ => False) (fun b => b < w.heap.size) hov (fun b hb => ⟨hb, fun h => h⟩) (fun _ h => h.elim)
  simp only [Oper.wp, hex, Oper.upon_enter]
  refine hcall.mono fun e w' ⟨v, S', he, hv, hS', henv⟩ => ?_
  subst he
  simp only
  have hR1 := hR.world (w' := w') (fun b hb => henv.block b hb fun h => h) henv.size henv.os henv.tape henv.output
  have hfreshN : ∀ b, w.heap.size ≤ b → b < w'.heap.size → Free w0 own γ st w' (fun c => c = b) := by
    rintro b hb hb' c rfl
    refine ⟨fun hG => ?_, fun k' R hk hβ => ?_, .inr (Nat.le_trans hR.env.size hb), hb'⟩
    · have := hR.lt c hG; omega
    · have := hR.ltβ k' R.tag c (by rw [hR.gen]; exact hR.tag k' R hk) hβ; omega
  have hfree : ∀ S : Nat → Prop, (∀ b, S b → w.heap.size ≤ b ∧ b < w'.heap.size) → Free w0 own γ st w' S := fun S h b hb => hfreshN b (h b hb).1 (h b hb).2 b rfl
  have hSf : ∀ b, S' b → w.heap.size ≤ b ∧ b < w'.heap.size := fun b hb => ⟨(hS' b hb).1.elim (fun h => h.elim) id, (hS' b hb).2⟩
  obtain ⟨hR2, hle2⟩ := hR1.still (N := fun b => w.heap.size ≤ b ∧ b < w'.heap.size ∧ ¬ S' b) (hfree _ fun b hb => ⟨hb.1, hb.2.1⟩)
  have hv2 : OV w' (γ.still fun b => w.heap.size ≤ b ∧ b < w'.heap.size ∧ ¬ S' b).F v res S' := hv.pure hp
  have hfS : Free w0 own (γ.still fun b => w.heap.size ≤ b ∧ b < w'.heap.size ∧ ¬ S' b) st w' S' := by
    intro b hb
    obtain ⟨f1, f2, f3, f4⟩ := hfree S' hSf b hb
    refine ⟨fun hG => ?_, f2, f3, f4⟩
    rcases hG with (hF | hN) | hf
    · exact f1 (.inl hF)
    · exact hN.2.2 hb
    · exact f1 (.inr hf)
  obtain ⟨γ3, q1, q2, q3, _⟩ := matV_spec hR2 k hv2 hfS
  exact hn γ3 _ w' (Gh.le_trans hle2 q1) (q2.put q3 hd)

theorem pk_callG {f : FuncId} {ds : List DV} {res : DV} {Ks : List Nat} (k : Nat) (hd : st.fits o.dst = true) (he : ∀ st', Alike ops o (Ks ++ (upV st.gen k res).1.map (·.1)) st st' → Enters P w0 own o st' f ds) (hct : CT P f ds res) (hp : res.pureOwn = true) (hfit : res.fit32 = true) :
    PatchOK P w0 own ops o (Ks ++ (upV st.gen k res).1.map (·.1)) st ⟨o.dst, (upV st.gen k res).2, toU (upV st.gen k res).1⟩ := by
  refine ⟨rfl, fun i hi => ?_, fun st' hal => ?_⟩
  · rw [keysU_toU] at hi; exact List.mem_append_right _ hi
  · have e2 : upV st'.gen k res = upV st.gen k res := upV_congr fun i hi => hal.gen i (List.mem_append_right _ hi)
    have e3 := matV_up st' k res hfit
    have := op_callG (P := P) (w0 := w0) (own := own) (st := st') (o := o) (res := res) k (by
      rw [e3]
      have := fits_alike hal hd
      cases h : o.dst <;> simp_all [St.fits, St.ups, St.patch]) (he st' hal) hct hp
    rw [e3, e2, ups_put] at this
    exact this

structure Hooks where
  call : FuncId → List DV → (DV → Prop) → Prop
  loop : Nat → Option ((Exit → X → Prop) → X → Prop)

def CallsOK (P : Program) (H : Hooks) : Prop := ∀ f ds Q, H.call f ds Q → Goes P f ∧ ∃ r, CT P f ds r ∧ r.pureOwn = true ∧ r.fit32 = true ∧ Q r

def keysOps (x : X) (l : List Operand) : List Nat := l.flatMap fun y => keysA x.S.store 40 (evA x.S y)

def D.notOwn : D → Bool
  | .s t _ _ _ => match t with | 1 => false | _ => true
  | _ => true
theorem notOwn_spec {d : D} (h : d.notOwn = true) (z : Nat) (rows sp : List (List D)) : d ≠ .s 1 z rows sp := by
  rintro rfl; simp [D.notOwn] at h

/-- Which function is called, what stands before and behind the arguments. -/
def evCallee (x : X) (c : Operand) (K : FuncId → List DV → List DV → Prop) : Prop :=
  match c with
  | .func f => K f [] []
  | .tmp t => match x.tmps.getD t .dead with
    | .c y => evC x 40 y fun d => match d with
      | .f fn fs cs => match fs.all D.notOwn && cs.all D.notOwn with | true => K fn (fs.map .c) (cs.map .c) | false => False
      | _ => False
    | _ => False
  | _ => False

def evCall (P : Program) (H : Hooks) (o : Oper) (x : X) (c : Operand) (args : Array Operand) (tys : Array TypeId) (K : KO) : Prop :=
  evCallee x c fun f fs cs => evArgs P x args.toList tys.toList fun ds => H.call f (fs ++ (ds ++ cs)) fun res =>
    K (keysOps x (c :: args.toList) ++ (upV x.gen (1000 * keyO o) res).1.map (·.1)) ⟨(upV x.gen (1000 * keyO o) res).2, (upV x.gen (1000 * keyO o) res).1⟩ x

theorem ov_tuple {vs : List Value} {ds : List DV} (hl : vs.length = ds.length) (h : ∀ (i : Nat) v d, vs[i]? = some v → ds[i]? = some d → OV w (· < w.heap.size) v d fun _ => False) : OV w (· < w.heap.size) (.tuple vs.toArray) (.tup ds) fun _ => False :=
  .tup _ _ _ (fun _ _ => False) (by simp [hl]) (fun i d hd => by
    have hi : i < vs.length := by have := (List.getElem?_eq_some_iff.1 hd).1; omega
    have := h i vs[i] d (List.getElem?_eq_getElem hi) hd
    simpa [Array.getD, hi] using this) (fun _ _ h => h) (fun _ _ _ h _ => h.elim)

theorem evCall_sound {H : Hooks} (hH : CallsOK P H) {c : Operand} {args : Array Operand} {tys : Array TypeId} (ho : o.op = .call { callee := .value c, args := args, argTypes := tys }) : Sound P o x (evCall P H o x c args tys) := fun K h hd => by
  have hops : o.op.operands.toList = c :: args.toList := by rw [ho]; simp [Op.operands, Call.operands]
  have hargs : ∀ (ds : List DV), args.toList.length = ds.length → (∀ (i : Nat) y d, args.toList[i]? = some y → ds[i]? = some d → ReadsA x (evA x.S y) d) →
      ∀ (w0 : World) (own : Nat → Prop) (γ : Gh) (st' : St) (a : Act) (w : World), Rel w0 own γ st' a w → (∀ y ∈ c :: args.toList, evA st' y = evA x.S y) → (∀ k ∈ keysOps x (c :: args.toList), st'.store k = x.S.store k) →
        ∀ (i : Nat) v d, (args.toList.map a.eval)[i]? = some v → ds[i]? = some d → OV w (· < w.heap.size) v d fun _ => False := by
    intro ds hl hr w0 own γ st' a w hR h1 h2 i v d hv hd
    rw [List.getElem?_map] at hv
    obtain ⟨y, hy, rfl⟩ := Option.map_eq_some_iff.1 hv
    have hym : y ∈ c :: args.toList := List.mem_cons_of_mem _ (List.mem_of_getElem? hy)
    have := hR.ev y
    rw [h1 y hym] at this
    exact hr i y d hy hd w0 own γ st' a w _ hR (fun k hk => h2 k (List.mem_flatMap.2 ⟨y, hym, hk⟩)) this
  unfold evCall evCallee at h
  split at h
  · rename_i f
    obtain ⟨ds, h1, h2, h3⟩ := evArgs_spec _ _ _ h
    obtain ⟨hg, r, hct, hp, hfit, hK⟩ := hH _ _ _ h1
    simp only [List.nil_append, List.append_nil] at hct
    refine ⟨_, _, hK, fun w0 own ops => pk_callG _ hd (fun st' hal => fun γ a w hR => ⟨(args.toList.map a.eval).toArray, ?_, ?_⟩) hct hp hfit⟩
    · unfold execOp
      rw [ho]
      simp only [resolve, Act.eval, Deferred.ofValue, Sem.run_bind]
      have e : args.map a.eval = (args.toList.map a.eval).toArray := by apply Array.ext'; simp
      simp [Sem.run, invoke, hg _ w, e]
    · exact ov_tuple (by simpa using h2) (hargs ds h2 h3 w0 own γ st' a w hR (fun y hy => hal.ev (by rw [hops]; exact hy)) fun k hk => hal.store k (List.mem_append_left _ hk))
  · rename_i t
    split at h
    · rename_i y hy
      obtain ⟨d, h, hrd⟩ := evC_spec _ _ _ h
      split at h
      · rename_i fn fs cs
        split at h
        rotate_left
        · exact h.elim
        rename_i hno
        simp only [Bool.and_eq_true] at hno
        obtain ⟨ds, h1, h2, h3⟩ := evArgs_spec _ _ _ h
        obtain ⟨hg, r, hct, hp, hfit, hK⟩ := hH _ _ _ h1
        refine ⟨_, _, hK, fun w0 own ops => pk_callG _ hd (fun st' hal => fun γ a w hR => ?_) hct hp hfit⟩
        have ht : evA st' (.tmp t) = .c y := (hal.ev (by rw [hops]; simp)).trans hy
        have hv := hR.ev (.tmp t)
        rw [ht] at hv
        generalize hvv : a.eval (.tmp t) = vv at hv
        cases hv with
        | c _ _ hc =>
          obtain ⟨g1, _⟩ := hrd.2 w0 own γ st' a w _ hR (fun k hk => hal.store k (List.mem_append_left _ (List.mem_flatMap.2 ⟨.tmp t, by simp, by
            have : evA x.S (.tmp t) = .c y := hy
            rw [this]; exact hk⟩))) hc
          cases g1 with
          | f _ _ _ fv cv s1 s2 c1 c2 =>
            refine ⟨fv ++ (args.toList.map a.eval).toArray ++ cv, ?_, ?_⟩
            · unfold execOp
              rw [ho]
              have e : args.map a.eval = (args.toList.map a.eval).toArray := by apply Array.ext'; simp
              simp only [resolve, hvv, Deferred.ofValue, Sem.run_bind]
              simp [Sem.run, invoke, hg _ w, e]
            · have e : fv ++ (args.toList.map a.eval).toArray ++ cv = (fv.toList ++ (args.toList.map a.eval ++ cv.toList)).toArray := by
                apply Array.ext'; simp
              rw [e]
              have hA := hargs ds h2 h3 w0 own γ st' a w hR (fun y hy => hal.ev (by rw [hops]; exact hy)) fun k hk => hal.store k (List.mem_append_left _ hk)
              have hl1 : fv.toList.length = (fs.map DV.c).length := by simp [s1]
              have hl2 : (args.toList.map a.eval).length = ds.length := by simpa using h2
              refine ov_tuple (by simp [s1, s2, ← h2]) fun i v d hv hd => ?_
              by_cases hi : i < fv.toList.length
              · rw [List.getElem?_append_left hi] at hv
                rw [List.getElem?_append_left (by omega)] at hd
                rw [List.getElem?_map] at hd
                obtain ⟨d0, hd0, rfl⟩ := Option.map_eq_some_iff.1 hd
                have hne := notOwn_spec (List.all_eq_true.1 hno.1 d0 (List.mem_of_getElem? hd0))
                have := c1 i d0 hd0
                have e2 : fv.getD i undef = v := by
                  rw [Array.getD_eq_getD_getElem?, ← Array.getElem?_toList, hv]; rfl
                rw [e2] at this
                exact .c _ _ _ (.r _ _ _ hne this)
              · rw [List.getElem?_append_right (by omega)] at hv
                rw [List.getElem?_append_right (by omega)] at hd
                rw [← hl1] at hd
                by_cases hi2 : i - fv.toList.length < (args.toList.map a.eval).length
                · rw [List.getElem?_append_left hi2] at hv
                  rw [List.getElem?_append_left (by omega)] at hd
                  exact hA _ v d hv hd
                · rw [List.getElem?_append_right (by omega)] at hv
                  rw [List.getElem?_append_right (by omega)] at hd
                  rw [← hl2] at hd
                  rw [List.getElem?_map] at hd
                  obtain ⟨d0, hd0, rfl⟩ := Option.map_eq_some_iff.1 hd
                  have hne := notOwn_spec (List.all_eq_true.1 hno.2 d0 (List.mem_of_getElem? hd0))
                  have := c2 _ d0 hd0
                  have e2 : cv.getD (i - fv.toList.length - (args.toList.map a.eval).length) undef = v := by
                    rw [Array.getD_eq_getD_getElem?, ← Array.getElem?_toList, hv]; rfl
                  rw [e2] at this
                  exact .c _ _ _ (.r _ _ _ hne this)
      · exact h.elim
    · exact h.elim
  · exact h.elim
end

section
open Go
set_option linter.unusedSimpArgs false
set_option linter.unusedVariables false

variable {P : Program} {w0 : World} {own : Nat → Prop} {γ : Gh} {st : St} {a : Act} {w : World} {o : Oper} {x : X} {ops : Array Oper}

/-! ### builtins -/
def vals (st : St) : List Operand → Option (List Value)
  | [] => some []
  | y :: l => match (evA st y).val, vals st l with | some v, some r => some (v :: r) | _, _ => none
theorem vals_spec (hR : Rel w0 own γ st a w) : ∀ (l : List Operand) (r : List Value), vals st l = some r → l.map a.eval = r
  | [], r, h => by simp [vals] at h; subst h; rfl
  | y :: l, r, h => by
    simp only [vals] at h
    split at h
    · rename_i v r' h1 h2
      cases h
      rw [List.map_cons, A.val_spec (hR.ev y) h1, vals_spec hR l r' h2]
    · cases h
theorem vals_alike {K : List Nat} {st' : St} (h : Alike ops o K st st') : ∀ (l : List Operand), (∀ y ∈ l, y ∈ o.op.operands.toList) → vals st' l = vals st l
  | [], _ => rfl
  | y :: l, hy => by simp only [vals]; rw [h.ev (hy y (by simp)), vals_alike h l fun z hz => hy z (by simp [hz])]

def constsOf (args : Array Operand) : Array Bool := args.map fun | .const _ => true | _ => false

/-- Builtins of numbers alone. -/
def numB (P : Program) (b : Builtin) (argTypes : Array TypeId) (type : TypeId) (args : Array Value) : Option Value :=
  match b with
  | .complex => pureRun P (Builtin.complex_ argTypes type args)
  | .real => pureRun P (Builtin.real_ argTypes type args)
  | .imag => pureRun P (Builtin.imag_ argTypes type args)
  | .len => pureRun P (Builtin.len_ argTypes type args)
  | .max => pureRun P (Builtin.max_ argTypes type args)
  | .min => pureRun P (Builtin.min_ argTypes type args)
  | _ => none
theorem numB_spec {b : Builtin} {argTypes : Array TypeId} {type : TypeId} {consts : Array Bool} {args : Array Value} {v : Value} (h : numB P b argTypes type args = some v) (w : World) : (builtin b argTypes type consts args).run P w = .ok (.value v) w := by
  unfold numB at h
  unfold builtin
  split at h <;> first | cases h | (simp only [Sem.run_bind, pureRun_spec P w _ _ h]; rfl)

def evNumB (P : Program) (o : Oper) (x : X) (b : Builtin) (args : Array Operand) (tys : Array TypeId) (K : KO) : Prop :=
  match vals x.S args.toList with
  | some vs => outV (numB P b tys o.type vs.toArray) fun r => K [] ⟨sc r, []⟩ x
  | none => False
theorem evNumB_sound {b : Builtin} {args : Array Operand} {tys : Array TypeId} (ho : o.op = .call { callee := .builtin b, args := args, argTypes := tys }) : Sound P o x (evNumB P o x b args tys) := fun K h hd => by
  unfold evNumB at h
  split at h
  · rename_i vs hvs
    obtain ⟨r, h1, h2, h3⟩ := outV_spec h
    refine ⟨_, _, h3, fun w0 own ops => .plain fun st' hal => op_pure (fits_alike hal hd) h2 fun γ a w hR => ?_⟩
    have e := vals_spec hR _ _ ((vals_alike hal args.toList fun y hy => by rw [ho]; simp [Op.operands, Call.operands, hy]).trans hvs)
    have e' : args.map a.eval = vs.toArray := by
      rw [← e]; apply Array.ext'; simp
    unfold execOp
    rw [ho]
    simp only [resolve, Sem.run_bind, e']
    simp [Sem.run, invoke, numB_spec h1 w]
  · exact h.elim

theorem AR.sliceLen {v : Value} {y : A} (h : AR γ w v y) {n : Nat} (hy : (∃ k g wd lo kn, y = .c (.rs k g wd lo n kn)) ∨ (∃ t z rows sp, y = .c (.d (.s t z rows sp)) ∧ rows.length = n)) : ∃ b cap, v = .slice b n cap := by
  rcases hy with ⟨k, g, wd, lo, kn, rfl⟩ | ⟨t, z, rows, sp, rfl, rfl⟩
  · rcases h.rs_inv with ⟨cap, b, E, nn, rfl, _⟩ | ⟨rfl, _, rfl, _⟩
    · exact ⟨_, _, rfl⟩
    · exact ⟨_, _, rfl⟩
  · have := h.d_inv
    cases this with
    | e a _ _ cap => exact ⟨_, _, rfl⟩
    | s _ _ _ b off cap sz vs => exact ⟨_, _, rfl⟩

def lenA (y : A) : Option Nat :=
  match y with
  | .c (.rs _ _ _ _ len _) => some len
  | .c (.d (.s _ _ rows _)) => some rows.length
  | _ => none
def evLen (P : Program) (o : Oper) (x : X) (args : Array Operand) (tys : Array TypeId) (K : KO) : Prop :=
  match args.toList, tys.toList with
  | [y], [t] => match lenA (evA x.S y) with
    | some n => match elT P t with
      | some e => K [] ⟨sc (.int .i64 n), []⟩ x
      | none => False
    | none => evNumB P o x .len args tys K
  | _, _ => False
theorem evLen_sound {args : Array Operand} {tys : Array TypeId} (ho : o.op = .call { callee := .builtin .len, args := args, argTypes := tys }) : Sound P o x (evLen P o x args tys) := fun K h hd => by
  unfold evLen at h
  split at h
  · rename_i y t hy ht
    split at h
    · rename_i n hn
      split at h
      · rename_i e he
        refine ⟨_, _, h, fun w0 own ops => .plain fun st' hal => op_pure (fits_alike hal hd) rfl fun γ a w hR => ?_⟩
        have e1 : args = #[y] := by apply Array.ext'; rw [hy]
        have e2 : tys = #[t] := by apply Array.ext'; rw [ht]
        subst e1 e2
        have hev := hR.ev y
        rw [hal.ev (x := y) (by rw [ho]; simp [Op.operands, Call.operands])] at hev
        obtain ⟨b, cap, hv⟩ := hev.sliceLen (n := n) (by
          unfold lenA at hn
          split at hn
          · cases hn; rename_i heq; exact .inl ⟨_, _, _, _, _, heq⟩
          · cases hn; rename_i heq; exact .inr ⟨_, _, _, _, heq, rfl⟩
          · cases hn)
        have hu : P.underlying t = some (.slice e) := by
          unfold elT at he
          split at he
          · rename_i e' hu; cases he; exact hu
          · cases he
        unfold execOp
        rw [ho]
        simp only [resolve, Sem.run_bind]
        have e3 : (#[y] : Array Operand).map a.eval = #[.slice b n cap] := by simp [hv]
        rw [e3]
        simp [Sem.run, invoke, builtin, Builtin.len_, Sem.run_bind, run_under hu, goInt]

      · exact h.elim
    · exact evNumB_sound ho K h hd
  · exact h.elim

/-! ### '==' of two values of whole numbers -/
def ints (k : IntKind) : List C → Option (List Int)
  | [] => some []
  | .d (.v (.int k' n)) :: l => if k' = k then (ints k l).map (n :: ·) else none
  | _ :: _ => none
theorem ints_spec (k : IntKind) : ∀ (cs : List C) (ns : List Int), ints k cs = some ns → cs = ns.map fun n => C.d (.v (.int k n))
  | [], ns, h => by simp [ints] at h; subst h; rfl
  | c :: l, ns, h => by
    unfold ints at h
    split at h
    · contradiction
    · rename_i k' n l' heq
      cases heq
      split at h
      · rename_i hk
        subst hk
        obtain ⟨ms, h1, rfl⟩ := Option.map_eq_some_iff.1 h
        rw [ints_spec k' _ ms h1]; rfl
      · cases h
    · cases h
def eqI : List Int → List Int → Bool
  | x :: xs, y :: ys => (x == y) && eqI xs ys
  | [], [] => true
  | _, _ => false

/-- A type of whole numbers of one kind, side by side. -/
def flatT (P : Program) (t : TypeId) (k : IntKind) (n : Nat) : Bool :=
  match P.underlying t with
  | some (.array m e) => Nat.beq m n && (match P.info? e with | some i => Nat.beq i.size 1 | none => false) && (match P.underlying e with | some (.int k') => decide (k' = k) | _ => false)
  | some (.struct fs) => !P.stoodInHeld t && flatF fs.toList 0
  | _ => false
where
  flatF : List Field → Nat → Bool
    | [], i => Nat.beq i n
    | f :: fs, i => (f.name != "_") && (Nat.beq f.offset i && ((match P.underlying f.type with | some (.int k') => decide (k' = k) | _ => false) && flatF fs (i + 1)))

theorem run_part_int {e : TypeId} {k k' : IntKind} {ns : List Int} {i : Nat} (hu : P.underlying e = some (.int k')) (hi : i < ns.length) (w : World) : (part e (ns.map fun n => Value.int k n).toArray i).run P w = .ok (.int k ns[i]) w := by
  unfold part
  rw [Sem.run_bind]
  have : (isAgg e).run P w = .ok false w := run_isAgg (by simp [aggT, hu]) w
  rw [this]
  simp [hi]

theorem eqI_drop (xs ys : List Int) (i : Nat) (h1 : i < xs.length) (h2 : i < ys.length) : eqI (xs.drop i) (ys.drop i) = ((xs[i] == ys[i]) && eqI (xs.drop (i + 1)) (ys.drop (i + 1))) := by
  rw [List.drop_eq_getElem_cons h1, List.drop_eq_getElem_cons h2]; rfl

theorem eqFields_int (k : IntKind) (xs ys : List Int) (n : Nat) (hx : xs.length = n) (hy : ys.length = n) (d : Nat) (w : World) : ∀ (fs : List Field) (i : Nat), flatT.flatF P k n fs i = true → i ≤ n →
    (Op.eqFields (d + 1) (xs.map fun n => Value.int k n).toArray (ys.map fun n => Value.int k n).toArray fs).run P w = .ok (eqI (xs.drop i) (ys.drop i)) w
  | [], i, h, _ => by
    have := beq_true h
    subst this
    rw [List.drop_eq_nil_of_le (by omega), List.drop_eq_nil_of_le (by omega)]
    rfl
  | f :: fs, i, h, hle => by
    simp only [flatT.flatF, Bool.and_eq_true] at h
    obtain ⟨h1, h2, h3, h4⟩ := h
    have h2 := beq_true h2
    cases hu : P.underlying f.type with
    | none => rw [hu] at h3; simp at h3
    | some td =>
      rw [hu] at h3
      cases td with
      | int k' =>
        simp only [decide_eq_true_eq] at h3
        have hlen : ∀ (fs : List Field) (i : Nat), flatT.flatF P k n fs i = true → i ≤ n := by
          intro fs
          induction fs with
          | nil => intro i h; have := beq_true h; omega
          | cons g gs ih =>
            intro i h
            simp only [flatT.flatF, Bool.and_eq_true] at h
            have := ih (i + 1) h.2.2.2
            omega
        have hin : i < n := by have := hlen fs (i + 1) h4; omega
        have ih := eqFields_int k xs ys n hx hy d w fs (i + 1) h4 (by omega)
        unfold Op.eqFields
        have hname : f.name ≠ "_" := by simpa using h1
        rw [if_pos hname, h2]
        rw [Sem.run_bind, run_part_int hu (by omega)]
        simp only [Result.andThen_ok]
        rw [Sem.run_bind, run_part_int hu (by omega)]
        simp only [Result.andThen_ok]
        rw [Sem.run_bind, run_equalIn_int w d f.type k k' _ _ hu]
        simp only [Result.andThen_ok]
        rw [eqI_drop xs ys i (by omega) (by omega)]
        cases hb : (xs[i] == ys[i])
        · rfl
        · simp only [Bool.not_true, Bool.false_eq_true, if_false, Bool.true_and]
          exact ih
      | _ => simp at h3

theorem eqItems_int (k k' : IntKind) {e : TypeId} (hu : P.underlying e = some (.int k')) (xs ys : List Int) (n : Nat) (hx : xs.length = n) (hy : ys.length = n) (d : Nat) (w : World) : ∀ (m i : Nat), i + m = n →
    (Op.eqItems (d + 1) e 1 (xs.map fun n => Value.int k n).toArray (ys.map fun n => Value.int k n).toArray (List.range' i m)).run P w = .ok (eqI (xs.drop i) (ys.drop i)) w
  | 0, i, h => by
    rw [List.drop_eq_nil_of_le (by omega), List.drop_eq_nil_of_le (by omega)]
    rfl
  | m + 1, i, h => by
    have ih := eqItems_int k k' hu xs ys n hx hy d w m (i + 1) (by omega)
    rw [List.range'_succ]
    unfold Op.eqItems
    rw [Nat.mul_one]
    rw [Sem.run_bind, run_part_int hu (by omega)]
    simp only [Result.andThen_ok]
    rw [Sem.run_bind, run_part_int hu (by omega)]
    simp only [Result.andThen_ok]
    rw [Sem.run_bind, run_equalIn_int w d e k k' _ _ hu]
    simp only [Result.andThen_ok]
    rw [eqI_drop xs ys i (by omega) (by omega)]
    cases hb : (xs[i] == ys[i])
    · rfl
    · simp only [Bool.not_true, Bool.false_eq_true, if_false, Bool.true_and]
      exact ih

theorem run_eq_flat {t : TypeId} {k : IntKind} {xs ys : List Int} (hf : flatT P t k xs.length = true) (hl : ys.length = xs.length) (w : World) :
    (Op.equalIn 10000 t (.agg (xs.map fun n => Value.int k n).toArray) (.agg (ys.map fun n => Value.int k n).toArray)).run P w = .ok (eqI xs ys) w := by
  unfold flatT at hf
  split at hf
  · rename_i m e hu
    simp only [Bool.and_eq_true] at hf
    obtain ⟨⟨h1, h2⟩, h3⟩ := hf
    have h1 := beq_true h1
    subst h1
    cases hi : P.info? e with
    | none => rw [hi] at h2; simp at h2
    | some i =>
      rw [hi] at h2
      have h2 := beq_true h2
      rw [run_equalIn_array w 9999 _ _ hu hi]
      have hc : P.cellsOf e = 1 := by simp [Program.cellsOf, hi, h2]
      rw [hc]
      cases hue : P.underlying e with
      | none => rw [hue] at h3; simp at h3
      | some td =>
        rw [hue] at h3
        cases td with
        | int k' =>
          have := eqItems_int k k' hue xs ys xs.length rfl hl 9998 w xs.length 0 (by omega)
          simpa [List.range_eq_range'] using this
        | _ => simp at h3
  · rename_i fs hu
    simp only [Bool.and_eq_true, Bool.not_eq_true'] at hf
    have hu' : P.underlying t = some (.struct (P.fieldsOf t)) := by simp [Program.fieldsOf, hu]
    have hfs : P.fieldsOf t = fs := by rw [hu] at hu'; cases hu'; rfl
    rw [run_equalIn_struct w 9999 t _ _ hu' hf.1, hfs]
    have := eqFields_int k xs ys xs.length rfl hl 9998 w fs.toList 0 hf.2 (by omega)
    simpa using this
  · cases hf

def firstK : List C → IntKind
  | .d (.v (.int k _)) :: _ => k
  | _ => .i64

def evEq (P : Program) (x : X) (neg : Bool) (t : TypeId) (cs ds : List C) (K : KO) : Prop :=
  match ints (firstK cs) cs, ints (firstK cs) ds with
  | some xs, some ys => match flatT P t (firstK cs) xs.length && (Nat.beq ys.length xs.length && !P.eqGuardType P.depth t) with
    | true => K [] ⟨sc (.bool (match neg with | true => !eqI xs ys | false => eqI xs ys)), []⟩ x
    | false => False
  | _, _ => False

theorem AR.agg_ints {v : Value} {cs : List C} {k : IntKind} {ns : List Int} (h : AR γ w v (.agg cs)) (hi : ints k cs = some ns) : v = .agg (ns.map fun n => Value.int k n).toArray := by
  have e := ints_spec k cs ns hi
  have hval : (A.agg cs).val = some (.agg (ns.map fun n => Value.int k n).toArray) := by
    have : ∀ ns : List Int, scalars (ns.map fun n => C.d (.v (.int k n))) = some (ns.map fun n => Value.int k n) := by
      intro ns
      induction ns with
      | nil => rfl
      | cons n ns ih => simp [scalars, ih]
    simp only [A.val, e, this, Option.map_some]
  exact A.val_spec h hval

theorem evEq_sound {b : BinOp} {t u : TypeId} {y z : Operand} {cs ds : List C} {neg : Bool} (hb : (neg = false ∧ b = .eql) ∨ (neg = true ∧ b = .neq)) (ho : o.op = .binOp b t y z u) (hy : evA x.S y = .agg cs) (hz : evA x.S z = .agg ds) : Sound P o x (evEq P x neg t cs ds) := fun K h hd => by
  unfold evEq at h
  split at h
  · rename_i xs ys hx hy'
    split at h
    · rename_i hf
      simp only [Bool.and_eq_true, Bool.not_eq_true'] at hf
      obtain ⟨h1, h2, h3⟩ := hf
      have h2 := beq_true h2
      refine ⟨_, _, h, fun w0 own ops => .plain fun st' hal => op_pure (fits_alike hal hd) rfl fun γ a w hR => ?_⟩
      have ey := hR.ev y
      rw [(hal.ev (x := y) (by rw [ho]; simp [Op.operands])).trans hy] at ey
      have ez := hR.ev z
      rw [(hal.ev (x := z) (by rw [ho]; simp [Op.operands])).trans hz] at ez
      have e1 := ey.agg_ints hx
      have e2 := ez.agg_ints hy'
      unfold execOp
      rw [ho]
      simp only [e1, e2]
      have hg := run_eqGuard_agg w b t y z (xs.map fun n => Value.int (firstK cs) n).toArray (ys.map fun n => Value.int (firstK cs) n).toArray h3
      rw [Sem.run_bind, Sem.run_bind, hg]
      simp only [Result.andThen_ok]
      rcases hb with ⟨rfl, rfl⟩ | ⟨rfl, rfl⟩
      · rw [run_eql_struct, run_eq_flat h1 h2]; rfl
      · rw [run_neq_struct, run_eq_flat h1 h2]; rfl
    · exact h.elim
  · exact h.elim
end

section
open Go
set_option linter.unusedSimpArgs false
set_option linter.unusedVariables false

variable {P : Program} {w0 : World} {own : Nat → Prop} {γ : Gh} {st : St} {a : Act} {w : World} {o : Oper} {x : X} {ops : Array Oper}

/-! ### one operation -/
def evBinOp (P : Program) (x : X) (b : BinOp) (t : TypeId) (y z : Operand) (K : KO) : Prop :=
  match evA x.S y, evA x.S z, b with
  | .agg cs, .agg ds, .eql => evEq P x false t cs ds K
  | .agg cs, .agg ds, .neq => evEq P x true t cs ds K
  | _, _, _ => evBin P x b t y z K
theorem evBinOp_sound {b : BinOp} {t u : TypeId} {y z : Operand} (ho : o.op = .binOp b t y z u) : Sound P o x (evBinOp P x b t y z) := fun K h hd => by
  unfold evBinOp at h
  split at h
  · rename_i h1 h2; exact evEq_sound (neg := false) (.inl ⟨rfl, rfl⟩) ho h1 h2 K h hd
  · rename_i h1 h2; exact evEq_sound (neg := true) (.inr ⟨rfl, rfl⟩) ho h1 h2 K h hd
  · exact evBin_sound ho K h hd

def evCalls (P : Program) (H : Hooks) (o : Oper) (x : X) (c : Call) (K : KO) : Prop :=
  match c.callee with
  | .value f => evCall P H o x f c.args c.argTypes K
  | .builtin .len => evLen P o x c.args c.argTypes K
  | .builtin b => evNumB P o x b c.args c.argTypes K
  | _ => False
theorem evCalls_sound {H : Hooks} (hH : CallsOK P H) {c : Call} (ho : o.op = .call c) : Sound P o x (evCalls P H o x c) := fun K h hd => by
  obtain ⟨cal, args, tys⟩ := c
  unfold evCalls at h
  split at h
  · rename_i f hf; simp only at hf; subst hf; exact evCall_sound hH ho K h hd
  · rename_i hf; simp only at hf; subst hf; exact evLen_sound ho K h hd
  · rename_i b _ hf; simp only at hf; subst hf; exact evNumB_sound ho K h hd
  · exact h.elim

def evOp (P : Program) (H : Hooks) (o : Oper) (x : X) (K : KO) : Prop :=
  match o.op with
  | .move y => evMove x y K
  | .assign y => evMove x y K
  | .pick c y z => evPick x c y z K
  | .alloc t => evAlloc P o x t K
  | .box _ y => evBox o x y K
  | .load t y => evLoad P x t y K
  | .store t y z => evStore P x t y z K
  | .nilCheck y => evNil x y K
  | .binOp b t y z _ => evBinOp P x b t y z K
  | .unOp b _ y => evUn P x b y K
  | .convert t u y => evConv P x t u y K
  | .makeFunc (.func f) fst cap => evMakeFunc x f fst cap K
  | .fieldAddr t y f => evFieldAddr P x t y f K
  | .field t y f => evField P x t y f K
  | .indexAddr t y i => evIndexAddr P x t y i K
  | .index t y i => evIndex P x t y i K
  | .extract y i => evExtract x y i K
  | .build t ps => evBuild P x t ps K
  | .call c => evCalls P H o x c K
  | _ => False

theorem evOp_sound {H : Hooks} (hH : CallsOK P H) : Sound P o x (evOp P H o x) := fun K h hd => by
  unfold evOp at h
  split at h
  · exact evMove_sound (.inl ‹_›) K h hd
  · exact evMove_sound (.inr ‹_›) K h hd
  · exact evPick_sound ‹_› K h hd
  · exact evAlloc_sound ‹_› K h hd
  · exact evBox_sound ‹_› K h hd
  · exact evLoad_sound ‹_› K h hd
  · exact evStore_sound ‹_› K h hd
  · exact evNil_sound ‹_› K h hd
  · exact evBinOp_sound ‹_› K h hd
  · exact evUn_sound ‹_› K h hd
  · exact evConv_sound ‹_› K h hd
  · exact evMakeFunc_sound ‹_› K h hd
  · exact evFieldAddr_sound ‹_› K h hd
  · exact evField_sound ‹_› K h hd
  · exact evIndexAddr_sound ‹_› K h hd
  · exact evIndex_sound ‹_› K h hd
  · exact evExtract_sound ‹_› K h hd
  · exact evBuild_sound ‹_› K h hd
  · exact evCalls_sound hH ‹_› K h hd
  · exact h.elim

/-! ### a region -/
def X.fits (x : X) (d : Option Nat) : Bool := match d with | none => true | some d => Nat.ble (d + 1) x.tmps.length
theorem fits_S (d : Option Nat) : x.fits d = x.S.fits d := by
  cases d with
  | none => rfl
  | some d =>
    show Nat.ble (d + 1) x.tmps.length = decide (d < x.tmps.length)
    by_cases h : d < x.tmps.length
    · rw [decide_eq_true h]; exact Nat.ble_eq_true_of_le h
    · rw [decide_eq_false h]
      cases e : Nat.ble (d + 1) x.tmps.length
      · rfl
      · exact (h (Nat.le_of_ble_eq_true e)).elim

abbrev Foot := List (List Nat × List Nat)

def evGuard (ops : Array Oper) (o : Oper) (x : X) (K : Bool → X → Prop) : Prop :=
  match o.guard with
  | none => K true x
  | some (j, want) => match (ops[j]?).bind (·.dst) with
    | some d => evB x (.tmp d) fun b x' => match b, want with
      | true, true => K true x'
      | false, false => K true x'
      | _, _ => K false x'
    | none => False

theorem evGuard_spec {K : Bool → X → Prop} (h : evGuard ops o x K) : ∃ b, guardA ops x.S o = some b ∧ K b x := by
  unfold evGuard at h
  unfold guardA
  split at h
  · rename_i hg; rw [hg]; exact ⟨true, rfl, h⟩
  · rename_i j want hg
    rw [hg]
    simp only
    split at h
    · rename_i d hd
      rw [hd]
      obtain ⟨b, hb, h⟩ := evB_spec h
      have hb' : x.S.tmps d = .c (.d (.v (.bool b))) := hb
      have hlt : d < x.S.n := by
        simp only [X.S, List.getD_eq_getElem?_getD] at hb' ⊢
        rcases Nat.lt_or_ge d x.tmps.length with h' | h'
        · exact h'
        · rw [List.getElem?_eq_none h'] at hb'; simp at hb'
      simp only [hb', hlt, if_true]
      cases b <;> cases want <;> exact ⟨_, rfl, h⟩
    · exact h.elim

def evOps (P : Program) (H : Hooks) (ops : Array Oper) (K : Foot → X → Prop) : List Oper → Foot → X → Prop
  | [], acc, x => K acc x
  | o :: l, acc, x => match x.fits o.dst with
    | true => evGuard ops o x fun b x => match b with
      | true => evOp P H o x fun Ks p x => evOps P H ops K l ((Ks, p.ups.map (·.1)) :: acc) (x.patch o.dst p)
      | false => evOps P H ops K l (([], []) :: acc) (x.patch o.dst ⟨.dead, []⟩)
    | false => False

theorem evOps_sound {H : Hooks} (hH : CallsOK P H) (K : Foot → X → Prop) : ∀ (l : List Oper) (acc : Foot) (x : X), evOps P H ops K l acc x → ALex P w0 own ops (fun acc st => ∃ x', st = x'.S ∧ K acc x') l acc x.S
  | [], acc, x, h => ⟨x, rfl, h⟩
  | o :: l, acc, x, h => by
    unfold evOps at h
    split at h
    · rename_i hf
      rw [fits_S] at hf
      obtain ⟨b, hb, h⟩ := evGuard_spec h
      cases b with
      | true =>
        obtain ⟨Ks, p, h1, h2⟩ := evOp_sound hH _ h hf
        have ih := evOps_sound hH K l _ _ h1
        rw [patch_S _ _ _ hf, ← keysU_toU] at ih
        exact alex_step hb (h2 w0 own ops) ih
      | false =>
        have ih := evOps_sound hH K l _ _ h
        rw [patch_S _ _ _ hf] at ih
        exact x_skip hb hf ih
    · exact h.elim

/-! ### code -/
def XPost (w0 : World) (own : Nat → Prop) (F0 : Nat → Prop) (Q : Exit → X → Prop) (e : Exit) (a : Act) (w : World) : Prop := ∃ γ x, γ.F0 = F0 ∧ Rel w0 own γ x.S a w ∧ Q e x
def XWP (P : Program) (c : Code) (Q : Exit → X → Prop) (x : X) : Prop := ∀ w0 own γ a w, Rel w0 own γ x.S a w → c.wp P (XPost w0 own γ.F0 Q) a w

theorem xwp_seq {c d : Code} {Q : Exit → X → Prop} (h : XWP P c (fun e x' => match e with | .normal => XWP P d Q x' | e => Q e x') x) : XWP P (.seq c d) Q x := fun w0 own γ a w hR => by
  refine wp_seq (Code.wp_mono (fun e a' w' hp => ?_) (h w0 own γ a w hR))
  obtain ⟨γ', x', h1, h2, h3⟩ := hp
  cases e with
  | normal => have := h3 w0 own γ' a' w' h2; rw [h1] at this; exact this
  | _ => exact ⟨γ', x', h1, h2, h3⟩
theorem xwp_block {id : Nat} {c : Code} {Q : Exit → X → Prop} (h : XWP P c (fun e x' => match e with | .exit i => (match Nat.beq i id with | true => Q .normal x' | false => Q (.exit i) x') | e => Q e x') x) : XWP P (.block id c) Q x := fun w0 own γ a w hR => by
  refine wp_block (Code.wp_mono (fun e a' w' hp => ?_) (h w0 own γ a w hR))
  obtain ⟨γ', x', h1, h2, h3⟩ := hp
  cases e with
  | exit i =>
    simp only [Exit.inBlock]
    simp only at h3
    split at h3
    · rename_i hb; have := beq_true hb; subst this; simp only [if_true]; exact ⟨γ', x', h1, h2, h3⟩
    · rename_i hb; rw [if_neg (beq_false hb)]; exact ⟨γ', x', h1, h2, h3⟩
  | _ => exact ⟨γ', x', h1, h2, h3⟩
theorem xwp_loop {ι : Type} {c : Code} {Q : Exit → X → Prop} (I : ι → X → Prop) (μ : ι → Nat) (i0 : ι) (h0 : I i0 x) (round : ∀ i x, I i x → XWP P c (fun e x' => match e with | .normal => ∃ i', μ i' < μ i ∧ I i' x' | e => Q e x') x) : XWP P (.loop c) Q x := fun w0 own γ a w hR => by
  refine wp_loop_ghost (fun n a w => ∃ γ' x' i, γ'.F0 = γ.F0 ∧ Rel w0 own γ' x'.S a w ∧ I i x' ∧ μ i = n) (μ i0) ⟨γ, x, i0, rfl, hR, h0, rfl⟩ ?_
  rintro n a w ⟨γ1, x1, i, g1, g2, g3, rfl⟩
  refine Code.wp_mono (fun e a' w' hp => ?_) (round i x1 g3 w0 own γ1 a w g2)
  obtain ⟨γ', x', h1, h2, h3⟩ := hp
  cases e with
  | normal => obtain ⟨i', hn, hI⟩ := h3; exact ⟨μ i', hn, γ', x', i', h1.trans g1, h2, hI, rfl⟩
  | _ => exact ⟨γ', x', h1.trans g1, h2, h3⟩
theorem xwp_mono {c : Code} {Q Q' : Exit → X → Prop} (h : XWP P c Q x) (hq : ∀ e x, Q e x → Q' e x) : XWP P c Q' x := fun w0 own γ a w hR =>
  Code.wp_mono (fun e a' w' ⟨γ', x', h1, h2, h3⟩ => ⟨γ', x', h1, h2, hq _ _ h3⟩) (h w0 own γ a w hR)

def rnds (f : (Exit → X → Prop) → X → Prop) (Q : Exit → X → Prop) : Nat → X → Prop
  | 0, _ => False
  | m + 1, x => f (fun e x' => match e with | .normal => rnds f Q m x' | e => Q e x') x
theorem xwp_rnds {c : Code} {f : (Exit → X → Prop) → X → Prop} (hf : ∀ Q x, f Q x → XWP P c Q x) {Q : Exit → X → Prop} (n : Nat) (h : rnds f Q n x) : XWP P (.loop c) Q x := by
  refine xwp_loop (ι := Nat) (fun n x => rnds f Q n x) id n h fun i x hi => ?_
  cases i with
  | zero => exact hi.elim
  | succ i =>
    refine xwp_mono (hf _ _ hi) fun e x' he => ?_
    cases e with
    | normal => exact ⟨i, Nat.lt_succ_self _, he⟩
    | _ => exact he

theorem ALex.mono {ops : Array Oper} {Q Q' : List (List Nat × List Nat) → St → Prop} (hq : ∀ acc st, Q acc st → Q' acc st) : ∀ (l : List Oper) (acc : List (List Nat × List Nat)) (st : St), ALex P w0 own ops Q l acc st → ALex P w0 own ops Q' l acc st
  | [], acc, st, h => hq _ _ h
  | o :: l, acc, st, ⟨K, p, h1, h2, h3, h4⟩ => ⟨K, p, h1, h2, h3, ALex.mono hq l _ _ h4⟩

theorem xwp_region {id : Nat} {os : Array Oper} {draw : Bool} {H : Hooks} (hH : CallsOK P H) (hm : P.follows .mixedOrders = true) {Q : Exit → X → Prop}
    (h : evOps P H os (fun acc x' => match draw with | true => cond (lexOKF os acc.reverse os.toList.length 0) (Q .normal x'.norm) False | false => Q .normal x'.norm) os.toList [] x) : XWP P (.region id os draw) Q x := fun w0 own γ a w hR => by
  have hA := evOps_sound (w0 := w0) (own := own) hH _ _ _ _ h
  have hAWP : AWP P w0 own (.region id os draw) (fun e st => ∃ x' : X, st = x'.S ∧ e = .normal ∧ Q .normal x'.norm) x.S := by
    cases draw with
    | true =>
      have := awp_region_draw (P := P) (w0 := w0) (own := own) (id := id) (l := os.toList) (st := x.S) (Q := fun e st => ∃ x' : X, st = x'.S ∧ e = .normal ∧ Q .normal x'.norm) hm
      simp only [Array.toArray_toList] at this
      refine this (ALex.mono ?_ _ _ _ hA)
      rintro acc st ⟨x', rfl, h12⟩
      obtain ⟨h1, h2⟩ := cond_P h12
      exact ⟨h1, x', rfl, trivial, h2⟩
    | false =>
      have := awp_region (P := P) (w0 := w0) (own := own) (id := id) (l := os.toList) (st := x.S) (Q := fun e st => ∃ x' : X, st = x'.S ∧ e = .normal ∧ Q .normal x'.norm)
      simp only [Array.toArray_toList] at this
      refine this (ALex.mono ?_ _ _ _ hA)
      rintro acc st ⟨x', rfl, h2⟩
      exact ⟨x', rfl, trivial, h2⟩
  refine Code.wp_mono (fun e a' w' hp => ?_) (hAWP γ a w hR)
  obtain ⟨γ', st', h1, h2, x', rfl, rfl, h3⟩ := hp
  obtain ⟨γ2, g1, g2⟩ := h2.norm
  exact ⟨γ2, x'.norm, g1.trans h1.F0, g2, h3⟩

def loopId : Code → Nat
  | .region id _ _ => id
  | .seq a _ => loopId a
  | .block _ c => loopId c
  | .loop c => loopId c
  | _ => 0
def loopsOf : Code → List Code
  | .seq a b => loopsOf a ++ loopsOf b
  | .cond _ a b => loopsOf a ++ loopsOf b
  | .block _ c => loopsOf c
  | .loop c => c :: loopsOf c
  | _ => []

def evp (P : Program) (H : Hooks) : Nat → Code → (Exit → X → Prop) → X → Prop
  | 0, _, _, _ => False
  | n + 1, c, Q, x => match c with
    | .skip => Q .normal x
    | .ret => Q .ret x
    | .exit id => Q (.exit id) x
    | .seq c d => evp P H n c (fun e x' => match e with | .normal => evp P H n d Q x' | e => Q e x') x
    | .block id c => evp P H n c (fun e x' => match e with | .exit i => (match Nat.beq i id with | true => Q .normal x' | false => Q (.exit i) x') | e => Q e x') x
    | .cond t c d => evB x t fun b x' => match b with | true => evp P H n c Q x' | false => evp P H n d Q x'
    | .loop c => match H.loop (loopId c) with
      | some s => s Q x
      | none => rnds (evp P H n c) Q 600 x
    | .region _ os draw => evOps P H os (fun acc x' => match draw with | true => cond (lexOKF os acc.reverse os.toList.length 0) (Q .normal x'.norm) False | false => Q .normal x'.norm) os.toList [] x
    | _ => False

def LoopsOK (P : Program) (H : Hooks) (c : Code) : Prop := ∀ b ∈ loopsOf c, ∀ s, H.loop (loopId b) = some s → ∀ Q x, s Q x → XWP P (.loop b) Q x

theorem evp_sound {H : Hooks} (hH : CallsOK P H) (hm : P.follows .mixedOrders = true) : ∀ (n : Nat) (c : Code) (Q : Exit → X → Prop) (x : X), LoopsOK P H c → evp P H n c Q x → XWP P c Q x
  | 0, _, _, _, _, h => h.elim
  | n + 1, c, Q, x, hl, h => by
    have ih := evp_sound hH hm n
    unfold evp at h
    split at h
    · exact fun w0 own γ a w hR => wp_skip ⟨γ, x, rfl, hR, h⟩
    · exact fun w0 own γ a w hR => wp_ret ⟨γ, x, rfl, hR, h⟩
    · exact fun w0 own γ a w hR => wp_exit ⟨γ, x, rfl, hR, h⟩
    · rename_i c d
      refine xwp_seq (xwp_mono (ih c _ x (fun b hb => hl b (List.mem_append_left _ hb)) h) fun e x' he => ?_)
      cases e with
      | normal => exact ih d Q x' (fun b hb => hl b (List.mem_append_right _ hb)) he
      | _ => exact he
    · rename_i id c
      exact xwp_block (ih c _ x hl h)
    · rename_i t c d
      obtain ⟨b, hb, h⟩ := evB_spec h
      intro w0 own γ a w hR
      have := hR.ev t
      rw [hb] at this
      refine wp_cond (AR.sc_inv this).1 ?_
      cases b with
      | true => exact ih c Q x (fun b hb => hl b (List.mem_append_left _ hb)) h w0 own γ a w hR
      | false => exact ih d Q x (fun b hb => hl b (List.mem_append_right _ hb)) h w0 own γ a w hR
    · rename_i c
      split at h
      · rename_i s hs
        exact hl c (by simp [loopsOf]) s hs Q x h
      · exact xwp_rnds (fun Q x h => ih c Q x (fun b hb => hl b (by simp [loopsOf, hb])) h) 600 h
    · exact xwp_region hH hm h
    · exact h.elim
end

section
open Go
set_option linter.unusedSimpArgs false
set_option linter.unusedVariables false

variable {P : Program} {w0 : World} {own : Nat → Prop} {γ : Gh} {st : St} {a : Act} {w : World} {o : Oper} {x : X} {ops : Array Oper}

/-! ### the end -/
def evRes (P : Program) (x : X) (r : ResultVar) (K : A → Prop) : Prop :=
  match r with
  | .tmp t => K (x.tmps.getD t .dead)
  | .cell t T => match x.tmps.getD t .dead with
    | .c (.rp k g wd i j) => match lookN x.store k with
      | some (.bx tag wd' row) => match Nat.beq tag g && (Nat.beq wd' wd && Nat.beq i 0) with
        | true => evPart P T row j fun y => match y.cells with
          | some cs => match cellsOK cs with | true => K y | false => False
          | none => False
        | false => False
      | _ => False
    | _ => False

theorem cells_mkA {ag : Bool} {cs : List C} {y : A} {ds : List C} (h : mkA ag cs = some y) (hd : y.cells = some ds) : ds = cs := by
  unfold mkA at h
  split at h
  · cases h; simpa [A.cells] using hd.symm
  · split at h
    · cases h
      rename_i c
      cases c <;> simp [A.cells] at hd <;> exact hd.symm
    · cases h

theorem evRes_spec {r : ResultVar} {K : A → Prop} (h : evRes P x r K) : ∃ y, resV P x.S r = some y ∧ K y := by
  unfold evRes at h
  split at h
  · exact ⟨_, rfl, h⟩
  · rename_i t T
    split at h
    · rename_i k g wd i j ht
      split at h
      · rename_i tag wd' row hk
        split at h
        · rename_i hb
          simp only [Bool.and_eq_true] at hb
          obtain ⟨e1, e2, e3⟩ := hb
          have e1 := beq_true e1; have e2 := beq_true e2; have e3 := beq_true e3
          subst e1 e2 e3
          obtain ⟨n, ag, cs, y, q1, q2, q3, q4, q5⟩ := evPart_spec h
          split at q5
          · rename_i ds hds
            split at q5
            · rename_i hok
              have e := cells_mkA q4 hds
              subst e
              refine ⟨y, ?_, q5⟩
              have ht' : x.S.tmps t = .c (.rp k tag wd' 0 j) := ht
              have hk' : x.S.store k = some (XRoot.bx tag wd' row).root := S_store hk
              unfold resV
              simp only [ht', hk', XRoot.root, and_self, if_true, List.getElem?_cons_zero, Option.bind_some, q1, q3, hok, q2, q4]
            · exact q5.elim
          · exact q5.elim
        · exact h.elim
      · exact h.elim
    · exact h.elim

def evRess (P : Program) (x : X) : List ResultVar → (List A → Prop) → Prop
  | [], K => K []
  | r :: l, K => evRes P x r fun y => evRess P x l fun ys => K (y :: ys)
theorem evRess_spec : ∀ (l : List ResultVar) (K : List A → Prop), evRess P x l K → ∃ ys, resVs P x.S l = some ys ∧ K ys
  | [], K, h => ⟨[], rfl, h⟩
  | r :: l, K, h => by
    obtain ⟨y, h1, h2⟩ := evRes_spec h
    obtain ⟨ys, h3, h4⟩ := evRess_spec l _ h2
    exact ⟨y :: ys, by simp [resVs, h1, h3], h4⟩

def outC (x : X) (c : C) (K : D → List Nat → Prop) : Prop :=
  match c with
  | .d (.v v) => K (.v v) []
  | .d d => match d.top0 with | true => K d [] | false => False
  | .rs k g wd lo len kn => match lookN x.store k with
    | some (.sl tag wd' rows) => match Nat.beq tag g && (Nat.beq wd' wd && Nat.beq lo 0) with
      | true => cond (decide (len ≤ rows.length) && rows.all fun r => r.all D.keeps) (K (.s 1 wd (rows.take len) ((rows.drop len).take (kn - len))) [k]) False
      | false => False
    | _ => False
  | _ => False
theorem outC_ev {c : C} {K : D → List Nat → Prop} (h : outC x c K) : ∃ d ks, OutC x.S c d ks ∧ K d ks := by
  unfold outC at h
  split at h
  · exact ⟨_, _, .v _, h⟩
  · split at h
    · exact ⟨_, _, .ro _ ‹_›, h⟩
    · exact h.elim
  · rename_i k g wd lo len kn
    split at h
    · rename_i tag wd' rows hk
      split at h
      · rename_i hb
        simp only [Bool.and_eq_true] at hb
        obtain ⟨e1, e2, e3⟩ := hb
        have e1 := beq_true e1; have e2 := beq_true e2; have e3 := beq_true e3
        subst e1 e2 e3
        obtain ⟨hc, h⟩ := cond_P h
        simp only [Bool.and_eq_true, decide_eq_true_eq] at hc
        exact ⟨_, _, .rs k wd' len kn _ rows (S_store hk) rfl rfl hc.1 hc.2, h⟩
      · exact h.elim
    · exact h.elim
  · exact h.elim
def outL (x : X) : List C → (List D → List Nat → Prop) → Prop
  | [], K => K [] []
  | c :: l, K => outC x c fun d ks => outL x l fun ds kss => K (d :: ds) (ks ++ kss)
theorem outL_ev : ∀ (l : List C) (K : List D → List Nat → Prop), outL x l K → ∃ ds ks, OutL x.S l ds ks ∧ K ds ks
  | [], K, h => ⟨_, _, .nil, h⟩
  | c :: l, K, h => by
    obtain ⟨d, ks, h1, h2⟩ := outC_ev h
    obtain ⟨ds, kss, h3, h4⟩ := outL_ev l _ h2
    exact ⟨_, _, .cons h1 h3, h4⟩
def outA (x : X) (y : A) (K : DV → List Nat → Prop) : Prop :=
  match y with
  | .c c => outC x c fun d ks => K (.c d) ks
  | .agg cs => outL x cs fun ds ks => K (.agg ds) ks
  | _ => False
theorem outA_ev {y : A} {K : DV → List Nat → Prop} (h : outA x y K) : ∃ d ks, OutA x.S y d ks ∧ K d ks := by
  unfold outA at h
  split at h
  · obtain ⟨d, ks, h1, h2⟩ := outC_ev h; exact ⟨_, _, .c h1, h2⟩
  · obtain ⟨d, ks, h1, h2⟩ := outL_ev _ _ h; exact ⟨_, _, .agg h1, h2⟩
  · exact h.elim
def outT (x : X) : List A → (List DV → List Nat → Prop) → Prop
  | [], K => K [] []
  | c :: l, K => outA x c fun d ks => outT x l fun ds kss => K (d :: ds) (ks ++ kss)
theorem outT_ev : ∀ (l : List A) (K : List DV → List Nat → Prop), outT x l K → ∃ ds ks, OutT x.S l ds ks ∧ K ds ks
  | [], K, h => ⟨_, _, .nil, h⟩
  | c :: l, K, h => by
    obtain ⟨d, ks, h1, h2⟩ := outA_ev h
    obtain ⟨ds, kss, h3, h4⟩ := outT_ev l _ h2
    exact ⟨_, _, .cons h1 h3, h4⟩

def nodupN : List Nat → Bool
  | [] => true
  | k :: l => !(l.any fun i => Nat.beq i k) && nodupN l
theorem nodupN_spec : ∀ l, nodupN l = true → l.Nodup
  | [], _ => .nil
  | k :: l, h => by
    simp only [nodupN, Bool.and_eq_true, Bool.not_eq_true'] at h
    refine List.nodup_cons.2 ⟨fun hm => ?_, nodupN_spec l h.2⟩
    have := List.any_eq_false.1 h.1 k hm
    exact this (beq_self k)

def finX (P : Program) (fn : Func) (K : DV → Prop) (e : Exit) (x : X) : Prop :=
  match e with
  | .ret => body
  | .normal => body
  | _ => False
where body := evRess P x fn.results.toList fun ys => match ys with
  | [y] => outA x y fun d ks => match nodupN ks with | true => K d | false => False
  | ys => outT x ys fun ds ks => match nodupN ks with | true => K (.tup ds) | false => False

theorem finX_spec {fn : Func} {res : DV} {e : Exit} (h : finX P fn (fun r => r = res) e x) : FinA P fn res e x.S := by
  have key : ∀ h : finX.body P fn (fun r => r = res) x, ((∃ y ks, resVs P x.S fn.results.toList = some [y] ∧ OutA x.S y res ks ∧ ks.Nodup) ∨ (∃ xs ds ks, resVs P x.S fn.results.toList = some xs ∧ xs.length ≠ 1 ∧ res = .tup ds ∧ OutT x.S xs ds ks ∧ ks.Nodup)) := by
    intro h
    unfold finX.body at h
    obtain ⟨ys, h1, h2⟩ := evRess_spec _ _ h
    split at h2
    · rename_i y
      obtain ⟨d, ks, h3, h4⟩ := outA_ev h2
      split at h4
      · rename_i hn
        subst h4
        exact .inl ⟨y, ks, h1, h3, nodupN_spec _ hn⟩
      · exact h4.elim
    · rename_i hne
      obtain ⟨ds, ks, h3, h4⟩ := outT_ev _ _ h2
      split at h4
      · rename_i hn
        subst h4
        refine .inr ⟨ys, ds, ks, h1, fun hl => ?_, rfl, h3, nodupN_spec _ hn⟩
        match ys, hl with
        | [y], _ => exact hne y rfl
      · exact h4.elim
  unfold finX at h
  split at h
  · exact ⟨.inl rfl, key h⟩
  · exact ⟨.inr rfl, key h⟩
  · exact h.elim

/-! ### the beginning -/
def padA : List A → Nat → List A
  | l, 0 => l
  | [], n + 1 => .dead :: padA [] n
  | y :: l, n + 1 => y :: padA l n
def entryX (n : Nat) (args : List DV) : X :=
  X.ups { tmps := padA (upT (fun _ => 0) 1000000 args).2 n, store := [], gens := [] } (upT (fun _ => 0) 1000000 args).1

theorem padA_len : ∀ (l : List A) (n : Nat), l.length ≤ n → (padA l n).length = n
  | [], 0, _ => rfl
  | _ :: _, 0, h => by simp at h
  | [], n + 1, _ => by simp [padA, padA_len [] n (Nat.zero_le _)]
  | y :: l, n + 1, h => by simp [padA, padA_len l n (by simpa using h)]
theorem padA_get : ∀ (l : List A) (n i : Nat), (padA l n).getD i .dead = l.getD i .dead
  | l, 0, i => by unfold padA; rfl
  | [], n + 1, 0 => by simp [padA]
  | [], n + 1, i + 1 => by
    have := padA_get [] n i
    simp only [padA, List.getD_cons_succ]; rw [this]; simp
  | y :: l, n + 1, 0 => by simp [padA]
  | y :: l, n + 1, i + 1 => by
    have := padA_get l n i
    simp only [padA, List.getD_cons_succ]; exact this

theorem upT_len (gen : Nat → Nat) : ∀ (l : List DV) (k : Nat), (upT gen k l).2.length = l.length
  | [], _ => rfl
  | d :: l, k => by simp [upT, upT_len gen l]

theorem entryX_S (fn : Func) {args : List DV} (hn : args.length ≤ fn.ntmps) (hfit : (DV.tup args).fit32 = true) : (entryX fn.ntmps args).S = entry fn args := by
  have e0 : (entry0 fn).gen = fun _ => 0 := rfl
  unfold entryX entry
  rw [ups_S, matT_up args (entry0 fn) 1000000 hfit, e0]
  simp only [St.ups, St.patch, X.S, entry0, lookN]
  congr 1
  · exact padA_len _ _ (by rw [upT_len]; exact hn)
  · funext i
    exact padA_get _ _ i

theorem ct_ofX {f : FuncId} {fn : Func} {c : Code} {args : List DV} {res : DV} (hf : P.funcs[f]? = some fn) (hb : fn.body = some c) (hn : args.length ≤ fn.ntmps) (hfit : (DV.tup args).fit32 = true)
    (h : XWP P c (finX P fn fun r => r = res) (entryX fn.ntmps args)) : CT P f args res := by
  intro w vs S G hov hG hS
  cases hov with
  | tup _ _ _ sub hs hx hsub hdis =>
    have h0 := Rel.start fn w vs S G hG (by omega)
    have hfree : ∀ i, Free w S { β := fun _ _ => none, F := G, FP := fun _ _ _ _ => False, gen := fun _ => 0, F0 := G } (entry0 fn) w (sub i) := fun i b hb => by
      refine ⟨fun hg => ?_, fun k R hk => by simp [entry0] at hk, .inl (hsub i b hb), hS b (hsub i b hb)⟩
      rcases hg with hg | ⟨_, _, _, hg⟩
      · exact (hG b hg).2 (hsub i b hb)
      · exact hg.elim
    obtain ⟨γ1, q1, q2, ⟨q3, q4⟩, _⟩ := matT_spec args _ (entry0 fn) 1000000 (fun i => vs.getD i undef) sub h0 hx hfree hdis
    have hR : Rel w S γ1 (entry fn args) { tmps := vs ++ Array.replicate (fn.ntmps - vs.size) undef, defers := [] } w := by
      refine q2.know fun i => ?_
      by_cases hi : i < args.length
      · have := q4 i ((matT (entry0 fn) 1000000 args).2[i]'(by omega)) (List.getElem?_eq_getElem _)
        have e1 : (vs ++ Array.replicate (fn.ntmps - vs.size) undef).getD i undef = vs.getD i undef := by
          have : i < vs.size := by omega
          simp [Array.getD_eq_getD_getElem?, Array.getElem?_append, this]
        have e2 : (matT (entry0 fn) 1000000 args).2.getD i .dead = (matT (entry0 fn) 1000000 args).2[i]'(by omega) := by
          simp [List.getD, List.getElem?_eq_getElem (show i < (matT (entry0 fn) 1000000 args).2.length by omega)]
        simp only [e2]
        show AR γ1 w ((vs ++ Array.replicate (fn.ntmps - vs.size) undef).getD i undef) _
        rw [e1]; exact this
      · have e2 : (matT (entry0 fn) 1000000 args).2.getD i .dead = .dead := by
          simp [List.getD, List.getElem?_eq_none (show (matT (entry0 fn) 1000000 args).2.length ≤ i by omega)]
        simp only [e2]
        exact .dead _
    refine calls_of_wp hf hb (Code.wp_mono (fun e a' w' hp => ?_) (h w S γ1 _ w (by rw [entryX_S fn hn hfit]; exact hR)))
    obtain ⟨γ', x', g1, g2, hq⟩ := hp
    obtain ⟨hfin, hres⟩ := finX_spec hq
    generalize hst' : x'.S = st' at g2 hres
    have hF0 : γ'.F0 = G := g1.trans q1.F0
    have hfoot : ∀ ks b, γ'.foot st' ks b → (S b ∨ w.heap.size ≤ b) ∧ b < w'.heap.size ∧ ¬ γ'.F b := by
      rintro ks b ⟨k, R, _, hk, hc | ⟨i, j, hc⟩⟩
      · obtain ⟨p1, _, p3⟩ := g2.rootF k R b hk hc
        exact ⟨p3, g2.ltβ k R.tag b (by rw [g2.gen]; exact g2.tag k R hk) hc, p1⟩
      · obtain ⟨p1, p2⟩ := g2.fpF k i j b hc
        exact ⟨p2, g2.lt b (.inr ⟨k, i, j, hc⟩), p1⟩
    have hG' : ∀ ks b, γ'.F b → (G b ∨ S b ∨ w.heap.size ≤ b) ∧ b < w'.heap.size ∧ ¬ γ'.foot st' ks b := fun ks b hF => by
      refine ⟨?_, g2.lt b (.inl hF), fun hx => (hfoot ks b hx).2.2 hF⟩
      have := g2.fs b hF
      rw [hF0] at this
      exact this
    have key : ∃ v, (results fn a'.tmps).run P w' = .ok v w' ∧ ∃ ks, OV w' γ'.F v res (γ'.foot st' ks) := by
      rcases hres with ⟨x, ks, r1, r2, r3⟩ | ⟨xs, ds, ks, r1, r2, rfl, r4, r5⟩
      · obtain ⟨us, u1, u2, u3⟩ := resVs_spec g2 _ _ r1
        obtain ⟨u, rfl⟩ : ∃ u, us = [u] := by
          match us, u2 with
          | [u], _ => exact ⟨u, rfl⟩
        exact ⟨_, run_results u1, ks, outA_spec g2 (show AR γ' w' u x by simpa using u3 0 x rfl) r2 r3⟩
      · obtain ⟨us, u1, u2, u3⟩ := resVs_spec g2 _ _ r1
        obtain ⟨e1, sub', s1, s2, s3⟩ := outT_spec g2 xs ds ks (fun i => us.getD i undef) r4 r5 u3
        refine ⟨_, run_results u1, ks, ?_⟩
        have : packV us = .tuple us.toArray := by
          match us, u2 with
          | [u], h => simp at h; omega
          | [], _ => rfl
          | _ :: _ :: _, _ => rfl
        rw [this]
        exact .tup _ _ _ sub' (by simp; omega) (fun i d hd => by simpa [Array.getD_eq_getD_getElem?, List.getD] using s1 i d hd) s2 s3
    obtain ⟨v, v1, ks, v2⟩ := key
    have hpost : a'.defers = [] ∧ ∃ v, (results fn a'.tmps).run P w' = .ok v w' ∧ ∃ v' S', Ending.returned v = .returned v' ∧ OV w' (fun b => (G b ∨ S b ∨ w.heap.size ≤ b) ∧ b < w'.heap.size ∧ ¬ S' b) v' res S' ∧ (∀ b, S' b → (S b ∨ w.heap.size ≤ b) ∧ b < w'.heap.size) ∧ Env w S w' :=
      ⟨g2.defers, v, v1, v, γ'.foot st' ks, rfl, v2.mono (hG' ks) (.refl _ _) (.refl _ _), fun b hb => ⟨(hfoot ks b hb).1, (hfoot ks b hb).2.1⟩, g2.env⟩
    rcases hfin with rfl | rfl
    · exact hpost
    · exact hpost

theorem ct_of_evp {H : Hooks} (hH : CallsOK P H) (hm : P.follows .mixedOrders = true) {f : FuncId} {fn : Func} {c : Code} {args : List DV} {res : DV} (n : Nat) (hf : P.funcs[f]? = some fn) (hb : fn.body = some c) (hl : LoopsOK P H c) (hn : args.length ≤ fn.ntmps) (hfit : (DV.tup args).fit32 = true)
    (h : evp P H n c (finX P fn fun r => r = res) (entryX fn.ntmps args)) : CT P f args res :=
  ct_ofX hf hb hn hfit (evp_sound hH hm n c _ _ hl h)
end

section
open Go
set_option linter.unusedSimpArgs false
set_option linter.unusedVariables false

variable {P : Program}

/-! ### contracts, by the callee's number -/
abbrev Spec := List DV → (DV → Prop) → Prop
def SpecOK (P : Program) (f : FuncId) (s : Spec) : Prop := ∀ ds Q, s ds Q → Goes P f ∧ ∃ r, CT P f ds r ∧ r.pureOwn = true ∧ r.fit32 = true ∧ Q r
def lookS : List (FuncId × Spec) → FuncId → Spec
  | [], _ => fun _ _ => False
  | (k, s) :: l, f => match Nat.beq k f with | true => s | false => lookS l f
def hk (l : List (FuncId × Spec)) : Hooks := { call := lookS l, loop := fun _ => none }
inductive SpecsOK (P : Program) : List (FuncId × Spec) → Prop
  | nil : SpecsOK P []
  | cons {f s l} : SpecOK P f s → SpecsOK P l → SpecsOK P ((f, s) :: l)
theorem lookS_ok : ∀ {l : List (FuncId × Spec)}, SpecsOK P l → ∀ f, SpecOK P f (lookS l f)
  | [], _, f => fun ds Q h => h.elim
  | (k, s) :: l, .cons h1 h2, f => by
    unfold lookS
    split
    · rename_i hb
      have := beq_true hb; subst this
      exact h1
    · exact lookS_ok h2 f
theorem hk_ok {l : List (FuncId × Spec)} (h : SpecsOK P l) : CallsOK P (hk l) := fun f ds Q hq => lookS_ok h f ds Q hq
theorem loops_none {l : List (FuncId × Spec)} {c : Code} : LoopsOK P (hk l) c := fun b hb s hs => by cases hs

abbrev I (n : Int) : DV := .c (.v (.int .i64 n))
abbrev B (b : Bool) : DV := .c (.v (.bool b))
abbrev vi (n : Int) : D := .v (.int .i64 n)
def bodyOf (fn : Func) : Code := fn.body.getD .skip

/-- What a function's text says of such data. -/
def ask (P : Program) (l : List (FuncId × Spec)) (fn : Func) (args : List DV) (K : DV → Prop) : Prop := evp P (hk l) 200 (bodyOf fn) (finX P fn K) (entryX fn.ntmps args)

theorem ct_ask {l : List (FuncId × Spec)} (hH : SpecsOK P l) (hm : P.follows .mixedOrders = true) {f : FuncId} {fn : Func} {args : List DV} {res : DV} (hf : P.funcs[f]? = some fn) (hb : fn.body.isSome = true) (hn : Nat.ble args.length fn.ntmps = true) (hfit : (DV.tup args).fit32 = true)
    (h : ask P l fn args fun r => r = res) : CT P f args res := by
  obtain ⟨c, hc⟩ := Option.isSome_iff_exists.1 hb
  have e : bodyOf fn = c := by simp [bodyOf, hc]
  unfold ask at h
  rw [e] at h
  exact ct_of_evp (hk_ok hH) hm 200 hf hc loops_none (Nat.le_of_ble_eq_true hn) hfit h
end

section
open Go Go.ChangeShapes Go.WideShapes Go.ChangeAt Go.RowKit
open Go.ChangeMaps (open_string shut_string)
set_option linter.unusedSimpArgs false
set_option linter.unusedVariables false

variable {P : Program}

/-! ### from a contract to a row -/
theorem below_trodAll {H : Type} {enc : TypeId × Value → H} {P : Program} (hl : laidOutB P = true) {W W' : World} (hb : Below W.heap.size W W') : ∀ {ts : List TypeId} {vs : List Value} {ds : List (DataW H)} {ps : List MemPlace},
    (∀ t ∈ ts, P.readableRec t = true ∧ t < P.types.size) → DataW.TrodAll enc P W 0 (fun _ => true) true ts vs ds ps → (∀ x ∈ ps, x.block < W.heap.size) → DataW.TrodAll enc P W' 0 (fun b => decide (b < W.heap.size)) true ts vs ds ps
  | [], [], [], _, _, h, _ => h
  | t :: ts, v :: vs, d :: ds, _, ht, ⟨p, q, h1, h2, e⟩, hlt => by
    subst e
    exact ⟨p, q, Below.trod hl (ht t (by simp)).1 (ht t (by simp)).2 h1 hb (fun x hx => hlt x (List.mem_append_left _ hx)), below_trodAll hl hb (fun u hu => ht u (List.mem_cons_of_mem _ hu)) h2 (fun x hx => hlt x (List.mem_append_right _ hx)), rfl⟩

theorem calls_true {f : FuncId} {args : List DV} (h : CT P f args (B true)) {w : World} {vs : Array Value} (hov : OV w (· < w.heap.size) (.tuple vs) (.tup args) fun _ => False) : Calls P f vs w fun e w' => e = .returned (.bool true) ∧ Below w.heap.size w w' :=
  (h w vs (fun _ => False) (fun b => b < w.heap.size) hov (fun b hb => ⟨hb, fun h => h⟩) fun _ h => h.elim).mono fun e w' ⟨v, S', he, hv, _, henv⟩ => by
    subst he
    refine ⟨?_, ⟨henv.os, henv.tape, henv.output, henv.size, fun k hk => henv.block k hk fun h => h⟩⟩
    cases hv with
    | c _ _ _ ho => cases ho with
      | r _ _ _ _ hd => cases hd with
        | v _ _ => rfl

theorem ov_args {w : World} {vs : List Value} {ds : List DV} (hl : vs.length = ds.length) (h : ∀ i, i < ds.length → OV w (· < w.heap.size) (vs.getD i undef) (ds.getD i default) fun _ => False) : OV w (· < w.heap.size) (.tuple vs.toArray) (.tup ds) fun _ => False :=
  ov_tuple hl fun i v d hv hd => by
    have hi : i < ds.length := (List.getElem?_eq_some_iff.1 hd).1
    have := h i hi
    simpa [List.getD_eq_getElem?_getD, hv, hd] using this
theorem len1 (l : List Int) (h : l.length = 1) : ∃ a0, l = [a0] := by
  match l, h with | [a0], _ => exact ⟨a0, rfl⟩
theorem len2 (l : List Int) (h : l.length = 2) : ∃ a0 a1, l = [a0, a1] := by
  match l, h with | [a0, a1], _ => exact ⟨a0, a1, rfl⟩
theorem len3 (l : List Int) (h : l.length = 3) : ∃ a0 a1 a2, l = [a0, a1, a2] := by
  match l, h with | [a0, a1, a2], _ => exact ⟨a0, a1, a2, rfl⟩
theorem len4 (l : List Int) (h : l.length = 4) : ∃ a0 a1 a2 a3, l = [a0, a1, a2, a3] := by
  match l, h with | [a0, a1, a2, a3], _ => exact ⟨a0, a1, a2, a3, rfl⟩
theorem len5 (l : List Int) (h : l.length = 5) : ∃ a0 a1 a2 a3 a4, l = [a0, a1, a2, a3, a4] := by
  match l, h with | [a0, a1, a2, a3, a4], _ => exact ⟨a0, a1, a2, a3, a4, rfl⟩
theorem len6 (l : List Int) (h : l.length = 6) : ∃ a0 a1 a2 a3 a4 a5, l = [a0, a1, a2, a3, a4, a5] := by
  match l, h with | [a0, a1, a2, a3, a4, a5], _ => exact ⟨a0, a1, a2, a3, a4, a5, rfl⟩
theorem len7 (l : List Int) (h : l.length = 7) : ∃ a0 a1 a2 a3 a4 a5 a6, l = [a0, a1, a2, a3, a4, a5, a6] := by
  match l, h with | [a0, a1, a2, a3, a4, a5, a6], _ => exact ⟨a0, a1, a2, a3, a4, a5, a6, rfl⟩
theorem len8 (l : List Int) (h : l.length = 8) : ∃ a0 a1 a2 a3 a4 a5 a6 a7, l = [a0, a1, a2, a3, a4, a5, a6, a7] := by
  match l, h with | [a0, a1, a2, a3, a4, a5, a6, a7], _ => exact ⟨a0, a1, a2, a3, a4, a5, a6, a7, rfl⟩
def OVL (w : World) : List Value → List DV → Prop
  | [], [] => True
  | v :: vs, d :: ds => OV w (· < w.heap.size) v d (fun _ => False) ∧ OVL w vs ds
  | _, _ => False
theorem ovl_spec {w : World} : ∀ {vs : List Value} {ds : List DV}, OVL w vs ds → vs.length = ds.length ∧ ∀ (i : Nat) v d, vs[i]? = some v → ds[i]? = some d → OV w (· < w.heap.size) v d fun _ => False
  | [], [], _ => ⟨rfl, by simp⟩
  | v :: vs, d :: ds, h => by
    obtain ⟨h1, h2⟩ := h
    obtain ⟨i1, i2⟩ := ovl_spec h2
    refine ⟨by simp [i1], fun i v' d' hv hd => ?_⟩
    cases i with
    | zero => simp at hv hd; subst hv hd; exact h1
    | succ i => exact i2 i v' d' (by simpa using hv) (by simpa using hd)
  | [], _ :: _, h => h.elim
  | _ :: _, [], h => h.elim
theorem ovl_tuple {w : World} {vs : List Value} {ds : List DV} (h : OVL w vs ds) : OV w (· < w.heap.size) (.tuple vs.toArray) (.tup ds) fun _ => False := ov_tuple (ovl_spec h).1 (ovl_spec h).2
theorem ovl_nil {w : World} : OVL w [] [] := trivial
theorem ovl_cons {w : World} {v : Value} {d : DV} {vs : List Value} {ds : List DV} (h : OV w (· < w.heap.size) v d fun _ => False) (t : OVL w vs ds) : OVL w (v :: vs) (d :: ds) := ⟨h, t⟩
theorem ov_int {w : World} {G S : Nat → Prop} (n : Int) : OV w G (.int .i64 n) (I n) S := .c _ _ _ (.r _ _ _ (by simp) (.v _ rfl))
theorem ov_bool {w : World} {G S : Nat → Prop} (n : Bool) : OV w G (.bool n) (B n) S := .c _ _ _ (.r _ _ _ (by simp) (.v _ rfl))
theorem ov_str {w : World} {G S : Nat → Prop} (s : ByteArray) : OV w G (.string s) (.c (.v (.string s))) S := .c _ _ _ (.r _ _ _ (by simp) (.v _ rfl))
theorem ov_ints {w : World} {G S : Nat → Prop} (ns : List Int) : OV w G (.agg (ns.map (Value.int .i64)).toArray) (.agg (ns.map vi)) S :=
  .agg _ _ _ (fun _ _ => False) (by simp) (fun i d hd => by
    rw [List.getElem?_map] at hd
    obtain ⟨n, hn, rfl⟩ := Option.map_eq_some_iff.1 hd
    refine .r _ _ _ (by simp) ?_
    have : (ns.map (Value.int .i64)).toArray.getD i undef = .int .i64 n := by simp [Array.getD_eq_getD_getElem?, hn]
    rw [this]
    exact .v _ rfl) (fun _ _ h => h.elim) (fun _ _ _ h => h.elim)
theorem ov_ro {w : World} {S : Nat → Prop} {v : Value} {z : Nat} {rows sp : List (List D)} (h : DR w (· < w.heap.size) v (.s 0 z rows sp)) : OV w (· < w.heap.size) v (.c (.s 0 z rows sp)) S := .c _ _ _ (.r _ _ _ (by simp) h)

/-- A type of whole numbers (int) side by side; z: how many. -/
def flat64 (P : Program) (t : TypeId) (z : Nat) : Bool := (match P.underlying t with | some (.int k) => decide (k = .i64) && Nat.beq z 1 | _ => false) || (flatT P t .i64 z && (match P.underlying t with | some (.struct fs) => fs.toList.all fun f => Nat.beq (P.cellsOf f.type) 1 | _ => true))
theorem flatF_get {k : IntKind} {z : Nat} : ∀ (fs : List Field) (i : Nat), flatT.flatF P k z fs i = true → i + fs.length = z ∧ ∀ j f, fs[j]? = some f → f.offset = i + j ∧ P.underlying f.type = some (.int k)
  | [], i, h => by have := beq_true h; simp; omega
  | f :: fs, i, h => by
    simp only [flatT.flatF, Bool.and_eq_true] at h
    obtain ⟨h1, h2, h3, h4⟩ := h
    obtain ⟨g1, g2⟩ := flatF_get fs (i + 1) h4
    refine ⟨by simp; omega, fun j g hg => ?_⟩
    cases j with
    | zero =>
      simp at hg; subst hg
      refine ⟨beq_true h2, ?_⟩
      cases hu : P.underlying f.type with
      | none => rw [hu] at h3; simp at h3
      | some td =>
        rw [hu] at h3
        cases td with
        | int k' => simp only [decide_eq_true_eq] at h3; rw [h3]
        | _ => simp at h3
    | succ j =>
      obtain ⟨e1, e2⟩ := g2 j g (by simpa using hg)
      exact ⟨by omega, e2⟩

theorem ints_of {cs : List Value} {z : Nat} (hl : cs.length = z) (h : ∀ i, i < z → ∃ n, cs[i]? = some (.int .i64 n) ∧ (Lit.int .i64 n).wf = true) : ∃ ns : List Int, ns.length = z ∧ cs = ns.map (Value.int .i64) ∧ ∀ n ∈ ns, (Lit.int .i64 n).wf = true := by
  induction cs generalizing z with
  | nil => exact ⟨[], by simpa using hl, rfl, by simp⟩
  | cons c cs ih =>
    subst hl
    obtain ⟨n, hn, hw⟩ := h 0 (by simp)
    simp at hn
    subst hn
    obtain ⟨ns, h1, h2, h3⟩ := ih rfl fun i hi => by simpa using h (i + 1) (by simpa using hi)
    exact ⟨n :: ns, by simp [h1], by simp [h2], by simpa using ⟨hw, h3⟩⟩

section
variable {H : Type} {enc : TypeId × Value → H} {w : World} {base : Nat} {sp : Nat → Bool} {held : Bool}

theorem drop_take_one {cs : List Value} {i : Nat} {v : Value} (h : (cs.drop i).take 1 = [v]) : cs[i]? = some v := by
  have : ((cs.drop i).take 1)[0]? = some v := by rw [h]; rfl
  simpa using this

theorem flat_cells {t : TypeId} {z fuel : Nat} {cs : List Value} {x : DataW H × List MemPlace} (hz : P.cellsOf t = z) (hf : flat64 P t z = true) (h : DataW.trod enc P w base sp held fuel t cs = some x) :
    ∃ ns : List Int, ns.length = z ∧ cs = ns.map (Value.int .i64) ∧ ∀ n ∈ ns, (Lit.int .i64 n).wf = true := by
  unfold flat64 at hf
  rw [Bool.or_eq_true, Bool.and_eq_true] at hf
  rcases hf with hf | ⟨hf, hf2⟩
  · split at hf
    · rename_i k hu
      simp only [Bool.and_eq_true, decide_eq_true_eq] at hf
      obtain ⟨rfl, hz'⟩ := hf
      have hz1 := beq_true hz'
      subst hz1
      obtain ⟨n, rfl, _, hw⟩ := DataW.trod_int hu h
      exact ⟨[n], rfl, rfl, by simpa using hw⟩
    · cases hf
  · unfold flatT at hf
    split at hf
    · rename_i m e hu
      simp only [Bool.and_eq_true] at hf
      obtain ⟨⟨h1, h2⟩, h3⟩ := hf
      have h1 := beq_true h1
      subst h1
      cases hi : P.info? e with
      | none => rw [hi] at h2; simp at h2
      | some i =>
        rw [hi] at h2
        have h2 := beq_true h2
        have hc : P.cellsOf e = 1 := by simp [Program.cellsOf, hi, h2]
        cases hue : P.underlying e with
        | none => rw [hue] at h3; simp at h3
        | some td =>
          rw [hue] at h3
          cases td with
          | int k' =>
            simp only [decide_eq_true_eq] at h3
            subst h3
            obtain ⟨xs, n, _, _, hl, hxs, hx⟩ := DataW.trod_array hu h
            rw [hc] at hx
            have hget : ∀ i, i < m → ∃ n, cs[i]? = some (.int .i64 n) ∧ (Lit.int .i64 n).wf = true := fun i hi => by
              have := hx i hi
              rw [List.getElem?_eq_getElem (by omega), Nat.mul_one] at this
              obtain ⟨n, e1, _, hw⟩ := DataW.trod_int hue this
              exact ⟨n, drop_take_one e1, hw⟩
            exact ints_of (by omega) hget
          | _ => simp at h3
    · rename_i fs hu
      simp only [Bool.and_eq_true, Bool.not_eq_true'] at hf
      obtain ⟨g1, g2⟩ := flatF_get fs.toList 0 hf.2
      obtain ⟨xs, n, _, _, hl, hxs, hx⟩ := DataW.trod_struct hu h
      refine ints_of (by omega) fun i hi => ?_
      have hif : i < fs.size := by
        have : fs.toList.length = fs.size := by simp
        omega
      have hfi : fs[i]? = some fs[i] := Array.getElem?_eq_getElem hif
      have hfi' : fs.toList[i]? = some fs[i] := by simp [hif]
      obtain ⟨e1, e2⟩ := g2 i _ hfi'
      have := hx i _ hfi
      rw [hu] at hf2
      have hc1 := beq_true (List.all_eq_true.1 hf2 _ (List.mem_of_getElem? hfi'))
      rw [List.getElem?_eq_getElem (by omega), hc1, e1] at this
      obtain ⟨n, e1, _, hw⟩ := DataW.trod_int e2 this
      exact ⟨n, drop_take_one (by simpa using e1), hw⟩
    · cases hf

theorem rd_int {r : Reach} {b0 : Nat} {t : TypeId} {v : Value} {d : DataW H} {ps : List MemPlace} (hu : P.underlying t = some (.int .i64)) (hval : Value.okWide P w r b0 t v) (hd : DataW.Trod enc P w base sp held t v d ps) : ∃ n, v = .int .i64 n ∧ (Lit.int .i64 n).wf = true := by
  obtain ⟨n, rfl⟩ := okWide_int hu hval
  obtain ⟨fuel, hf⟩ := hd
  obtain ⟨m, e, _, hw⟩ := DataW.trod_int hu (show DataW.trod enc P w base sp held fuel t [.int .i64 n] = some _ from hf)
  simp at e; subst e
  exact ⟨n, rfl, hw⟩

theorem rd_flat {z : Nat} {t : TypeId} {v : Value} {d : DataW H} {ps : List MemPlace} (hz : P.cellsOf t = z) (hf : flat64 P t z = true) (hu : ∃ cs, v = .agg cs) (hd : DataW.Trod enc P w base sp held t v d ps) :
    ∃ ns : List Int, ns.length = z ∧ v = .agg (ns.map (Value.int .i64)).toArray ∧ ∀ n ∈ ns, (Lit.int .i64 n).wf = true := by
  obtain ⟨cs, rfl⟩ := hu
  obtain ⟨fuel, h⟩ := hd
  obtain ⟨ns, h1, h2, h3⟩ := flat_cells hz hf (show DataW.trod enc P w base sp held fuel t cs.toList = some _ from h)
  exact ⟨ns, h1, by rw [← h2], h3⟩

theorem okWide_agg {r : Reach} {b0 : Nat} {t : TypeId} {v : Value} (hu : (match P.underlying t with | some (.struct _) | some (.array _ _) => true | _ => false) = true) (hval : Value.okWide P w r b0 t v) : ∃ cs, v = .agg cs := by
  unfold Value.okWide at hval
  split at hval
  · obtain ⟨cs, h, _⟩ := hval; exact ⟨cs, h⟩
  · obtain ⟨cs, h, _⟩ := hval; exact ⟨cs, h⟩
  · rename_i h1 h2
    split at hu
    · rename_i fs h; exact (h1 fs h).elim
    · rename_i n e h; exact (h2 n e h).elim
    · cases hu

/-- A slice of such rows, as it is read. -/
theorem rd_rows {r : Reach} {b0 z : Nat} {t e : TypeId} {v : Value} {d : DataW H} {ps : List MemPlace} (ht : P.underlying t = some (.slice e)) (hz : P.cellsOf e = z) (h0 : 0 < z) (hf : flat64 P e z = true) (hval : Value.okWide P w r b0 t v) (hd : DataW.Trod enc P w base sp held t v d ps) :
    ∃ (A : Option Addr) (cap : Nat) (rows : List (List Int)), v = .slice A rows.length cap ∧ cap ≤ maxLen ∧ rows.length ≤ cap ∧ (∀ r ∈ rows, r.length = z ∧ ∀ n ∈ r, (Lit.int .i64 n).wf = true) ∧ DR w (· < w.heap.size) v (.s 0 z (rows.map fun r => r.map vi) []) := by
  obtain ⟨A0, len0, cap0, rfl⟩ := okWide_slice ht hval
  obtain ⟨fuel, hf'⟩ := hd
  have hf' : DataW.trod enc P w base sp held fuel t [.slice A0 len0 cap0] = some _ := hf'
  rcases Deep.open_slice ht hf' with ⟨h0', _⟩ | ⟨a, len, cap, m, n, D, Pl, h0', hb, hl, hm, hmm, _, hx⟩
  · simp at h0'
    obtain ⟨rfl, rfl, rfl⟩ := h0'
    exact ⟨none, 0, [], rfl, by decide, Nat.le_refl _, by simp, .e none 0 z 0⟩
  · simp at h0'
    obtain ⟨rfl, rfl, rfl⟩ := h0'
    have hlm : len0 ≤ m := by rw [hmm]; split <;> omega
    obtain ⟨V, hV⟩ := Deep.choose_lt (α := List Int) (n := len0) (p := fun i x => w.cells? base (a.add (i * z)) z = some (x.map (Value.int .i64)) ∧ x.length = z ∧ ∀ n ∈ x, (Lit.int .i64 n).wf = true) (fun i hi => by
      obtain ⟨cs', g1, g2⟩ := hx i (by omega)
      rw [hz] at g1
      obtain ⟨ns, q1, q2, q3⟩ := flat_cells hz hf g2
      exact ⟨ns, by rw [← q2]; exact g1, q1, q3⟩)
    refine ⟨some a, cap0, (List.range len0).map V, by simp, hm, by simpa using hl, fun r hr => ?_, ?_⟩
    · obtain ⟨i, hi, rfl⟩ := List.mem_map.1 hr
      exact (hV i (by simpa using hi)).2
    · rcases Nat.eq_zero_or_pos len0 with hz0 | hpos
      · subst hz0; simpa using DR.e (w := w) (G := (· < w.heap.size)) (some a) 0 z cap0
      · have hcell : ∀ i j, i < len0 → j < z → w.cell? ((a.add (i * z)).add j) = some (.int .i64 ((V i).getD j 0)) := fun i j hi hj => by
          obtain ⟨q1, q2, _⟩ := hV i hi
          obtain ⟨_, _, q4⟩ := World.cells?_some q1
          rw [q4 j hj]
          simp [List.getD_eq_getElem?_getD, q2, hj]
        have hspot : a.spot = none ∧ a.block < w.heap.size := by
          have := hcell 0 0 hpos h0
          simp only [Nat.zero_mul, Addr.add, if_true] at this
          unfold World.cell? at this
          split at this
          · rename_i hh
            refine ⟨?_, ?_⟩
            · cases hs : a.spot with
              | none => rfl
              | some q => rw [hs] at this; simp at this
            · rcases Nat.lt_or_ge a.block w.heap.size with h' | h'
              · exact h'
              · rw [Array.getElem?_eq_none h'] at hh; cases hh
          · cases this
        obtain ⟨b, off, spot⟩ := a
        simp only at hspot
        obtain ⟨rfl, hblk⟩ := hspot
        have key := DR.s (w := w) (G := (· < w.heap.size)) 0 ((List.range len0).map fun i => (V i).map vi) [] b off cap0 z (fun i j => .int .i64 ((V i).getD j 0)) hblk (fun r hr => by
          simp only [List.append_nil] at hr
          obtain ⟨i, hi, rfl⟩ := List.mem_map.1 hr
          simpa using (hV i (by simpa using hi)).2.1) (by simpa using hl) (fun i j hi hj => by
          have := hcell i j (by simpa using hi) hj
          rw [addr_add, addr_add] at this
          rw [← Nat.add_assoc]; exact this) (fun i j r d hr hd => by
          simp only [List.append_nil, List.getElem?_map] at hr
          obtain ⟨i', hi', rfl⟩ := Option.map_eq_some_iff.1 hr
          have : i' = i := by
            have := (List.getElem?_eq_some_iff.1 hi').2; simpa using this.symm
          subst this
          rw [List.getElem?_map] at hd
          obtain ⟨n, hn, rfl⟩ := Option.map_eq_some_iff.1 hd
          rw [show (V i').getD j 0 = n by simp [List.getD_eq_getElem?_getD, hn]]
          exact .v _ rfl)
        simpa [Function.comp_def] using key
end
end
end Vm
