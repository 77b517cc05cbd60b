/- An interpreter for Go's texts over plain data, its proof, and what it says of the functions that the law reaches. My own work. -/
import Derived.Test.YtnhodnfnlnccaaaGreatMs1
set_option linter.unusedSimpArgs false
set_option linter.unusedVariables false
set_option maxRecDepth 100000
set_option maxHeartbeats 2000000
namespace Vm
section
open Go
variable {P : Program} {w0 : World} {own : Nat → Prop} {γ : Gh} {st : St} {a : Act} {w : World} {o : Oper} {x : X} {ops : Array Oper}
def cellW (P : Program) : Nat → TypeId → List (Option Nat)
  | 0, _ => []
  | n + 1, t => match P.underlying t with
    | some (.slice e) => [szT P e]
    | some (.struct fs) => fs.toList.flatMap fun f => cellW P n f.type
    | some (.array m e) => (List.range m).flatMap fun _ => cellW P n e
    | _ => [none]
def ZjE (c : C) : Bool := match c with | .d (.v (.slice none 0 0)) => true | _ => false
theorem Zlw {c : C} (h : ZjE c = true) : c = .d (.v (.slice none 0 0)) := by
  unfold ZjE at h
  split at h
  · rfl
  · cases h
def Zhp (w : Option Nat) (c : C) : C := match ZjE c, w with | true, some z => .d (.s 0 z [] []) | _, _ => c
def Zhc : List (Option Nat) → List C → List C
  | w :: ws, c :: cs => Zhp w c :: Zhc ws cs
  | _, cs => cs
def Zqk (P : Program) (t : TypeId) (cs : List C) : List C := match cs.any ZjE with | true => Zhc (cellW P 9 t) cs | false => cs
theorem ZnP {v : Value} {c : C} (wd : Option Nat) (h : CR γ w v c) : CR γ w v (Zhp wd c) := by
  unfold Zhp
  split
  · rename_i z hn
    have := Zlw hn
    subst this
    have e := (AR.sc_inv (show AR γ w v (sc (.slice none 0 0)) from .c _ _ h)).1
    subst e
    exact .d _ _ (.e none 0 z 0)
  · exact h
theorem ZnK (σ : Nat → Option Root) (n : Nat) (wd : Option Nat) (c : C) {k : Nat} (h : k ∈ Zcy σ n (Zhp wd c)) : k ∈ Zcy σ n c := by
  unfold Zhp at h
  split at h
  · cases n <;> simp [Zcy] at h
  · exact h
theorem Zhz : ∀ (ws : List (Option Nat)) (cs : List C), (Zhc ws cs).length = cs.length ∧ ∀ (i : Nat) c, cs[i]? = some c → ∃ wd, (Zhc ws cs)[i]? = some (Zhp wd c)
  | [], cs => ⟨by cases cs <;> rfl, fun i c h => ⟨none, by
      have e : Zhc [] cs = cs := by cases cs <;> rfl
      rw [e, h]; unfold Zhp; split
      · rename_i h; cases h
      · rfl⟩⟩
  | wd :: ws, [] => ⟨rfl, by simp⟩
  | wd :: ws, c :: cs => by
    obtain ⟨h1, h2⟩ := Zhz ws cs
    refine ⟨by simp [Zhc, h1], fun i c' h => ?_⟩
    cases i with
    | zero => simp at h; subst h; exact ⟨wd, rfl⟩
    | succ i => simpa [Zhc] using h2 i c' (by simpa using h)
theorem ZnE (c : C) : Zhp none c = c := by unfold Zhp; split <;> first | rfl | (rename_i h; cases h)
theorem ZoN (P : Program) (t : TypeId) (cs : List C) : (Zqk P t cs).length = cs.length ∧ ∀ (i : Nat) c, cs[i]? = some c → ∃ wd, (Zqk P t cs)[i]? = some (Zhp wd c) := by
  unfold Zqk
  split
  · exact Zhz _ _
  · exact ⟨rfl, fun i c h => ⟨none, by rw [h, ZnE]⟩⟩
def Zsy (P : Program) (x : X) (t : TypeId) (y : A) (K : DV → Prop) : Prop :=
  match y with
  | .c (.d (.v (.slice none 0 0))) => match elT P t with
    | some e => match szT P e with | some z => K (.c (.s 0 z [] [])) | none => False
    | none => False
  | .c c => evC x 40 c fun d => K (.c d)
  | .agg cs => evC.evCL (evC x 40) (Zqk P t cs) fun ds => K (.agg ds)
  | _ => False
def Znr (x : X) (y : A) (d : DV) : Prop :=
  ∀ (w0 : World) (own : Nat → Prop) (γ : Gh) (st : St) (a : Act) (w : World) (v : Value), Rel w0 own γ st a w → (∀ k, k ∈ Zt2 x.S.store 40 y → st.store k = x.S.store k) → AR γ w v y → OV w (· < w.heap.size) v d fun _ => False
theorem ZrE {c : C} {d : D} (h : Reads x 40 c d) : Znr x (.c c) (.c d) := fun w0 own γ st a w v hR hk hv => by
  cases hv with
  | c _ _ hc =>
    obtain ⟨h1, h2⟩ := h.2 w0 own γ st a w v hR hk hc
    exact .c _ _ _ (.r _ _ _ h2 h1)
theorem ZnL {t : TypeId} {y : A} {K : DV → Prop} (h : Zsy P x t y K) : ∃ d, K d ∧ Znr x y d := by
  unfold Zsy at h
  split at h
  · split at h
    · split at h
      · rename_i z _
        refine ⟨_, h, fun w0 own γ st a w v hR hk hv => ?_⟩
        obtain ⟨rfl, _⟩ := AR.sc_inv hv
        exact .c _ _ _ (.r _ _ _ (by simp) (.e none 0 z 0))
      · exact h.elim
    · exact h.elim
  · obtain ⟨d, h1, h2⟩ := Zdr _ _ _ h
    exact ⟨_, h1, ZrE h2⟩
  · rename_i cs
    obtain ⟨ds, h1, h2, h3⟩ := ZcV (fun c K => Zdr 40 c K) _ _ h
    obtain ⟨n1, n2⟩ := ZoN P t cs
    refine ⟨_, h1, fun w0 own γ st a w v hR hk hv => ?_⟩
    cases hv with
    | agg vs _ hs hc =>
      refine .agg vs ds _ (fun _ _ => False) (by omega) (fun i d hd => ?_) (fun _ _ h => h) (fun _ _ _ h _ => h.elim)
      have hq : i < cs.length := by have := (List.getElem?_eq_some_iff.1 hd).1; omega
      have hcr := hc i cs[i] (List.getElem?_eq_getElem hq)
      obtain ⟨wd, hw⟩ := n2 i cs[i] (List.getElem?_eq_getElem hq)
      have hrd := h3 i _ d hw hd
      obtain ⟨g1, g2⟩ := hrd.2 w0 own γ st a w _ hR (fun k hkk => hk k (List.mem_flatMap.2 ⟨_, List.getElem_mem hq, ZnK _ _ wd _ hkk⟩)) (ZnP wd hcr)
      exact .r _ _ _ g2 g1
  · exact h.elim
def Zk0 (P : Program) (x : X) : List Operand → List TypeId → (List DV → Prop) → Prop
  | [], _, K => K []
  | y :: l, ts, K => Zsy P x (ts.headD 0) (evA x.S y) fun d => Zk0 P x l ts.tail fun ds => K (d :: ds)
theorem Zdl : ∀ (l : List Operand) (ts : List TypeId) (K : List DV → Prop), Zk0 P x l ts K → ∃ ds, K ds ∧ l.length = ds.length ∧ ∀ (i : Nat) y d, l[i]? = some y → ds[i]? = some d → Znr x (evA x.S y) d
  | [], ts, K, h => ⟨[], h, rfl, by simp⟩
  | y :: l, ts, K, h => by
    simp only [Zk0] at h
    obtain ⟨d, h1, h2⟩ := ZnL h
    obtain ⟨ds, h3, h4, h5⟩ := Zdl l _ _ h1
    refine ⟨d :: ds, h3, by simp [h4], fun i y' d' hy hd => ?_⟩
    cases i with
    | zero => simp at hy hd; subst hy hd; exact h2
    | succ i => exact h5 i y' d' (by simpa using hy) (by simpa using hd)
def CTN (P : Program) (f : FuncId) (args : List DV) (res : DV) : Prop :=
  ∀ (w : World) (vs : Array Value) (S G : Nat → Prop), OV w G (.tuple vs) (.tup args) S → (∀ b, G b → b < w.heap.size ∧ ¬ S b) → (∀ b, S b → b < w.heap.size) →
    Calls P f vs w fun e w' => ∃ v S', e = .returned v ∧ OV w' (fun b => (S b ∨ w.heap.size ≤ b) ∧ b < w'.heap.size ∧ ¬ S' b) v res S' ∧ (∀ b, S' b → (S b ∨ w.heap.size ≤ b) ∧ b < w'.heap.size) ∧ Env w S w'
theorem ZkF {f : FuncId} {ds : List DV} {r : DV} (hc : CT P f ds r) (hp : r.pureOwn = true ∨ (DV.tup ds).pureOwn = true ∨ CTN P f ds r) : CTN P f ds r := by
  rcases hp with hp | hp | hp
  · exact fun w vs S G hov hG hS => (hc w vs S G hov hG hS).mono fun e w' ⟨v, S', he, hv, hS', henv⟩ => ⟨v, S', he, hv.pure hp, hS', henv⟩
  · exact fun w vs S G hov hG hS => (hc w vs S (fun _ => False) (hov.pure hp) (fun b h => h.elim) hS).mono fun e w' ⟨v, S', he, hv, hS', henv⟩ => ⟨v, S', he, hv.mono (fun b ⟨h1, h2, h3⟩ => ⟨h1.elim (fun h => h.elim) id, h2, h3⟩) (.refl _ _) (.refl _ _), hS', henv⟩
  · exact hp
def Frz (r r0 : DV) : Prop := ∀ (w : World) (G : Nat → Prop) (v : Value) (S : Nat → Prop), OV w G v r S → OV w (fun b => G b ∨ S b) v r0 fun _ => False
theorem CTN.frz {f : FuncId} {ds : List DV} {r r0 : DV} (hc : CTN P f ds r) (hz : Frz r r0) : CTN P f ds r0 := fun w vs S G hov hG hS => (hc w vs S G hov hG hS).mono fun e w' ⟨v, S', he, hv, hS', henv⟩ =>
  ⟨v, fun _ => False, he, (hz _ _ _ _ hv).mono (fun b h => h.elim (fun h => ⟨h.1, h.2.1, fun h => h.elim⟩) fun h => ⟨(hS' b h).1, (hS' b h).2, fun h => h.elim⟩) (.refl _ _) (.refl _ _), fun b h => h.elim, henv⟩
theorem CTN.ct {f : FuncId} {ds : List DV} {r : DV} (hc : CTN P f ds r) : CT P f ds r := fun w vs S G hov hG hS => (hc w vs S G hov hG hS).mono fun e w' ⟨v, S', he, hv, hS', henv⟩ =>
  ⟨v, S', he, hv.mono (fun b ⟨h1, h2, h3⟩ => ⟨.inr h1, h2, h3⟩) (.refl _ _) (.refl _ _), hS', henv⟩
def Enters (P : Program) (w0 : World) (own : Nat → Prop) (o : Oper) (st : St) (f : FuncId) (ds : List DV) : Prop :=
  ∀ γ a w, Rel w0 own γ st a w → ∃ vs, (execOp a.eval o).run P w = .ok (.enter f vs) w ∧ OV w (· < w.heap.size) (.tuple vs) (.tup ds) fun _ => False
theorem Zrp {f : FuncId} {ds : List DV} {res : DV} (k : Nat) (hd : (matV st k res).1.fits o.dst = true) (he : Enters P w0 own o st f ds) (hct : CT P f ds res) (hp : res.pureOwn = true ∨ (DV.tup ds).pureOwn = true ∨ CTN P f ds res) : OpOK P w0 own o st ((matV st k res).1.put o.dst (matV st k res).2) := by
  intro γ a w next Q hR hn
  obtain ⟨vs, hex, hov⟩ := he γ a w hR
  have hcall := ZkF hct hp w _ (fun _ => False) _ hov (fun b hb => ⟨hb, fun h => h⟩) (fun _ h => h.elim)
  simp only [Oper.wp, hex, Oper.upon_enter]
  refine hcall.mono fun e w' ⟨v, S', he, hv, hS', henv⟩ => ?_
  subst he
  simp only
  have hR1 := hR.world (w' := w') (fun b hb => henv.block b hb fun h => h) henv.size henv.os henv.tape henv.output
  have hfreshN : ∀ b, w.heap.size ≤ b → b < w'.heap.size → Free w0 own γ st w' (fun c => c = b) := by
    rintro b hb hb' c rfl
    refine ⟨fun hG => ?_, fun k' R hk hβ => ?_, .inr (Nat.le_trans hR.env.size hb), hb'⟩
    · have := hR.lt c hG; omega
    · have := hR.ltβ k' R.tag c (by rw [hR.gen]; exact hR.tag k' R hk) hβ; omega
  have hfree : ∀ S : Nat → Prop, (∀ b, S b → w.heap.size ≤ b ∧ b < w'.heap.size) → Free w0 own γ st w' S := fun S h b hb => hfreshN b (h b hb).1 (h b hb).2 b rfl
  have hSf : ∀ b, S' b → w.heap.size ≤ b ∧ b < w'.heap.size := fun b hb => ⟨(hS' b hb).1.elim (fun h => h.elim) id, (hS' b hb).2⟩
  obtain ⟨hR2, hle2⟩ := hR1.still (N := fun b => w.heap.size ≤ b ∧ b < w'.heap.size ∧ ¬ S' b) (hfree _ fun b hb => ⟨hb.1, hb.2.1⟩)
  have hv2 : OV w' (γ.still fun b => w.heap.size ≤ b ∧ b < w'.heap.size ∧ ¬ S' b).F v res S' := hv.mono (fun b ⟨h1, h2, h3⟩ => .inr ⟨h1.elim (fun h => h.elim) id, h2, h3⟩) (.refl _ _) (.refl _ _)
  have hfS : Free w0 own (γ.still fun b => w.heap.size ≤ b ∧ b < w'.heap.size ∧ ¬ S' b) st w' S' := by
    intro b hb
    obtain ⟨f1, f2, f3, f4⟩ := hfree S' hSf b hb
    refine ⟨fun hG => ?_, f2, f3, f4⟩
    rcases hG with (hF | hN) | hf
    · exact f1 (.inl hF)
    · exact hN.2.2 hb
    · exact f1 (.inr hf)
  obtain ⟨γ3, q1, q2, q3, _⟩ := Zg2 hR2 k hv2 hfS
  exact hn γ3 _ w' (Gh.le_trans hle2 q1) (q2.put q3 hd)
theorem Zm6 {f : FuncId} {ds : List DV} {res : DV} {Ks : List Nat} (k : Nat) (hd : st.fits o.dst = true) (he : ∀ st', Alike ops o (Ks ++ (upV st.gen k res).1.map (·.1)) st st' → Enters P w0 own o st' f ds) (hct : CT P f ds res) (hp : res.pureOwn = true ∨ (DV.tup ds).pureOwn = true ∨ CTN P f ds res) (hfit : res.fit32 = true) :
    PatchOK P w0 own ops o (Ks ++ (upV st.gen k res).1.map (·.1)) st ⟨o.dst, (upV st.gen k res).2, toU (upV st.gen k res).1⟩ := by
  refine ⟨rfl, fun i hi => ?_, fun st' hal => ?_⟩
  · rw [Zcu] at hi; exact List.mem_append_right _ hi
  · have e2 : upV st'.gen k res = upV st.gen k res := Zgt fun i hi => hal.gen i (List.mem_append_right _ hi)
    have e3 := Zl9 st' k res hfit
    have := Zrp (P := P) (w0 := w0) (own := own) (st := st') (o := o) (res := res) k (by
      rw [e3]
      have := Zaf hal hd
      cases h : o.dst <;> simp_all [St.fits, St.ups, St.patch]) (he st' hal) hct hp
    rw [e3, e2, Zll] at this
    exact this
def Zp0 (P : Program) (w0 : World) (own : Nat → Prop) (o : Oper) (st : St) (f : FuncId) (ds : List DV) : Prop :=
  ∀ γ a w, Rel w0 own γ st a w → ∃ vs, (execOp a.eval o).run P w = .ok (.enter f vs) w ∧ OV w γ.F (.tuple vs) (.tup ds) fun _ => False
theorem ZrA {f : FuncId} {ds : List DV} {res : DV} (k : Nat) (hd : (matV st k res).1.fits o.dst = true) (he : Zp0 P w0 own o st f ds) (hct : CT P f ds res) : OpOK P w0 own o st ((matV st k res).1.put o.dst (matV st k res).2) := by
  intro γ a w next Q hR hn
  obtain ⟨vs, hex, hov⟩ := he γ a w hR
  have hcall := hct w _ (fun _ => False) γ.F hov (fun b hb => ⟨hR.lt b (.inl hb), fun h => h⟩) (fun _ h => h.elim)
  simp only [Oper.wp, hex, Oper.upon_enter]
  refine hcall.mono fun e w' ⟨v, S', he, hv, hS', henv⟩ => ?_
  subst he
  simp only
  have hR1 := hR.world (w' := w') (fun b hb => henv.block b hb fun h => h) henv.size henv.os henv.tape henv.output
  have hfreshN : ∀ b, w.heap.size ≤ b → b < w'.heap.size → Free w0 own γ st w' (fun c => c = b) := by
    rintro b hb hb' c rfl
    refine ⟨fun hG => ?_, fun k' R hk hβ => ?_, .inr (Nat.le_trans hR.env.size hb), hb'⟩
    · have := hR.lt c hG; omega
    · have := hR.ltβ k' R.tag c (by rw [hR.gen]; exact hR.tag k' R hk) hβ; omega
  have hfree : ∀ S : Nat → Prop, (∀ b, S b → w.heap.size ≤ b ∧ b < w'.heap.size) → Free w0 own γ st w' S := fun S h b hb => hfreshN b (h b hb).1 (h b hb).2 b rfl
  have hSf : ∀ b, S' b → w.heap.size ≤ b ∧ b < w'.heap.size := fun b hb => ⟨(hS' b hb).1.elim (fun h => h.elim) id, (hS' b hb).2⟩
  obtain ⟨hR2, hle2⟩ := hR1.still (N := fun b => w.heap.size ≤ b ∧ b < w'.heap.size ∧ ¬ S' b) (hfree _ fun b hb => ⟨hb.1, hb.2.1⟩)
  have hv2 : OV w' (γ.still fun b => w.heap.size ≤ b ∧ b < w'.heap.size ∧ ¬ S' b).F v res S' := hv.mono (fun b ⟨h1, h2, h3⟩ => h1.elim .inl fun h => h.elim (fun h => h.elim) fun h => .inr ⟨h, h2, h3⟩) (.refl _ _) (.refl _ _)
  have hfS : Free w0 own (γ.still fun b => w.heap.size ≤ b ∧ b < w'.heap.size ∧ ¬ S' b) st w' S' := by
    intro b hb
    obtain ⟨f1, f2, f3, f4⟩ := hfree S' hSf b hb
    refine ⟨fun hG => ?_, f2, f3, f4⟩
    rcases hG with (hF | hN) | hf
    · exact f1 (.inl hF)
    · exact hN.2.2 hb
    · exact f1 (.inr hf)
  obtain ⟨γ3, q1, q2, q3, _⟩ := Zg2 hR2 k hv2 hfS
  exact hn γ3 _ w' (Gh.le_trans hle2 q1) (q2.put q3 hd)
theorem ZrL {f : FuncId} {ds : List DV} {res : DV} {Ks : List Nat} (k : Nat) (hd : st.fits o.dst = true) (he : ∀ st', Alike ops o (Ks ++ (upV st.gen k res).1.map (·.1)) st st' → Zp0 P w0 own o st' f ds) (hct : CT P f ds res) (hfit : res.fit32 = true) :
    PatchOK P w0 own ops o (Ks ++ (upV st.gen k res).1.map (·.1)) st ⟨o.dst, (upV st.gen k res).2, toU (upV st.gen k res).1⟩ := by
  refine ⟨rfl, fun i hi => ?_, fun st' hal => ?_⟩
  · rw [Zcu] at hi; exact List.mem_append_right _ hi
  · have e2 : upV st'.gen k res = upV st.gen k res := Zgt fun i hi => hal.gen i (List.mem_append_right _ hi)
    have e3 := Zl9 st' k res hfit
    have := ZrA (P := P) (w0 := w0) (own := own) (st := st') (o := o) (res := res) k (by
      rw [e3]
      have := Zaf hal hd
      cases h : o.dst <;> simp_all [St.fits, St.ups, St.patch]) (he st' hal) hct
    rw [e3, e2, Zll] at this
    exact this
def band (x y : Int) : Int := IntKind.i64.wrap (BitVec.toNat (BitVec.ofInt 64 x &&& BitVec.ofInt 64 y))
def bor (x y : Int) : Int := IntKind.i64.wrap (BitVec.toNat (BitVec.ofInt 64 x ||| BitVec.ofInt 64 y))
def bxor (x y : Int) : Int := IntKind.i64.wrap (BitVec.toNat (BitVec.ofInt 64 x ^^^ BitVec.ofInt 64 y))
def rI2F (n : Int) : Nat := FloatKind.f64.nearest n
def rOK (b : Nat) : Bool := match (FloatKind.f64.decode b).toInt .zero with | some n => decide (IntKind.i64.min ≤ n ∧ n ≤ IntKind.i64.max) | none => false
def rF2I (b : Nat) : Int := ((FloatKind.f64.decode b).toInt .zero).getD 0
theorem Ztx {P : Program} {b : Nat} (h : rOK b = true) : ZaU P (Conv.floatToInt .f64 b .i64) = some (.int .i64 (rF2I b)) := by
  unfold rOK at h
  unfold Conv.floatToInt rF2I
  split at h
  · rename_i n hn
    have h := of_decide_eq_true h
    simp only [hn, if_pos h, Option.getD_some]
    rfl
  · cases h
structure Hooks where
  split : Bool := false
  spl : Bool := false
  foc : Bool := false
  cpy : Bool := false
  give : Nat → Bool := fun _ => false
  over : Nat → Bool := fun _ => false
  pick : Nat → Option Int := fun _ => none
  and : Int → Int → Int
  or : Int → Int → Int
  i2f : Int → Nat
  f2i : Nat → Int
  fok : Nat → Bool
  call : FuncId → List DV → (DV → Prop) → Prop
  loop : Nat → Option ((Exit → X → Prop) → X → Prop)
  free : FuncId → Bool := fun _ => false
  callF : FuncId → List DV → (DV → Prop) → Prop := fun _ _ _ => False
  inl : FuncId → Option (List Operand → Option Nat → X → (X → Prop) → Prop) := fun _ => none
def Zbt (P : Program) (f : FuncId) (F : List Operand → Option Nat → X → (X → Prop) → Prop) : Prop := ∀ (o : Oper) (args : Array Operand) (tys : Array TypeId), o.op = .call { callee := .value (.func f), args := args, argTypes := tys } → ∀ (x : X) (K : X → Prop), F args.toList o.dst x K →
  ∀ w0 own γ a w, Rel w0 own γ x.S a w → ∀ (next : Act → World → Prop) (Q : Exit → Act → World → Prop), (∀ γ' a' w' (x' : X), γ'.F0 = γ.F0 → Rel w0 own γ' x'.S a' w' → K x' → next a' w') → o.wp P a w next Q
def ZpT (P : Program) (H : Hooks) : Prop := (∀ f F, H.inl f = some F → Zbt P f F) ∧ ∀ f ds Q, H.callF f ds Q → Goes P f ∧ ∃ r, CT P f ds r ∧ r.fit32 = true ∧ Q r
theorem Zkr {H : Hooks} (h : H.inl = fun _ => none) (h2 : H.callF = fun _ _ _ => False := by rfl) : ZpT P H := ⟨fun f F e => (by rw [h] at e; cases e), fun f ds Q e => (by rw [h2] at e; exact e.elim)⟩
def Zam (P : Program) (H : Hooks) : Prop := (∀ x y, H.and x y = band x y) ∧ (∀ x y, H.or x y = bor x y) ∧ ((∀ x, H.i2f x = rI2F x) ∧ (∀ x, H.f2i x = rF2I x) ∧ ∀ x, H.fok x = rOK x) ∧ (∀ f ds Q, H.call f ds Q → Goes P f ∧ ∃ r, CT P f ds r ∧ (r.pureOwn = true ∨ (DV.tup ds).pureOwn = true ∨ CTN P f ds r) ∧ r.fit32 = true ∧ Q r) ∧ ZpT P H
def hasK : List (Nat × XRoot) → Nat → Bool
  | [], _ => false
  | (i, _) :: l, k => (Nat.ble k i && Nat.ble (i + 1) (k + 32)) || hasK l k
def ZrF (s : List (Nat × XRoot)) (base : Nat) : Nat → Nat → Nat
  | 0, _ => base
  | n + 1, k => match hasK s k with | true => ZrF s base n (k + 32) | false => k
def X.freeC (x : X) (o : Oper) : Nat := ZrF x.store (1000 * keyO o) 31 (1000 * keyO o)
def X.freeO (x : X) (o : Oper) : Nat := match Zar x.store (keyO o) with
  | none => keyO o
  | some _ => ZrF x.store (keyO o) 31 (40000000 + 1000 * keyO o)
def Zl8 (x : X) (l : List Operand) : List Nat := l.flatMap fun y => Zt2 x.S.store 40 (evA x.S y)
def D.notOwn : D → Bool
  | .s t _ _ _ => match t with | 1 => false | _ => true
  | _ => true
theorem Zct {d : D} (h : d.notOwn = true) (z : Nat) (rows sp : List (List D)) : d ≠ .s 1 z rows sp := by
  rintro rfl; simp [D.notOwn] at h
def D.arg : D → DV
  | .f fn fs cs => (match Nat.beq fn AG with | true => .agg cs | false => .c (.f fn fs cs))
  | d => .c d
def D.argOK : D → Bool
  | .f fn _ cs => (match Nat.beq fn AG with | true => cs.all D.notOwn | false => true)
  | d => d.notOwn
theorem D.arg_spec {w : World} {G : Nat → Prop} {v : Value} {d : D} (h : DR w G v d) (hn : d.argOK = true) : OV w G v d.arg fun _ => False := by
  cases d with
  | f fn fs cs =>
    simp only [D.arg, D.argOK] at hn ⊢
    split
    · rename_i hb
      rw [hb] at hn
      have := Zaa hb
      subst this
      cases h with
      | f _ _ _ _ _ h0 => exact (h0 rfl).elim
      | a _ vs h1 h2 =>
        exact .agg vs cs _ (fun _ _ => False) h1 (fun i d hd => .r _ _ _ (Zct (List.all_eq_true.1 hn d (List.mem_of_getElem? hd))) (h2 i d hd)) (fun _ _ h => h) (fun _ _ _ h _ => h.elim)
    · exact .c _ _ _ (.r _ _ _ (by simp) h)
  | v x => exact .c _ _ _ (.r _ _ _ (Zct hn) h)
  | s t z rows sp => exact .c _ _ _ (.r _ _ _ (Zct hn) h)
  | p t cells off => exact .c _ _ _ (.r _ _ _ (Zct hn) h)
def ZmJ (x : X) (c : Operand) (K : FuncId → List DV → List DV → Prop) : Prop :=
  match c with
  | .func f => K f [] []
  | .tmp t => match x.tmps.getD t .dead with
    | .c y => evC x 40 y fun d => match d with
      | .f fn fs cs => match fs.all D.argOK && (cs.all D.notOwn && !(Nat.beq fn AG)) with | true => K fn (fs.map D.arg) (cs.map .c) | false => False
      | _ => False
    | _ => False
  | _ => False
def ZmX (P : Program) (H : Hooks) (o : Oper) (x : X) (c : Operand) (args : Array Operand) (tys : Array TypeId) (K : KO) : Prop :=
  ZmJ x c fun f fs cs => Zk0 P x args.toList tys.toList fun ds => H.call f (fs ++ (ds ++ cs)) fun res =>
    K (Zl8 x (c :: args.toList) ++ (upV x.gen (x.freeC o) res).1.map (·.1)) ⟨(upV x.gen (x.freeC o) res).2, (upV x.gen (x.freeC o) res).1⟩ x
theorem Zi1 {vs : List Value} {ds : List DV} (hl : vs.length = ds.length) (h : ∀ (i : Nat) v d, vs[i]? = some v → ds[i]? = some d → OV w (· < w.heap.size) v d fun _ => False) : OV w (· < w.heap.size) (.tuple vs.toArray) (.tup ds) fun _ => False :=
  .tup _ _ _ (fun _ _ => False) (by simp [hl]) (fun i d hd => by
    have hi : i < vs.length := by have := (List.getElem?_eq_some_iff.1 hd).1; omega
    have := h i vs[i] d (List.getElem?_eq_getElem hi) hd
    simpa [Array.getD, hi] using this) (fun _ _ h => h) (fun _ _ _ h _ => h.elim)
theorem ZfH {H : Hooks} (hH : Zam P H) {c : Operand} {args : Array Operand} {tys : Array TypeId} (ho : o.op = .call { callee := .value c, args := args, argTypes := tys }) : Za6 P o x (ZmX P H o x c args tys) := fun K h hd => by
  have hops : o.op.operands.toList = c :: args.toList := by rw [ho]; simp [Op.operands, Call.operands]
  have hargs : ∀ (ds : List DV), args.toList.length = ds.length → (∀ (i : Nat) y d, args.toList[i]? = some y → ds[i]? = some d → Znr x (evA x.S y) d) →
      ∀ (w0 : World) (own : Nat → Prop) (γ : Gh) (st' : St) (a : Act) (w : World), Rel w0 own γ st' a w → (∀ y ∈ c :: args.toList, evA st' y = evA x.S y) → (∀ k ∈ Zl8 x (c :: args.toList), st'.store k = x.S.store k) →
        ∀ (i : Nat) v d, (args.toList.map a.eval)[i]? = some v → ds[i]? = some d → OV w (· < w.heap.size) v d fun _ => False := by
    intro ds hl hr w0 own γ st' a w hR h1 h2 i v d hv hd
    rw [List.getElem?_map] at hv
    obtain ⟨y, hy, rfl⟩ := Option.map_eq_some_iff.1 hv
    have hym : y ∈ c :: args.toList := List.mem_cons_of_mem _ (List.mem_of_getElem? hy)
    have := hR.ev y
    rw [h1 y hym] at this
    exact hr i y d hy hd w0 own γ st' a w _ hR (fun k hk => h2 k (List.mem_flatMap.2 ⟨y, hym, hk⟩)) this
  unfold ZmX ZmJ at h
  split at h
  · rename_i f
    obtain ⟨ds, h1, h2, h3⟩ := Zdl _ _ _ h
    obtain ⟨hg, r, hct, hp, hfit, hK⟩ := hH.2.2.2.1 _ _ _ h1
    simp only [List.nil_append, List.append_nil] at hct hp
    refine ⟨_, _, hK, fun w0 own ops => Zm6 _ hd (fun st' hal => fun γ a w hR => ⟨(args.toList.map a.eval).toArray, ?_, ?_⟩) hct hp hfit⟩
    · unfold execOp
      rw [ho]
      simp only [resolve, Act.eval, Deferred.ofValue, Sem.run_bind]
      have e : args.map a.eval = (args.toList.map a.eval).toArray := by apply Array.ext'; simp
      simp [Sem.run, invoke, hg _ w, e]
    · exact Zi1 (by simpa using h2) (hargs ds h2 h3 w0 own γ st' a w hR (fun y hy => hal.ev (by rw [hops]; exact hy)) fun k hk => hal.store k (List.mem_append_left _ hk))
  · rename_i t
    split at h
    · rename_i y hy
      obtain ⟨d, h, hrd⟩ := Zdr _ _ _ h
      split at h
      · rename_i fn fs cs
        split at h
        rotate_left
        · exact h.elim
        rename_i hno
        simp only [Bool.and_eq_true] at hno
        obtain ⟨ds, h1, h2, h3⟩ := Zdl _ _ _ h
        obtain ⟨hg, r, hct, hp, hfit, hK⟩ := hH.2.2.2.1 _ _ _ h1
        refine ⟨_, _, hK, fun w0 own ops => Zm6 _ hd (fun st' hal => fun γ a w hR => ?_) hct hp hfit⟩
        have ht : evA st' (.tmp t) = .c y := (hal.ev (by rw [hops]; simp)).trans hy
        have hv := hR.ev (.tmp t)
        rw [ht] at hv
        generalize hvv : a.eval (.tmp t) = vv at hv
        cases hv with
        | c _ _ hc =>
          obtain ⟨g1, _⟩ := hrd.2 w0 own γ st' a w _ hR (fun k hk => hal.store k (List.mem_append_left _ (List.mem_flatMap.2 ⟨.tmp t, by simp, by
            have : evA x.S (.tmp t) = .c y := hy
            rw [this]; exact hk⟩))) hc
          cases g1 with
          | a => simp [Nat.beq_refl] at hno
          | f _ _ _ fv cv s0 s1 s2 c1 c2 =>
            refine ⟨fv ++ (args.toList.map a.eval).toArray ++ cv, ?_, ?_⟩
            · unfold execOp
              rw [ho]
              have e : args.map a.eval = (args.toList.map a.eval).toArray := by apply Array.ext'; simp
              simp only [resolve, hvv, Deferred.ofValue, Sem.run_bind]
              simp [Sem.run, invoke, hg _ w, e]
            · have e : fv ++ (args.toList.map a.eval).toArray ++ cv = (fv.toList ++ (args.toList.map a.eval ++ cv.toList)).toArray := by
                apply Array.ext'; simp
              rw [e]
              have hA := hargs ds h2 h3 w0 own γ st' a w hR (fun y hy => hal.ev (by rw [hops]; exact hy)) fun k hk => hal.store k (List.mem_append_left _ hk)
              have hl1 : fv.toList.length = (fs.map D.arg).length := by simp [s1]
              have hl2 : (args.toList.map a.eval).length = ds.length := by simpa using h2
              refine Zi1 (by simp [s1, s2, ← h2]) fun i v d hv hd => ?_
              by_cases hi : i < fv.toList.length
              · rw [List.getElem?_append_left hi] at hv
                rw [List.getElem?_append_left (by omega)] at hd
                rw [List.getElem?_map] at hd
                obtain ⟨d0, hd0, rfl⟩ := Option.map_eq_some_iff.1 hd
                have hne := List.all_eq_true.1 hno.1 d0 (List.mem_of_getElem? hd0)
                have := c1 i d0 hd0
                have e2 : fv.getD i undef = v := by
                  rw [Array.getD_eq_getD_getElem?, ← Array.getElem?_toList, hv]; rfl
                rw [e2] at this
                exact D.arg_spec this hne
              · rw [List.getElem?_append_right (by omega)] at hv
                rw [List.getElem?_append_right (by omega)] at hd
                rw [← hl1] at hd
                by_cases hi2 : i - fv.toList.length < (args.toList.map a.eval).length
                · rw [List.getElem?_append_left hi2] at hv
                  rw [List.getElem?_append_left (by omega)] at hd
                  exact hA _ v d hv hd
                · rw [List.getElem?_append_right (by omega)] at hv
                  rw [List.getElem?_append_right (by omega)] at hd
                  rw [← hl2] at hd
                  rw [List.getElem?_map] at hd
                  obtain ⟨d0, hd0, rfl⟩ := Option.map_eq_some_iff.1 hd
                  have hne := Zct (List.all_eq_true.1 hno.2.1 d0 (List.mem_of_getElem? hd0))
                  have := c2 _ d0 hd0
                  have e2 : cv.getD (i - fv.toList.length - (args.toList.map a.eval).length) undef = v := by
                    rw [Array.getD_eq_getD_getElem?, ← Array.getElem?_toList, hv]; rfl
                  rw [e2] at this
                  exact .c _ _ _ (.r _ _ _ hne this)
      · exact h.elim
    · exact h.elim
  · exact h.elim
def ZpL (P : Program) (t : TypeId) (y : A) (K : DV → Prop) : Prop :=
  match y with
  | .c (.d (.v (.slice none 0 0))) => match elT P t with
    | some e => match szT P e with | some z => K (.c (.s 0 z [] [])) | none => False
    | none => False
  | .c (.d (.v v)) => K (.c (.v v))
  | .c (.d (.s 0 z rows sp)) => K (.c (.s 0 z rows sp))
  | _ => False
theorem Zlk {t : TypeId} {y : A} {K : DV → Prop} (h : ZpL P t y K) : ∃ d, K d ∧ ∀ (γ : Gh) (w : World) (v : Value), AR γ w v y → OV w γ.F v d fun _ => False := by
  unfold ZpL at h
  split at h
  · split at h
    · split at h
      · refine ⟨_, h, fun γ w v hv => ?_⟩
        have := (AR.sc_inv (show AR γ w v (sc (.slice none 0 0)) from hv)).1
        subst this
        exact .c _ _ _ (.r _ _ _ (by simp) (.e _ _ _ _))
      · exact h.elim
    · exact h.elim
  · exact ⟨_, h, fun γ w v hv => .c _ _ _ (.r _ _ _ (by simp) hv.d_inv)⟩
  · exact ⟨_, h, fun γ w v hv => .c _ _ _ (.r _ _ _ (by simp) hv.d_inv)⟩
  · exact h.elim
def ZiU (P : Program) (x : X) : List Operand → List TypeId → (List DV → Prop) → Prop
  | [], _, K => K []
  | y :: l, t :: ts, K => ZpL P t (evA x.S y) fun d => ZiU P x l ts fun ds => K (d :: ds)
  | _ :: _, [], _ => False
theorem ZfA : ∀ (l : List Operand) (ts : List TypeId) (K : List DV → Prop), ZiU P x l ts K → ∃ ds, K ds ∧ l.length = ds.length ∧ ∀ (i : Nat) y d, l[i]? = some y → ds[i]? = some d → ∀ (γ : Gh) (w : World) (v : Value), AR γ w v (evA x.S y) → OV w γ.F v d fun _ => False
  | [], _, K, h => ⟨[], h, rfl, by simp⟩
  | y :: l, [], K, h => h.elim
  | y :: l, t :: ts, K, h => by
    unfold ZiU at h
    obtain ⟨d, h1, h2⟩ := Zlk h
    obtain ⟨ds, h3, h4, h5⟩ := ZfA l ts _ h1
    refine ⟨d :: ds, h3, by simp [h4], fun i y' d' hy hd => ?_⟩
    cases i with
    | zero => simp at hy hd; subst hy hd; exact h2
    | succ i => exact h5 i y' d' (by simpa using hy) (by simpa using hd)
def Zfp (P : Program) (H : Hooks) (o : Oper) (x : X) (f : FuncId) (args : Array Operand) (tys : Array TypeId) (K : KO) : Prop :=
  ZiU P x args.toList tys.toList fun ds => H.callF f ds fun res =>
    K (Zl8 x args.toList ++ (upV x.gen (x.freeC o) res).1.map (·.1)) ⟨(upV x.gen (x.freeC o) res).2, (upV x.gen (x.freeC o) res).1⟩ x
theorem ZfR {H : Hooks} (hH : Zam P H) {f : FuncId} {args : Array Operand} {tys : Array TypeId} (ho : o.op = .call { callee := .value (.func f), args := args, argTypes := tys }) : Za6 P o x (Zfp P H o x f args tys) := fun K h hd => by
  unfold Zfp at h
  obtain ⟨ds, h1, h2, h3⟩ := ZfA _ _ _ h
  obtain ⟨hg, r, hct, hfit, hK⟩ := hH.2.2.2.2.2 _ _ _ h1
  refine ⟨_, _, hK, fun w0 own ops => ZrL _ hd (fun st' hal => fun γ a w hR => ⟨(args.toList.map a.eval).toArray, ?_, ?_⟩) hct hfit⟩
  · unfold execOp
    rw [ho]
    simp only [resolve, Act.eval, Deferred.ofValue, Sem.run_bind]
    have e : args.map a.eval = (args.toList.map a.eval).toArray := by apply Array.ext'; simp
    simp [Sem.run, invoke, hg _ w, e]
  · refine .tup _ _ _ (fun _ _ => False) (by simpa using h2) (fun i d hdd => ?_) (fun _ _ h => h) (fun _ _ _ h _ => h.elim)
    have hi : i < args.toList.length := by rw [h2]; exact (List.getElem?_eq_some_iff.1 hdd).1
    have hym : args.toList[i] ∈ o.op.operands.toList := by
      rw [ho]; simp [Op.operands, Call.operands]
    have hv := hR.ev args.toList[i]
    rw [hal.ev hym] at hv
    have := h3 i _ d (List.getElem?_eq_getElem hi) hdd γ w _ hv
    have e : (args.toList.map a.eval).toArray.getD i undef = a.eval args.toList[i] := by
      have hi' : i < args.size := by simpa using hi
      simp [Array.getD_eq_getD_getElem?, hi']
    rw [e]; exact this
end

section
open Go
variable {P : Program} {w0 : World} {own : Nat → Prop} {γ : Gh} {st : St} {a : Act} {w : World} {o : Oper} {x : X} {ops : Array Oper}
def vals (st : St) : List Operand → Option (List Value)
  | [] => some []
  | y :: l => match (evA st y).val, vals st l with | some v, some r => some (v :: r) | _, _ => none
theorem ZkK (hR : Rel w0 own γ st a w) : ∀ (l : List Operand) (r : List Value), vals st l = some r → l.map a.eval = r
  | [], r, h => by simp [vals] at h; subst h; rfl
  | y :: l, r, h => by
    simp only [vals] at h
    split at h
    · rename_i v r' h1 h2
      cases h
      rw [List.map_cons, A.val_spec (hR.ev y) h1, ZkK hR l r' h2]
    · cases h
theorem Zh1 {K : List Nat} {st' : St} (h : Alike ops o K st st') : ∀ (l : List Operand), (∀ y ∈ l, y ∈ o.op.operands.toList) → vals st' l = vals st l
  | [], _ => rfl
  | y :: l, hy => by simp only [vals]; rw [h.ev (hy y (by simp)), Zh1 h l fun z hz => hy z (by simp [hz])]
def numB (P : Program) (b : Builtin) (argTypes : Array TypeId) (type : TypeId) (args : Array Value) : Option Value :=
  match b with
  | .complex => ZaU P (Builtin.complex_ argTypes type args)
  | .real => ZaU P (Builtin.real_ argTypes type args)
  | .imag => ZaU P (Builtin.imag_ argTypes type args)
  | .len => ZaU P (Builtin.len_ argTypes type args)
  | .max => ZaU P (Builtin.max_ argTypes type args)
  | .min => ZaU P (Builtin.min_ argTypes type args)
  | _ => none
theorem ZoT {b : Builtin} {argTypes : Array TypeId} {type : TypeId} {consts : Array Bool} {args : Array Value} {v : Value} (h : numB P b argTypes type args = some v) (w : World) : (builtin b argTypes type consts args).run P w = .ok (.value v) w := by
  unfold numB at h
  unfold builtin
  split at h <;> first | cases h | (simp only [Sem.run_bind, Zb7 P w _ _ h]; rfl)
def ZmK (P : Program) (o : Oper) (x : X) (b : Builtin) (args : Array Operand) (tys : Array TypeId) (K : KO) : Prop :=
  match vals x.S args.toList with
  | some vs => outV (numB P b tys o.type vs.toArray) fun r => K [] ⟨sc r, []⟩ x
  | none => False
theorem ZfJ {b : Builtin} {args : Array Operand} {tys : Array TypeId} (ho : o.op = .call { callee := .builtin b, args := args, argTypes := tys }) : Za6 P o x (ZmK P o x b args tys) := fun K h hd => by
  unfold ZmK at h
  split at h
  · rename_i vs hvs
    obtain ⟨r, h1, h2, h3⟩ := ZeC h
    refine ⟨_, _, h3, fun w0 own ops => .plain fun st' hal => ZdQ (Zaf hal hd) h2 fun γ a w hR => ?_⟩
    have e := ZkK hR _ _ ((Zh1 hal args.toList fun y hy => by rw [ho]; simp [Op.operands, Call.operands, hy]).trans hvs)
    have e' : args.map a.eval = vs.toArray := by
      rw [← e]; apply Array.ext'; simp
    unfold execOp
    rw [ho]
    simp only [resolve, Sem.run_bind, e']
    simp [Sem.run, invoke, ZoT h1 w]
  · exact h.elim
theorem AR.sliceLen {v : Value} {y : A} (h : AR γ w v y) {n : Nat} (hy : (∃ k g wd lo kn, y = .c (.rs k g wd lo n kn)) ∨ (∃ t z rows sp, y = .c (.d (.s t z rows sp)) ∧ rows.length = n) ∨ (y = .c (.d (.v (.slice none 0 0))) ∧ n = 0)) : ∃ b cap, v = .slice b n cap := by
  rcases hy with ⟨k, g, wd, lo, kn, rfl⟩ | ⟨t, z, rows, sp, rfl, rfl⟩ | ⟨rfl, rfl⟩
  rotate_left 2
  · exact ⟨none, 0, (AR.sc_inv (show AR γ w v (sc (.slice none 0 0)) from h)).1⟩
  · rcases h.rs_inv with ⟨cap, b, E, nn, rfl, _⟩ | ⟨⟨_, rfl⟩, _, rfl, _⟩
    · exact ⟨_, _, rfl⟩
    · exact ⟨_, _, rfl⟩
  · have := h.d_inv
    cases this with
    | e a _ _ cap => exact ⟨_, _, rfl⟩
    | s _ _ _ b off cap sz vs => exact ⟨_, _, rfl⟩
def lenA (y : A) : Option Nat :=
  match y with
  | .c (.rs _ _ _ _ len _) => some len
  | .c (.d (.s _ _ rows _)) => some rows.length
  | .c (.d (.v (.slice none 0 0))) => some 0
  | _ => none
def ZsM (P : Program) (o : Oper) (x : X) (args : Array Operand) (tys : Array TypeId) (K : KO) : Prop :=
  match args.toList, tys.toList with
  | [y], [t] => match lenA (evA x.S y).wk with
    | some n => match elT P t with
      | some e => K [] ⟨sc (.int .i64 n), []⟩ x
      | none => False
    | none => ZmK P o x .len args tys K
  | _, _ => False
theorem Zk4 {args : Array Operand} {tys : Array TypeId} (ho : o.op = .call { callee := .builtin .len, args := args, argTypes := tys }) : Za6 P o x (ZsM P o x args tys) := fun K h hd => by
  unfold ZsM at h
  split at h
  · rename_i y t hy ht
    split at h
    · rename_i n hn
      split at h
      · rename_i e he
        refine ⟨_, _, h, fun w0 own ops => .plain fun st' hal => ZdQ (Zaf hal hd) rfl fun γ a w hR => ?_⟩
        have e1 : args = #[y] := by apply Array.ext'; rw [hy]
        have e2 : tys = #[t] := by apply Array.ext'; rw [ht]
        subst e1 e2
        have hev := hR.ev y
        rw [hal.ev (x := y) (by rw [ho]; simp [Op.operands, Call.operands])] at hev
        obtain ⟨b, cap, hv⟩ := hev.wk.sliceLen (n := n) (by
          unfold lenA at hn
          split at hn
          · cases hn; rename_i heq; exact .inl ⟨_, _, _, _, _, heq⟩
          · cases hn; rename_i heq; exact .inr (.inl ⟨_, _, _, _, heq, rfl⟩)
          · cases hn; rename_i heq; exact .inr (.inr ⟨heq, rfl⟩)
          · cases hn)
        have hu : P.underlying t = some (.slice e) := by
          unfold elT at he
          split at he
          · rename_i e' hu; cases he; exact hu
          · cases he
        unfold execOp
        rw [ho]
        simp only [resolve, Sem.run_bind]
        have e3 : (#[y] : Array Operand).map a.eval = #[.slice b n cap] := by simp [hv]
        rw [e3]
        simp [Sem.run, invoke, builtin, Builtin.len_, Sem.run_bind, Zbh hu, goInt]

      · exact h.elim
    · exact ZfJ ho K h hd
  · exact h.elim
def ints (k : IntKind) : List C → Option (List Int)
  | [] => some []
  | .d (.v (.int k' n)) :: l => if k' = k then (ints k l).map (n :: ·) else none
  | _ :: _ => none
theorem ZjA (k : IntKind) : ∀ (cs : List C) (ns : List Int), ints k cs = some ns → cs = ns.map fun n => C.d (.v (.int k n))
  | [], ns, h => by simp [ints] at h; subst h; rfl
  | c :: l, ns, h => by
    unfold ints at h
    split at h
    · contradiction
    · rename_i k' n l' heq
      cases heq
      split at h
      · rename_i hk
        subst hk
        obtain ⟨ms, h1, rfl⟩ := Option.map_eq_some_iff.1 h
        rw [ZjA k' _ ms h1]; rfl
      · cases h
    · cases h
def eqI : List Int → List Int → Bool
  | x :: xs, y :: ys => (x == y) && eqI xs ys
  | [], [] => true
  | _, _ => false
def flatT (P : Program) (t : TypeId) (k : IntKind) (n : Nat) : Bool :=
  match P.underlying t with
  | some (.array m e) => Nat.beq m n && (match P.info? e with | some i => Nat.beq i.size 1 | none => false) && (match P.underlying e with | some (.int k') => decide (k' = k) | _ => false)
  | some (.struct fs) => !P.stoodInHeld t && flatF fs.toList 0
  | _ => false
where
  flatF : List Field → Nat → Bool
    | [], i => Nat.beq i n
    | f :: fs, i => (f.name != "_") && (Nat.beq f.offset i && ((match P.underlying f.type with | some (.int k') => decide (k' = k) | _ => false) && flatF fs (i + 1)))
theorem ZcI {e : TypeId} {k k' : IntKind} {ns : List Int} {i : Nat} (hu : P.underlying e = some (.int k')) (hi : i < ns.length) (w : World) : (part e (ns.map fun n => Value.int k n).toArray i).run P w = .ok (.int k ns[i]) w := by
  unfold part
  rw [Sem.run_bind]
  have : (isAgg e).run P w = .ok false w := ZgL (by simp [aggT, hu]) w
  rw [this]
  simp [hi]
theorem Zm4 (xs ys : List Int) (i : Nat) (h1 : i < xs.length) (h2 : i < ys.length) : eqI (xs.drop i) (ys.drop i) = ((xs[i] == ys[i]) && eqI (xs.drop (i + 1)) (ys.drop (i + 1))) := by
  rw [List.drop_eq_getElem_cons h1, List.drop_eq_getElem_cons h2]; rfl
theorem ZfD (k : IntKind) (xs ys : List Int) (n : Nat) (hx : xs.length = n) (hy : ys.length = n) (d : Nat) (w : World) : ∀ (fs : List Field) (i : Nat), flatT.flatF P k n fs i = true → i ≤ n →
    (Op.eqFields (d + 1) (xs.map fun n => Value.int k n).toArray (ys.map fun n => Value.int k n).toArray fs).run P w = .ok (eqI (xs.drop i) (ys.drop i)) w
  | [], i, h, _ => by
    have := Zaa h
    subst this
    rw [List.drop_eq_nil_of_le (by omega), List.drop_eq_nil_of_le (by omega)]
    rfl
  | f :: fs, i, h, hle => by
    simp only [flatT.flatF, Bool.and_eq_true] at h
    obtain ⟨h1, h2, h3, h4⟩ := h
    have h2 := Zaa h2
    cases hu : P.underlying f.type with
    | none => rw [hu] at h3; simp at h3
    | some td =>
      rw [hu] at h3
      cases td with
      | int k' =>
        simp only [decide_eq_true_eq] at h3
        have hlen : ∀ (fs : List Field) (i : Nat), flatT.flatF P k n fs i = true → i ≤ n := by
          intro fs
          induction fs with
          | nil => intro i h; have := Zaa h; omega
          | cons g gs ih =>
            intro i h
            simp only [flatT.flatF, Bool.and_eq_true] at h
            have := ih (i + 1) h.2.2.2
            omega
        have hin : i < n := by have := hlen fs (i + 1) h4; omega
        have ih := ZfD k xs ys n hx hy d w fs (i + 1) h4 (by omega)
        unfold Op.eqFields
        have hname : f.name ≠ "_" := by simpa using h1
        rw [if_pos hname, h2]
        rw [Sem.run_bind, ZcI hu (by omega)]
        simp only [Result.andThen_ok]
        rw [Sem.run_bind, ZcI hu (by omega)]
        simp only [Result.andThen_ok]
        rw [Sem.run_bind, run_equalIn_int w d f.type k k' _ _ hu]
        simp only [Result.andThen_ok]
        rw [Zm4 xs ys i (by omega) (by omega)]
        cases hb : (xs[i] == ys[i])
        · rfl
        · simp only [Bool.not_true, Bool.false_eq_true, if_false, Bool.true_and]
          exact ih
      | _ => simp at h3
theorem Zf4 (k k' : IntKind) {e : TypeId} (hu : P.underlying e = some (.int k')) (xs ys : List Int) (n : Nat) (hx : xs.length = n) (hy : ys.length = n) (d : Nat) (w : World) : ∀ (m i : Nat), i + m = n →
    (Op.eqItems (d + 1) e 1 (xs.map fun n => Value.int k n).toArray (ys.map fun n => Value.int k n).toArray (List.range' i m)).run P w = .ok (eqI (xs.drop i) (ys.drop i)) w
  | 0, i, h => by
    rw [List.drop_eq_nil_of_le (by omega), List.drop_eq_nil_of_le (by omega)]
    rfl
  | m + 1, i, h => by
    have ih := Zf4 k k' hu xs ys n hx hy d w m (i + 1) (by omega)
    rw [List.range'_succ]
    unfold Op.eqItems
    rw [Nat.mul_one]
    rw [Sem.run_bind, ZcI hu (by omega)]
    simp only [Result.andThen_ok]
    rw [Sem.run_bind, ZcI hu (by omega)]
    simp only [Result.andThen_ok]
    rw [Sem.run_bind, run_equalIn_int w d e k k' _ _ hu]
    simp only [Result.andThen_ok]
    rw [Zm4 xs ys i (by omega) (by omega)]
    cases hb : (xs[i] == ys[i])
    · rfl
    · simp only [Bool.not_true, Bool.false_eq_true, if_false, Bool.true_and]
      exact ih
theorem Zf6 {t : TypeId} {k : IntKind} {xs ys : List Int} (hf : flatT P t k xs.length = true) (hl : ys.length = xs.length) (w : World) :
    (Op.equalIn 10000 t (.agg (xs.map fun n => Value.int k n).toArray) (.agg (ys.map fun n => Value.int k n).toArray)).run P w = .ok (eqI xs ys) w := by
  unfold flatT at hf
  split at hf
  · rename_i m e hu
    simp only [Bool.and_eq_true] at hf
    obtain ⟨⟨h1, h2⟩, h3⟩ := hf
    have h1 := Zaa h1
    subst h1
    cases hi : P.info? e with
    | none => rw [hi] at h2; simp at h2
    | some i =>
      rw [hi] at h2
      have h2 := Zaa h2
      rw [run_equalIn_array w 9999 _ _ hu hi]
      have hc : P.cellsOf e = 1 := by simp [Program.cellsOf, hi, h2]
      rw [hc]
      cases hue : P.underlying e with
      | none => rw [hue] at h3; simp at h3
      | some td =>
        rw [hue] at h3
        cases td with
        | int k' =>
          have := Zf4 k k' hue xs ys xs.length rfl hl 9998 w xs.length 0 (by omega)
          simpa [List.range_eq_range'] using this
        | _ => simp at h3
  · rename_i fs hu
    simp only [Bool.and_eq_true, Bool.not_eq_true'] at hf
    have hu' : P.underlying t = some (.struct (P.fieldsOf t)) := by simp [Program.fieldsOf, hu]
    have hfs : P.fieldsOf t = fs := by rw [hu] at hu'; cases hu'; rfl
    rw [run_equalIn_struct w 9999 t _ _ hu' hf.1, hfs]
    have := ZfD k xs ys xs.length rfl hl 9998 w fs.toList 0 hf.2 (by omega)
    simpa using this
  · cases hf
def Zjq : List C → IntKind
  | .d (.v (.int k _)) :: _ => k
  | _ => .i64
def evEq (P : Program) (x : X) (neg : Bool) (t : TypeId) (cs ds : List C) (K : KO) : Prop :=
  match ints (Zjq cs) cs, ints (Zjq cs) ds with
  | some xs, some ys => match flatT P t (Zjq cs) xs.length && (Nat.beq ys.length xs.length && !P.eqGuardType P.depth t) with
    | true => K [] ⟨sc (.bool (match neg with | true => !eqI xs ys | false => eqI xs ys)), []⟩ x
    | false => False
  | _, _ => False
theorem AR.agg_ints {v : Value} {cs : List C} {k : IntKind} {ns : List Int} (h : AR γ w v (.agg cs)) (hi : ints k cs = some ns) : v = .agg (ns.map fun n => Value.int k n).toArray := by
  have e := ZjA k cs ns hi
  have hval : (A.agg cs).val = some (.agg (ns.map fun n => Value.int k n).toArray) := by
    have : ∀ ns : List Int, scalars (ns.map fun n => C.d (.v (.int k n))) = some (ns.map fun n => Value.int k n) := by
      intro ns
      induction ns with
      | nil => rfl
      | cons n ns ih => simp [scalars, ih]
    simp only [A.val, e, this, Option.map_some]
  exact A.val_spec h hval
theorem Zh4 {b : BinOp} {t u : TypeId} {y z : Operand} {cs ds : List C} {neg : Bool} (hb : (neg = false ∧ b = .eql) ∨ (neg = true ∧ b = .neq)) (ho : o.op = .binOp b t y z u) (hy : evA x.S y = .agg cs) (hz : evA x.S z = .agg ds) : Za6 P o x (evEq P x neg t cs ds) := fun K h hd => by
  unfold evEq at h
  split at h
  · rename_i xs ys hx hy'
    split at h
    · rename_i hf
      simp only [Bool.and_eq_true, Bool.not_eq_true'] at hf
      obtain ⟨h1, h2, h3⟩ := hf
      have h2 := Zaa h2
      refine ⟨_, _, h, fun w0 own ops => .plain fun st' hal => ZdQ (Zaf hal hd) rfl fun γ a w hR => ?_⟩
      have ey := hR.ev y
      rw [(hal.ev (x := y) (by rw [ho]; simp [Op.operands])).trans hy] at ey
      have ez := hR.ev z
      rw [(hal.ev (x := z) (by rw [ho]; simp [Op.operands])).trans hz] at ez
      have e1 := ey.agg_ints hx
      have e2 := ez.agg_ints hy'
      unfold execOp
      rw [ho]
      simp only [e1, e2]
      have hg := run_eqGuard_agg w b t y z (xs.map fun n => Value.int (Zjq cs) n).toArray (ys.map fun n => Value.int (Zjq cs) n).toArray h3
      rw [Sem.run_bind, Sem.run_bind, hg]
      simp only [Result.andThen_ok]
      rcases hb with ⟨rfl, rfl⟩ | ⟨rfl, rfl⟩
      · rw [run_eql_struct, Zf6 h1 h2]; rfl
      · rw [run_neq_struct, Zf6 h1 h2]; rfl
    · exact h.elim
  · exact h.elim
end

section
open Go
variable {P : Program} {w0 : World} {own : Nat → Prop} {γ : Gh} {st : St} {a : Act} {w : World} {o : Oper} {x : X} {ops : Array Oper}
def Zgw {α : Type} (sz : Nat) : Nat → List α → List (List α)
  | 0, _ => []
  | n + 1, l => l.take sz :: Zgw sz n (l.drop sz)
theorem Zgn {α : Type} (sz : Nat) : ∀ (n : Nat) (l : List α), (Zgw sz n l).length = n
  | 0, _ => rfl
  | n + 1, l => by simp [Zgw, Zgn sz n]
theorem ZgT {α : Type} (sz : Nat) : ∀ (n : Nat) (l : List α) (i : Nat), i < n → (Zgw sz n l)[i]? = some ((l.drop (i * sz)).take sz)
  | 0, _, _, h => by omega
  | n + 1, l, 0, _ => by simp [Zgw]
  | n + 1, l, i + 1, h => by
    simp only [Zgw, List.getElem?_cons_succ]
    rw [ZgT sz n _ i (by omega), List.drop_drop]
    congr 3
    rw [Nat.succ_mul]; omega
theorem ZiN {o : Oper} {t e : TypeId} {n sz : Nat} {ps : List (Nat × Operand)} {zs : List Value} {out : List C} {ds : List D} (k : Nat) (hd : st.fits o.dst = true) (ho : o.op = .buildSlice t n ps.toArray) (ht : P.underlying t = some (.slice e)) (hs : szT P e = some sz) (hsmall : n * sz ≤ 2 ^ 24)
    (hz : Zd3 P e = some zs) (hzl : zs.length = sz) (hz0 : 0 < sz) (hp : zs.all plain = true)
    (hf : Ze3 (fun i => some (i * sz, sz)) ((List.range (n * sz)).map fun i => .d (.v (zs.getD (i % sz) undef))) (Zbz st ps) = some out) (hol : out.length = n * sz) (hds : strip.stripRow out = some ds) (hflat : ds.all (fun d => (C.d d).flat) = true) :
    OpOK P w0 own o st ((st.root k false sz (emb (Zgw sz n ds))).put o.dst (.c (.rs k (st.gen k + 1) sz 0 n n))) :=
  .value (by cases h : o.dst <;> simp_all [St.fits, St.root]) fun γ a w hR => by
    obtain ⟨z, hz1, hz2⟩ := ZeR hz w
    have hzs : z.cells.size = sz := by rw [← Array.length_toList, hz2, hzl]
    have hout := Za0 _ _ hds
    obtain ⟨arr, f1, f2, f3⟩ := ZdH (γ := γ) (w := w) (fun i => some (i * sz, sz)) (Zbz st ps) (ps.map fun (i, x) => (i, a.eval x)) ((Array.range (n * sz)).map fun i => z.cells[i % z.cells.size]!) _ out hf (by simp) (fun i c hc => by
        rw [List.getElem?_map] at hc
        obtain ⟨i', hi', rfl⟩ := Option.map_eq_some_iff.1 hc
        have hii : i < n * sz ∧ i' = i := by
          have h1 := (List.getElem?_eq_some_iff.1 hi')
          obtain ⟨h2, h3⟩ := h1
          simp at h2 h3
          exact ⟨h2, h3.symm⟩
        obtain ⟨hlt, rfl⟩ := hii
        have hm : i' % sz < sz := Nat.mod_lt _ hz0
        have e1 : ((Array.range (n * sz)).map fun i => z.cells[i % z.cells.size]!).getD i' undef = zs.getD (i' % sz) undef := by
          rw [Array.getD_eq_getD_getElem?]
          simp only [Array.getElem?_map, Array.getElem?_range, hlt, if_true, Option.map_some, Option.getD_some, hzs]
          have hm' : i' % sz < z.cells.size := by omega
          rw [getElem!_pos z.cells _ hm']
          have : zs[i' % sz]? = some z.cells[i' % sz] := by rw [← hz2]; simp [hm']
          simp [List.getD_eq_getElem?_getD, this]
        rw [e1]
        refine .d _ _ (.v _ ?_)
        have hml : i' % sz < zs.length := by omega
        have : zs.getD (i' % sz) undef = zs[i' % sz] := by simp [List.getD_eq_getElem?_getD, hml]
        rw [this]
        exact List.all_eq_true.1 hp _ (List.getElem_mem hml)) (by simp [Zbz]) (ZcY hR ps)
    have hal : arr.size = n * sz := by rw [f2, hol]
    have hdl : ds.length = n * sz := by rw [← hol, hout]; simp
    have hrowlen : ∀ i, i < n → ((ds.drop (i * sz)).take sz).length = sz := fun i hi => by
      have : (i + 1) * sz ≤ n * sz := Nat.mul_le_mul_right _ hi
      have : (i + 1) * sz = i * sz + sz := Nat.succ_mul _ _
      simp; omega
    have hrow : ∀ r ∈ emb (Zgw sz n ds), r.length = sz := fun r hr => by
      obtain ⟨r0, h0, rfl⟩ := List.mem_map.1 hr
      obtain ⟨i, hi⟩ := List.getElem?_of_mem h0
      have hin : i < n := by have := (List.getElem?_eq_some_iff.1 hi).1; rw [Zgn] at this; exact this
      rw [ZgT sz n ds i hin] at hi
      cases hi
      simpa using hrowlen i hin
    have hel : (emb (Zgw sz n ds)).length = n := by simp [emb, Zgn]
    refine ⟨_, w.alloc (.cells arr e), .slice (some ⟨w.heap.size, 0, none⟩) n n, ?_, γ.fresh_le k (some w.heap.size), hR.alloc k false sz (emb (Zgw sz n ds)) arr e hrow (by rw [hel, hal]; exact Nat.le_refl _) ?_, ?_⟩
    · unfold execOp
      rw [ho]
      have f1' : Instr.fill (fun i => some (i * sz, sz)) ((Array.range (n * sz)).map fun i => z.cells[i % z.cells.size]!) (ps.map fun (i, x) => (i, a.eval x)) = some arr := f1
      have hns : ¬ (n * sz > 2 ^ 24) := by omega
      simp only [Instr.buildSlice, Sem.run_bind, Zbh ht, Zbg hs, Result.andThen_ok, hns, if_false]
      by_cases h0 : n * sz = 0
      · have e2 : Array.map (fun i => z.cells[i % z.cells.size]!) (Array.range (n * sz)) = #[] := by rw [h0]; simp
        rw [e2] at f1'
        have e3 : ∀ (z' : Array Value), Array.map (fun i => z'[i % z'.size]!) (Array.range (n * sz)) = #[] := fun z' => by rw [h0]; simp
        rw [if_pos h0]
        simp only [Sem.run_pure, Result.andThen_ok, e3]
        simp [f1', newRow, newObj, Sem.run]
      · simp [h0, hz1, f1', newRow, newObj, Sem.run]
    · intro i j r c hr hc
      have hin : i < n := by have := (List.getElem?_eq_some_iff.1 hr).1; omega
      simp only [emb, List.getElem?_map, ZgT sz n ds i hin, Option.map_some, Option.some.injEq] at hr
      subst hr
      rw [List.getElem?_map] at hc
      obtain ⟨d, hd', rfl⟩ := Option.map_eq_some_iff.1 hc
      have hj : j < sz := by have := (List.getElem?_eq_some_iff.1 hd').1; simp at this; omega
      rw [List.getElem?_take, if_pos hj, List.getElem?_drop] at hd'
      refine ⟨f3 (i * sz + j) _ (by rw [hout, List.getElem?_map, hd']; rfl), List.all_eq_true.1 hflat d (List.mem_of_getElem? hd')⟩
    · have hg : γ.gen k = st.gen k := congrFun hR.gen k
      have := CR.rs (γ := γ.fresh k (some w.heap.size)) (w := w.alloc (.cells arr e)) k (st.gen k + 1) sz 0 n n n w.heap.size e arr.size (by rw [Gh.fresh_gen, hg]; exact Nat.le_refl _) (by rw [← hg, Gh.fresh_new]) (by simp only [World.shape?, heap_alloc_new]) (by rw [hal]; simp) (Nat.le_refl _) (Nat.le_refl _)
      simp at this
      exact .c _ _ this
theorem Zeb {o : Oper} {t e : TypeId} {n sz : Nat} {ps : List (Nat × Operand)} {zs : List Value} {out : List C} (k : Nat) (hd : st.fits o.dst = true) (ho : o.op = .buildSlice t n ps.toArray) (ht : P.underlying t = some (.slice e)) (hs : szT P e = some sz) (hsmall : n * sz ≤ 2 ^ 24)
    (hz : Zd3 P e = some zs) (hzl : zs.length = sz) (hz0 : 0 < sz) (hp : zs.all plain = true)
    (hf : Ze3 (fun i => some (i * sz, sz)) ((List.range (n * sz)).map fun i => .d (.v (zs.getD (i % sz) undef))) (Zbz st ps) = some out) (hol : out.length = n * sz) (hflat : out.all C.flat = true) :
    OpOK P w0 own o st ((st.root k true (n * sz) [out]).put o.dst (.c (.rs k (st.gen k + 1) sz 0 n n))) :=
  .value (by cases h : o.dst <;> simp_all [St.fits, St.root]) fun γ a w hR => by
    obtain ⟨z, hz1, hz2⟩ := ZeR hz w
    have hzs : z.cells.size = sz := by rw [← Array.length_toList, hz2, hzl]
    obtain ⟨arr, f1, f2, f3⟩ := ZdH (γ := γ) (w := w) (fun i => some (i * sz, sz)) (Zbz st ps) (ps.map fun (i, x) => (i, a.eval x)) ((Array.range (n * sz)).map fun i => z.cells[i % z.cells.size]!) _ out hf (by simp) (fun i c hc => by
        rw [List.getElem?_map] at hc
        obtain ⟨i', hi', rfl⟩ := Option.map_eq_some_iff.1 hc
        have hii : i < n * sz ∧ i' = i := by
          have h1 := (List.getElem?_eq_some_iff.1 hi')
          obtain ⟨h2, h3⟩ := h1
          simp at h2 h3
          exact ⟨h2, h3.symm⟩
        obtain ⟨hlt, rfl⟩ := hii
        have hm : i' % sz < sz := Nat.mod_lt _ hz0
        have e1 : ((Array.range (n * sz)).map fun i => z.cells[i % z.cells.size]!).getD i' undef = zs.getD (i' % sz) undef := by
          rw [Array.getD_eq_getD_getElem?]
          simp only [Array.getElem?_map, Array.getElem?_range, hlt, if_true, Option.map_some, Option.getD_some, hzs]
          have hm' : i' % sz < z.cells.size := by omega
          rw [getElem!_pos z.cells _ hm']
          have : zs[i' % sz]? = some z.cells[i' % sz] := by rw [← hz2]; simp [hm']
          simp [List.getD_eq_getElem?_getD, this]
        rw [e1]
        refine .d _ _ (.v _ ?_)
        have hml : i' % sz < zs.length := by omega
        have : zs.getD (i' % sz) undef = zs[i' % sz] := by simp [List.getD_eq_getElem?_getD, hml]
        rw [this]
        exact List.all_eq_true.1 hp _ (List.getElem_mem hml)) (by simp [Zbz]) (ZcY hR ps)
    have hal : arr.size = n * sz := by rw [f2, hol]
    have hrow : ∀ r ∈ [out], r.length = n * sz := fun r hr => by rw [List.mem_singleton.1 hr, hol]
    refine ⟨_, w.alloc (.cells arr e), .slice (some ⟨w.heap.size, 0, none⟩) n n, ?_, γ.fresh_le k (some w.heap.size), hR.alloc k true (n * sz) [out] arr e hrow (by simp [hal]) ?_, ?_⟩
    · unfold execOp
      rw [ho]
      have f1' : Instr.fill (fun i => some (i * sz, sz)) ((Array.range (n * sz)).map fun i => z.cells[i % z.cells.size]!) (ps.map fun (i, x) => (i, a.eval x)) = some arr := f1
      have hns : ¬ (n * sz > 2 ^ 24) := by omega
      simp only [Instr.buildSlice, Sem.run_bind, Zbh ht, Zbg hs, Result.andThen_ok, hns, if_false]
      by_cases h0 : n * sz = 0
      · have e2 : Array.map (fun i => z.cells[i % z.cells.size]!) (Array.range (n * sz)) = #[] := by rw [h0]; simp
        rw [e2] at f1'
        have e3 : ∀ (z' : Array Value), Array.map (fun i => z'[i % z'.size]!) (Array.range (n * sz)) = #[] := fun z' => by rw [h0]; simp
        rw [if_pos h0]
        simp only [Sem.run_pure, Result.andThen_ok, e3]
        simp [f1', newRow, newObj, Sem.run]
      · simp [h0, hz1, f1', newRow, newObj, Sem.run]
    · intro i j r c hr hc
      have hi0 : i = 0 := by
        have := (List.getElem?_eq_some_iff.1 hr).1
        simpa using this
      subst hi0
      cases hr
      rw [Nat.zero_mul, Nat.zero_add]
      exact ⟨f3 j _ hc, List.all_eq_true.1 hflat c (List.mem_of_getElem? hc)⟩
    · have hg : γ.gen k = st.gen k := congrFun hR.gen k
      have := CR.rs (γ := γ.fresh k (some w.heap.size)) (w := w.alloc (.cells arr e)) k (st.gen k + 1) sz 0 n n n w.heap.size e arr.size (by rw [Gh.fresh_gen, hg]; exact Nat.le_refl _) (by rw [← hg, Gh.fresh_new]) (by simp only [World.shape?, heap_alloc_new]) (by rw [hal]; simp) (Nat.le_refl _) (Nat.le_refl _)
      simp at this
      exact .c _ _ this
def ZuK (zs : List Value) (sz m : Nat) : List C := (List.range m).map fun i => .d (.v (zs.getD (i % sz) undef))
def Zdv (P : Program) (o : Oper) (x : X) (t : TypeId) (n : Nat) (ps : Array (Nat × Operand)) (K : KO) : Prop :=
  match P.underlying t with
  | some (.slice e) => match szT P e, Zd3 P e with
    | some (sz + 1), some zs => match Nat.ble (n * (sz + 1)) (2 ^ 24) && (Nat.beq zs.length (sz + 1) && zs.all plain) with
      | true => match Ze3 (fun i => some (i * (sz + 1), sz + 1)) (ZuK zs (sz + 1) (n * (sz + 1))) (Zbz x.S ps.toList) with
        | some out => match Nat.beq out.length (n * (sz + 1)), strip.stripRow out with
          | true, some ds => match out.any ZjE with
            | true => match out.all C.flat with
              | true => K [x.freeO o] ⟨.c (.rs (x.freeO o) (x.gen (x.freeO o) + 1) (sz + 1) 0 n n), [(x.freeO o, some (.bx (x.gen (x.freeO o) + 1) (n * (sz + 1)) out), x.gen (x.freeO o) + 1)]⟩ x
              | false => False
            | false => match ds.all fun d => (C.d d).flat with
              | true => K [x.freeO o] ⟨.c (.rs (x.freeO o) (x.gen (x.freeO o) + 1) (sz + 1) 0 n n), [(x.freeO o, some (.sl (x.gen (x.freeO o) + 1) (sz + 1) (Zgw (sz + 1) n ds)), x.gen (x.freeO o) + 1)]⟩ x
              | false => False
          | true, none => match out.all C.flat with
            | true => K [x.freeO o] ⟨.c (.rs (x.freeO o) (x.gen (x.freeO o) + 1) (sz + 1) 0 n n), [(x.freeO o, some (.bx (x.gen (x.freeO o) + 1) (n * (sz + 1)) out), x.gen (x.freeO o) + 1)]⟩ x
            | false => False
          | _, _ => False
        | none => False
      | false => False
    | _, _ => False
  | _ => False
theorem ZeH {t : TypeId} {n : Nat} {ps : Array (Nat × Operand)} (ho : o.op = .buildSlice t n ps) : Za6 P o x (Zdv P o x t n ps) := fun K h hd => by
  have ho' : o.op = .buildSlice t n ps.toList.toArray := by simpa using ho
  unfold Zdv at h
  split at h
  · rename_i e ht
    split at h
    · rename_i sz zs hs hz
      split at h
      · rename_i hb
        simp only [Bool.and_eq_true] at hb
        obtain ⟨b1, b2, b3⟩ := hb
        split at h
        · rename_i out hf
          split at h
          · rename_i ds hol hds
            split at h
            · split at h
              · rename_i hflat
                refine ⟨_, _, h, fun w0 own ops => .one fun st' hal => ?_⟩
                have := Zeb (P := P) (w0 := w0) (own := own) (st := st') (x.freeO o) (Zaf hal hd) ho' ht hs (Nat.le_of_ble_eq_true b1) hz (Zaa b2) (Nat.succ_pos _) b3
                  (by rw [Zb5 hal ps.toList fun p hp => by rw [ho]; simp only [Op.operands]; simp; exact ⟨p.1, by simpa using hp⟩]; exact hf) (Zaa hol) hflat
                rw [Za8, hal.gen _ (by simp)] at this
                exact this
              · exact h.elim
            · split at h
              · rename_i hflat
                refine ⟨_, _, h, fun w0 own ops => .one fun st' hal => ?_⟩
                have := ZiN (P := P) (w0 := w0) (own := own) (st := st') (x.freeO o) (Zaf hal hd) ho' ht hs (Nat.le_of_ble_eq_true b1) hz (Zaa b2) (Nat.succ_pos _) b3
                  (by rw [Zb5 hal ps.toList fun p hp => by rw [ho]; simp only [Op.operands]; simp; exact ⟨p.1, by simpa using hp⟩]; exact hf) (Zaa hol) hds hflat
                rw [Za8, hal.gen _ (by simp)] at this
                exact this
              · exact h.elim
          · rename_i hol hds
            split at h
            · rename_i hflat
              refine ⟨_, _, h, fun w0 own ops => .one fun st' hal => ?_⟩
              have := Zeb (P := P) (w0 := w0) (own := own) (st := st') (x.freeO o) (Zaf hal hd) ho' ht hs (Nat.le_of_ble_eq_true b1) hz (Zaa b2) (Nat.succ_pos _) b3
                (by rw [Zb5 hal ps.toList fun p hp => by rw [ho]; simp only [Op.operands]; simp; exact ⟨p.1, by simpa using hp⟩]; exact hf) (Zaa hol) hflat
              rw [Za8, hal.gen _ (by simp)] at this
              exact this
            · exact h.elim
          · exact h.elim
        · exact h.elim
      · exact h.elim
    · exact h.elim
  · exact h.elim
end

section
open Go
variable {P : Program} {w0 : World} {own : Nat → Prop} {γ : Gh} {st : St} {a : Act} {w : World} {o : Oper} {x : X} {ops : Array Oper}
theorem Zpw {rows : List (List D)} {l n i : Nat} (hi : i < n) : (cut rows l n)[i]? = rows[l + i]? := by
  simp [cut, List.getElem?_take, hi, List.getElem?_drop]
theorem ZoP {rows : List (List D)} {l n : Nat} (h : l + n ≤ rows.length) : (cut rows l n).length = n := by simp [cut]; omega
theorem DR.sliced {G : Nat → Prop} {A : Option Addr} {len cap t z : Nat} {rows sp : List (List D)} (h : DR w G (.slice A len cap) (.s t z rows sp)) {l h' m : Nat} (hl : l ≤ h') (hh : h' ≤ rows.length + sp.length) (hm : h' ≤ m) (hmc : m ≤ cap) :
    DR w G (Go.sliced A l h' m z) (.s t z (cut (rows ++ sp) l (h' - l)) []) := by
  by_cases he : h' = l
  · subst he
    have e1 : cut (rows ++ sp) h' (h' - h') = [] := by simp [cut]
    rw [e1]
    unfold Go.sliced
    rw [Nat.sub_self]
    exact .e _ _ _ _
  · have hlt : l < h' := by omega
    cases h with
    | e _ _ _ _ => simp at hh; omega
    | s _ _ _ b off _ sz vs hb hr hlc hc hd =>
      have hml : ¬ (m = l) := by omega
      unfold Go.sliced
      rw [if_neg hml]
      simp only [Option.map_some, addr_add]
      have hcl : (cut (rows ++ sp) l (h' - l)).length = h' - l := ZoP (by simp; omega)
      have hget : ∀ (i : Nat) r, (cut (rows ++ sp) l (h' - l) ++ [])[i]? = some r → i < h' - l ∧ (rows ++ sp)[l + i]? = some r := fun i r hi => by
        rw [List.append_nil] at hi
        have hil : i < h' - l := by rw [← hcl]; exact (List.getElem?_eq_some_iff.1 hi).1
        rw [Zpw hil] at hi
        exact ⟨hil, hi⟩
      have key := DR.s (w := w) (G := G) t (cut (rows ++ sp) l (h' - l)) [] b (off + l * z) (m - l) z (fun i j => vs (l + i) j) hb (fun r hrm => by
          obtain ⟨i, hi⟩ := List.getElem?_of_mem hrm
          exact hr r (List.mem_of_getElem? (hget i r hi).2)) (by rw [hcl]; simp; omega) (fun i j hi hj => by
          rw [hcl] at hi
          simp at hi
          have := hc (l + i) j (by omega) hj
          rw [Nat.add_mul] at this
          have e : off + l * z + (i * z + j) = off + (l * z + i * z + j) := by omega
          rw [e]; exact this) (fun i j r d h1 h2 => hd (l + i) j r d (hget i r h1).2 h2)
      rw [hcl] at key
      exact key
theorem DR.slice_inv {G : Nat → Prop} {v : Value} {t z : Nat} {rows sp : List (List D)} (h : DR w G v (.s t z rows sp)) : ∃ A cap, v = .slice A rows.length cap ∧ rows.length + sp.length ≤ cap := by
  cases h with
  | e A _ _ cap => exact ⟨A, cap, rfl, by simp⟩
  | s _ _ _ b off cap _ vs _ _ hl _ _ => exact ⟨_, cap, rfl, hl⟩
def bnd (st : St) : Option Operand → Nat → Option Int
  | none, d => some d
  | some y, _ => match evA st y with | .c (.d (.v (.int _ n))) => some n | _ => none
theorem Zcp {y : Operand} {d : Nat} {n : Int} (hR : Rel w0 own γ st a w) (h : bnd st (some y) d = some n) : ∃ k, a.eval y = .int k n := by
  simp only [bnd] at h
  split at h
  · rename_i k n' hy
    cases h
    have := hR.ev y
    rw [hy] at this
    exact ⟨k, (AR.sc_inv this).1⟩
  · cases h
theorem Zo6 {t e : TypeId} {y : Operand} {lo hi : Option Operand} {tg z : Nat} {rows sp : List (List D)} {l h : Int} (hd : st.fits o.dst = true) (ho : o.op = .slice t y lo hi none) (hy : evA st y = .c (.d (.s tg z rows sp))) (ht : P.underlying t = some (.slice e)) (hz : szT P e = some z)
    (hl : bnd st lo 0 = some l) (hh : bnd st hi rows.length = some h) (h0 : 0 ≤ l) (h1 : l ≤ h) (h2 : h ≤ (rows.length + sp.length : Nat)) :
    OpOK P w0 own o st (st.put o.dst (.c (.d (.s tg z (cut (rows ++ sp) l.toNat (h.toNat - l.toNat)) [])))) :=
  .value hd fun γ a w hR => by
    have hv := hR.ev y
    rw [hy] at hv
    have hv := hv.d_inv
    obtain ⟨A, cap, ev, hcap⟩ := hv.slice_inv
    rw [ev] at hv
    have hel : P.underlying t = some (.slice (P.elem t)) := by
      have : P.elem t = e := by simp [Program.elem, ht]
      rw [this]; exact ht
    have hsz : (Go.sizeOf (P.elem t)).run P w = .ok z w := by
      have : P.elem t = e := by simp [Program.elem, ht]
      rw [this]; exact Zbg hz w
    have key : (Instr.slice t (.slice A rows.length cap) (lo.map a.eval) (hi.map a.eval) none).run P w = .ok (Go.sliced A l.toNat h.toNat cap z) w := by
      cases lo with
      | none =>
        simp only [bnd, Option.some.injEq] at hl
        subst hl
        cases hi with
        | none =>
          simp only [bnd, Option.some.injEq] at hh
          subst hh
          simp only [Option.map_none]
          rw [run_slice_all w t A rows.length cap hel, hsz]; simp
        | some yh =>
          obtain ⟨k, ek⟩ := Zcp hR hh
          simp only [Option.map_none, Option.map_some, ek]
          rw [run_slice_h w t A rows.length cap hel k h (by omega) (by omega), hsz]; simp
      | some yl =>
        obtain ⟨k, ek⟩ := Zcp hR hl
        cases hi with
        | none =>
          simp only [bnd, Option.some.injEq] at hh
          subst hh
          simp only [Option.map_none, Option.map_some, ek]
          rw [run_slice_l w t A rows.length cap hel k l h0 (by omega), hsz]; simp
        | some yh =>
          obtain ⟨k2, ek2⟩ := Zcp hR hh
          simp only [Option.map_some, ek, ek2]
          rw [run_slice_lh w t A rows.length cap hel k k2 l h h0 h1 (by omega), hsz]; simp
    refine ⟨γ, w, Go.sliced A l.toNat h.toNat cap z, ?_, γ.le_refl, hR, ?_⟩
    · unfold execOp
      rw [ho]
      simp only [ev, Option.map_none, Sem.run_bind]
      rw [run_sliceAt_slice w t _ _ _ _ hel, key]
      rfl
    · have := hv.sliced (l := l.toNat) (h' := h.toNat) (m := cap) (by omega) (by omega) (by omega) (Nat.le_refl _)
      exact .c _ _ (.d _ _ (by
        have e1 : (D.s tg z (cut (rows ++ sp) l.toNat (h.toNat - l.toNat)) []).top0 = (D.s tg z rows sp).top0 := rfl
        rw [e1]; exact this))
end

section
open Go
variable {P : Program} {w0 : World} {own : Nat → Prop} {γ : Gh} {st : St} {a : Act} {w : World} {o : Oper} {x : X} {ops : Array Oper}
def Gh.redo (γ : Gh) (k : Nat) (b : Option Nat) (sub : Nat → Nat → Nat → Prop) : Gh :=
  { β := fun k' g => if k' = k ∧ g = γ.gen k + 1 then b else γ.β k' g
    F := fun c => γ.F c ∨ ((∃ i j, γ.FP k i j c) ∧ ∀ i j, ¬ sub i j c)
    FP := fun k' i j c => if k' = k then sub i j c else γ.FP k' i j c
    gen := fun k' => if k' = k then γ.gen k + 1 else γ.gen k'
    F0 := γ.F0 }
theorem Gh.redo_new (γ : Gh) (k : Nat) (b : Option Nat) (sub : Nat → Nat → Nat → Prop) : (γ.redo k b sub).β k (γ.gen k + 1) = b := by simp [Gh.redo]
theorem Gh.redo_gen (γ : Gh) (k : Nat) (b : Option Nat) (sub : Nat → Nat → Nat → Prop) : (γ.redo k b sub).gen k = γ.gen k + 1 := by simp [Gh.redo]
theorem Gh.redo_G {γ : Gh} {k : Nat} {b : Option Nat} {sub : Nat → Nat → Nat → Prop} (hsub : ∀ i j c, sub i j c → γ.FP k i j c) (c : Nat) : (γ.redo k b sub).G c ↔ γ.G c := by
  constructor
  · rintro ((h | ⟨⟨i, j, h⟩, _⟩) | ⟨k', i, j, h⟩)
    · exact .inl h
    · exact .inr ⟨k, i, j, h⟩
    · simp only [Gh.redo] at h
      split at h
      · exact .inr ⟨k, i, j, hsub _ _ _ h⟩
      · exact .inr ⟨k', i, j, h⟩
  · rintro (h | ⟨k', i, j, h⟩)
    · exact .inl (.inl h)
    · by_cases hk : k' = k
      · subst hk
        by_cases hs : ∃ i j, sub i j c
        · obtain ⟨i', j', hs⟩ := hs
          exact .inr ⟨k', i', j', by simp [Gh.redo]; exact hs⟩
        · exact .inl (.inr ⟨⟨i, j, h⟩, fun i' j' h' => hs ⟨i', j', h'⟩⟩)
      · exact .inr ⟨k', i, j, by simp [Gh.redo, hk]; exact h⟩
theorem Gh.redo_le (γ : Gh) (k : Nat) (b : Option Nat) (sub : Nat → Nat → Nat → Prop) (hsub : ∀ i j c, sub i j c → γ.FP k i j c) : γ.le (γ.redo k b sub) :=
  { gen := fun k' => by
      show γ.gen k' ≤ if k' = k then γ.gen k + 1 else γ.gen k'
      split
      · rename_i e; subst e; omega
      · exact Nat.le_refl _
    β := fun k' g hg => by
      show (if k' = k ∧ g = γ.gen k + 1 then b else γ.β k' g) = γ.β k' g
      rw [if_neg]
      rintro ⟨rfl, rfl⟩; omega
    F := fun c hc => .inl hc
    G := fun c hc => (Gh.redo_G hsub c).2 hc
    F0 := rfl }
theorem Rel.redo {w' : World} (h : Rel w0 own γ st a w) {k : Nat} {R : Root} (hk : st.store k = some R) (box : Bool) (wd : Nat) (rows : List (List C)) (b : Option Nat) (sub : Nat → Nat → Nat → Prop) (hsub : ∀ i j c, sub i j c → γ.FP k i j c)
    (hb : ∀ c, b = some c → γ.β k R.tag = some c ∨ (w.heap.size ≤ c ∧ c < w'.heap.size))
    (hheap : ∀ c, c < w.heap.size → γ.β k R.tag ≠ some c → w'.heap[c]? = w.heap[c]?) (hz : Shapes w w') (hs : w.heap.size ≤ w'.heap.size) (ho : w'.os = w.os) (ht : w'.tape = w.tape) (hp : w'.output = w.output)
    (hmem : Same γ.G w w' → RootOK (γ.redo k b sub) w' k ⟨st.gen k + 1, box, wd, rows⟩) :
    Rel w0 own (γ.redo k b sub) (st.root k box wd rows) a w' := by
  have hle := γ.redo_le k b sub hsub
  have hgk : γ.gen k = st.gen k := congrFun h.gen k
  have hroot : ∀ c, γ.β k R.tag = some c → ¬ γ.F c ∧ (∀ k' i j, ¬ γ.FP k' i j c) ∧ (own c ∨ w0.heap.size ≤ c) := fun c hc => h.rootF k R c hk hc
  have hbG : ∀ c, γ.β k R.tag = some c → ¬ γ.G c := fun c hc hG => by
    obtain ⟨p1, p2, _⟩ := hroot c hc
    rcases hG with hG | ⟨_, _, _, hG⟩
    · exact p1 hG
    · exact p2 _ _ _ hG
  have hS : Same γ.G w w' := fun c hG => hheap c (h.lt c hG) fun e => hbG c e hG
  have hfreshG : ∀ c, w.heap.size ≤ c → ¬ γ.G c := fun c hc hG => by have := h.lt c hG; omega
  have hnew : (γ.redo k b sub).β k (st.gen k + 1) = b := by rw [← hgk]; exact γ.redo_new k b sub
  have hold : ∀ k' g, k' ≠ k → (γ.redo k b sub).β k' g = γ.β k' g := fun k' g hk' => by simp [Gh.redo, hk']
  have hst : ∀ k' R', (st.root k box wd rows).store k' = some R' → (k' = k ∧ R' = ⟨st.gen k + 1, box, wd, rows⟩) ∨ (k' ≠ k ∧ st.store k' = some R') := by
    intro k' R' h1
    simp only [St.root] at h1
    split at h1
    · cases h1; exact .inl ⟨‹_›, rfl⟩
    · exact .inr ⟨‹_›, h1⟩
  have hltβ : ∀ k' R' c, st.store k' = some R' → γ.β k' R'.tag = some c → c < w.heap.size := fun k' R' c h1 h2 => h.ltβ k' R'.tag c (by rw [h.gen]; exact h.tag k' R' h1) h2
  refine { env := ?_, size := h.size, defers := h.defers, tmps := fun i => (h.tmps i).mono hle hS hz, ghost := fun i => (h.ghost i).mono hle hS hz, gen := ?_, tag := ?_, mem := ?_, inj := ?_, rootF := ?_, fpF := ?_, fpD := ?_, fs := ?_, lt := ?_, ltβ := ?_ }
  · refine ⟨ho.trans h.env.os, ht.trans h.env.tape, hp.trans h.env.output, Nat.le_trans h.env.size hs, fun c hc hn => ?_, fun b s e => hz b s (h.env.shapes b s e)⟩
    rw [hheap c (Nat.lt_of_lt_of_le hc h.env.size) fun e => ?_]
    · exact h.env.block c hc hn
    · rcases (hroot c e).2.2 with q | q
      · exact hn q
      · omega
  · funext k'; simp only [Gh.redo, St.root]; split
    · rw [hgk]
    · exact congrFun h.gen k'
  · intro k' R' h1
    rcases hst k' R' h1 with ⟨rfl, rfl⟩ | ⟨n1, h3⟩
    · simp [St.root]
    · simp [St.root, n1]; exact h.tag k' R' h3
  · intro k' R' h1
    rcases hst k' R' h1 with ⟨rfl, rfl⟩ | ⟨n1, h3⟩
    · exact hmem hS
    · refine (h.mem k' R' h3).mono hle hS hz (by rw [h.gen]; exact h.tag k' R' h3) (fun c hβ => hheap c (hltβ k' R' c h3 hβ) fun e => n1 (h.inj k' R' k R c h3 hk hβ e)) (fun i j r c _ _ b => ?_)
      simp [Gh.redo, n1]
  · intro k1 R1 k2 R2 c h1 h2 h3 h4
    rcases hst k1 R1 h1 with ⟨rfl, rfl⟩ | ⟨n1, g1⟩ <;> rcases hst k2 R2 h2 with ⟨rfl, rfl⟩ | ⟨n2, g2⟩
    · rfl
    · rw [hnew] at h3
      rw [hold _ _ n2] at h4
      rcases hb c h3 with e | e
      · exact h.inj _ _ _ _ c hk g2 e h4
      · have := hltβ _ _ _ g2 h4; omega
    · rw [hnew] at h4
      rw [hold _ _ n1] at h3
      rcases hb c h4 with e | e
      · exact h.inj _ _ _ _ c g1 hk h3 e
      · have := hltβ _ _ _ g1 h3; omega
    · rw [hold _ _ n1] at h3
      rw [hold _ _ n2] at h4
      exact h.inj _ _ _ _ c g1 g2 h3 h4
  · intro k1 R1 c h1 h3
    rcases hst k1 R1 h1 with ⟨rfl, rfl⟩ | ⟨n1, g1⟩
    · rw [hnew] at h3
      rcases hb c h3 with e | e
      · obtain ⟨p1, p2, p3⟩ := hroot c e
        refine ⟨fun hF => ?_, fun k' i j hf => ?_, p3⟩
        · rcases hF with hF | ⟨⟨i, j, hF⟩, _⟩
          · exact p1 hF
          · exact p2 _ _ _ hF
        · simp only [Gh.redo] at hf
          split at hf
          · exact p2 _ _ _ (hsub _ _ _ hf)
          · exact p2 _ _ _ hf
      · refine ⟨fun hF => hfreshG c e.1 ((Gh.redo_G hsub c).1 (.inl hF)), fun k' i j hf => hfreshG c e.1 ((Gh.redo_G (b := b) hsub c).1 (.inr ⟨k', i, j, hf⟩)), .inr (Nat.le_trans h.env.size e.1)⟩
    · rw [hold _ _ n1] at h3
      obtain ⟨p1, p2, p3⟩ := h.rootF k1 R1 c g1 h3
      refine ⟨fun hF => ?_, fun k' i j hf => ?_, p3⟩
      · rcases hF with hF | ⟨⟨i, j, hF⟩, _⟩
        · exact p1 hF
        · exact p2 _ _ _ hF
      · simp only [Gh.redo] at hf
        split at hf
        · exact p2 _ _ _ (hsub _ _ _ hf)
        · exact p2 _ _ _ hf
  · intro k1 i j c hf
    simp only [Gh.redo] at hf
    split at hf
    · obtain ⟨p1, p2⟩ := h.fpF _ _ _ _ (hsub _ _ _ hf)
      refine ⟨fun hF => ?_, p2⟩
      rcases hF with hF | ⟨_, hF⟩
      · exact p1 hF
      · exact hF _ _ hf
    · rename_i n1
      obtain ⟨p1, p2⟩ := h.fpF _ _ _ _ hf
      refine ⟨fun hF => ?_, p2⟩
      rcases hF with hF | ⟨⟨i', j', hF⟩, _⟩
      · exact p1 hF
      · exact n1 (h.fpD _ _ _ _ _ _ _ hf hF).1
  · intro k1 i1 j1 k2 i2 j2 c h1 h2
    simp only [Gh.redo] at h1 h2
    split at h1 <;> split at h2
    · rename_i e1 e2; subst e1 e2; exact h.fpD _ _ _ _ _ _ _ (hsub _ _ _ h1) (hsub _ _ _ h2)
    · rename_i e1 e2; exact (e2 (h.fpD _ _ _ _ _ _ _ (hsub _ _ _ h1) h2).1.symm).elim
    · rename_i e1 e2; exact (e1 (h.fpD _ _ _ _ _ _ _ h1 (hsub _ _ _ h2)).1).elim
    · exact h.fpD _ _ _ _ _ _ _ h1 h2
  · rintro c (hF | ⟨⟨i, j, hF⟩, _⟩)
    · exact h.fs c hF
    · exact .inr (h.fpF _ _ _ _ hF).2
  · intro c hG
    exact Nat.lt_of_lt_of_le (h.lt c ((Gh.redo_G hsub c).1 hG)) hs
  · intro k1 g c hg hβ
    simp only [Gh.redo] at hg hβ
    by_cases e : k1 = k ∧ g = γ.gen k + 1
    · rw [if_pos e] at hβ
      rcases hb c hβ with e2 | e2
      · have := hltβ k R c hk e2; omega
      · exact e2.2
    · rw [if_neg e] at hβ
      have hg' : g ≤ γ.gen k1 := by
        by_cases e1 : k1 = k
        · subst e1
          simp at hg e
          omega
        · simpa [e1] using hg
      have := h.ltβ k1 g c hg' hβ
      omega
end

section
open Go
variable {P : Program} {w0 : World} {own : Nat → Prop} {γ : Gh} {st : St} {a : Act} {w : World} {o : Oper} {x : X} {ops : Array Oper}
def D.isV : D → Bool
  | .v _ => true
  | _ => false
def allV (rows : List (List D)) : Bool := rows.all fun r => r.all D.isV
def srcD (st : St) (wd : Nat) (y : A) : Option (List (List D)) :=
  match y with
  | .c (.d (.s _ z rows _)) => if z = wd ∧ allV rows = true then some rows else none
  | .c (.d (.v (.slice none 0 0))) => some []
  | .c (.rs k g wd' lo len kn) => (st.store k).bind fun R => if R.tag = g ∧ R.wd = wd ∧ wd' = wd ∧ lo + len ≤ R.rows.length then (strip R.rows).bind fun rows => if allV (cut rows lo len) = true then some (cut rows lo len) else none else none
  | _ => none
structure Laid (w : World) (wd : Nat) (v : Value) (rows : List (List D)) (vs : Nat → Nat → Value) : Prop where
  val : ∃ A cap, v = .slice A rows.length cap ∧ ∀ i j, i < rows.length → j < wd → ∃ b off, A = some ⟨b, off, none⟩ ∧ w.cell? ⟨b, off + (i * wd + j), none⟩ = some (vs i j)
  wid : ∀ r ∈ rows, r.length = wd
  get : ∀ i j r d, rows[i]? = some r → r[j]? = some d → d = .v (vs i j) ∧ plain (vs i j) = true
theorem Zno {rows : List (List D)} (h : allV rows = true) {i j : Nat} {r : List D} {d : D} (h1 : rows[i]? = some r) (h2 : r[j]? = some d) : ∃ x, d = .v x := by
  have := List.all_eq_true.1 (List.all_eq_true.1 h r (List.mem_of_getElem? h1)) d (List.mem_of_getElem? h2)
  cases d <;> simp [D.isV] at this
  exact ⟨_, rfl⟩
theorem ZcX (hR : Rel w0 own γ st a w) {wd : Nat} {y : A} {v : Value} {rows : List (List D)} (hv : AR γ w v y) (h : srcD st wd y = some rows) : ∃ vs, Laid w wd v rows vs := by
  unfold srcD at h
  split at h
  · rename_i t z rows' sp
    split at h
    · rename_i hc
      obtain ⟨rfl, hall⟩ := hc
      cases h
      have hd := hv.d_inv
      cases hd with
      | e A _ _ cap => exact ⟨fun _ _ => undef, ⟨⟨A, cap, rfl, fun i j hi => by simp at hi⟩, by simp, by simp⟩⟩
      | s _ _ _ b off cap _ vs hb hr hl hc hd =>
        refine ⟨vs, ⟨⟨_, cap, rfl, fun i j hi hj => ⟨b, off, rfl, hc i j (by omega) hj⟩⟩, fun r hrm => hr r (List.mem_append_left _ hrm), fun i j r d h1 h2 => ?_⟩⟩
        have hlt := (List.getElem?_eq_some_iff.1 h1).1
        have h1' : (rows ++ sp)[i]? = some r := by rw [List.getElem?_append_left hlt]; exact h1
        have := hd i j r d h1' h2
        obtain ⟨x, rfl⟩ := Zno hall h1 h2
        generalize vs i j = u at this ⊢
        cases this with
        | v _ hp => exact ⟨rfl, hp⟩
    · cases h
  · cases h
    have hd := (AR.sc_inv (show AR γ w v (sc (.slice none 0 0)) from hv)).1
    subst hd
    exact ⟨fun _ _ => undef, ⟨⟨none, 0, rfl, fun i j hi => by simp at hi⟩, by simp, by simp⟩⟩
  · rename_i k g wd' lo len kn
    obtain ⟨R, hk, h9⟩ := Option.bind_eq_some_iff.1 h
    clear h
    split at h9
    · rename_i hc
      obtain ⟨e1, e2, e3, hle⟩ := hc
      subst e1 e3
      obtain ⟨rows', hs, h8⟩ := Option.bind_eq_some_iff.1 h9
      clear h9
      split at h8
      · rename_i hall
        cases h8
        have hrows := Zid _ _ hs
        have hm := hR.mem k R hk
        unfold RootOK at hm
        have hlr : rows'.length = R.rows.length := by rw [hrows]; simp [emb]
        have hll : (cut rows' lo len).length = len := ZoP (by omega)
        have hget : ∀ (i : Nat) r, (cut rows' lo len)[i]? = some r → i < len ∧ rows'[lo + i]? = some r := fun i r hi => by
          have hil : i < len := by rw [← hll]; exact (List.getElem?_eq_some_iff.1 hi).1
          rw [Zpw hil] at hi
          exact ⟨hil, hi⟩
        rcases hv.rs_inv with ⟨cap, b, E, n, rfl, hβ, hg, hsh, hcap, hlc, hkn⟩ | ⟨⟨A, rfl⟩, rfl, rfl, rfl, hβ, hg⟩
        · rw [hβ] at hm
          obtain ⟨arr, E', harr, hw, hsz, hcell⟩ := hm
          refine ⟨fun i j => arr.getD ((lo + i) * wd' + j) undef, ⟨⟨some ⟨b, lo * wd', none⟩, cap, by rw [hll], fun i j hi hj => ⟨b, _, rfl, ?_⟩⟩, fun r hr => ?_, fun i j r d h1 h2 => ?_⟩⟩
          · rw [hll] at hi
            rw [e2] at hsz
            have hpos : (lo + i) * wd' + j < arr.size := Nat.lt_of_lt_of_le (Zbc (by omega : lo + i < R.rows.length) hj) hsz
            have e : lo * wd' + (i * wd' + j) = (lo + i) * wd' + j := by rw [Nat.add_mul]; omega
            rw [e]
            simp [World.cell?, harr, hpos]
          · obtain ⟨i, hi⟩ := List.getElem?_of_mem hr
            obtain ⟨_, hi⟩ := hget i r hi
            have : r.map C.d ∈ R.rows := by rw [hrows]; exact List.mem_map.2 ⟨r, List.mem_of_getElem? hi, rfl⟩
            rw [← e2]
            simpa using hw _ this
          · obtain ⟨_, h1'⟩ := hget i r h1
            obtain ⟨u, rfl⟩ := Zno hall h1 h2
            obtain ⟨r', g1, g2⟩ := ZiI h1' h2
            rw [← hrows] at g1
            have hsr := hcell _ _ _ _ g1 g2
            rw [e2] at hsr
            have := CR.sc_inv (show CR γ w _ (.d (.v u)) from hsr)
            rw [this.1]
            exact ⟨rfl, this.2⟩
        · refine ⟨fun _ _ => undef, ⟨⟨A, 0, by simp [cut], fun i j hi => by simp [cut] at hi⟩, by simp [cut], by simp [cut]⟩⟩
      · cases h8
    · cases h9
  · cases h
theorem Zj6 {v : Value} (h : plain v = true) : v.oneCell' = true := by
  unfold plain at h
  split at h <;> first | rfl | cases h
def news (wd n : Nat) (vs : Nat → Nat → Value) : List Value := (List.range (n * wd)).map fun q => vs (q / wd) (q % wd)
theorem Za3 (wd n : Nat) (vs : Nat → Nat → Value) : (news wd n vs).length = n * wd := by simp [news]
theorem ZbZ {wd n : Nat} {vs : Nat → Nat → Value} {i j : Nat} (hi : i < n) (hj : j < wd) : (news wd n vs)[i * wd + j]? = some (vs i j) := by
  have h := Zbc hi hj
  have e1 : (i * wd + j) / wd = i := by
    rw [Nat.mul_comm, Nat.mul_add_div (by omega)]; simp [Nat.div_eq_of_lt hj]
  have e2 : (i * wd + j) % wd = j := by
    rw [Nat.mul_comm, Nat.mul_add_mod]; exact Nat.mod_eq_of_lt hj
  simp only [news, List.getElem?_map, List.getElem?_range h, Option.map_some, e1, e2]
theorem Zbx {wd n q : Nat} (hw : 0 < wd) (h : q < n * wd) : q / wd < n ∧ q % wd < wd ∧ q / wd * wd + q % wd = q :=
  ⟨(Nat.div_lt_iff_lt_mul hw).2 h, Nat.mod_lt _ hw, by rw [Nat.mul_comm]; exact Nat.div_add_mod q wd⟩
theorem Laid.src {wd : Nat} {v : Value} {rows : List (List D)} {vs : Nat → Nat → Value} (h : Laid w wd v rows vs) (hw : 0 < wd) {tx e' : TypeId} (hk : P.underlying tx = some (.slice e')) : Src P wd tx v rows.length (news wd rows.length vs) w := by
  obtain ⟨A, cap, rfl, hc⟩ := h.val
  have key : ∀ q u, (news wd rows.length vs)[q]? = some u → q < rows.length * wd ∧ u = vs (q / wd) (q % wd) := fun q u hq => by
    have hlt := (List.getElem?_eq_some_iff.1 hq).1
    rw [Za3] at hlt
    obtain ⟨a1, a2, a3⟩ := Zbx hw hlt
    have := ZbZ (vs := vs) a1 a2
    rw [a3, hq] at this
    cases this
    exact ⟨hlt, rfl⟩
  have hone : ∀ u ∈ news wd rows.length vs, u.oneCell' = true := fun u hu => by
    obtain ⟨q, hq⟩ := List.getElem?_of_mem hu
    obtain ⟨hlt, rfl⟩ := key q u hq
    obtain ⟨a1, a2, a3⟩ := Zbx hw hlt
    have hr := List.getElem?_eq_getElem a1
    have hrl := h.wid _ (List.getElem_mem a1)
    obtain ⟨_, hp⟩ := h.get (q / wd) (q % wd) _ _ hr (List.getElem?_eq_getElem (by omega))
    exact Zj6 hp
  cases A with
  | none =>
    have h0 : rows.length = 0 := by
      rcases Nat.eq_zero_or_pos rows.length with h0 | h0
      · exact h0
      · obtain ⟨b, off, e, _⟩ := hc 0 0 h0 hw
        cases e
    have hn : news wd rows.length vs = [] := by rw [h0]; simp [news]
    rw [hn, h0]
    exact .ofNil w hk cap
  | some A =>
    refine Src.ofSlice w hk A rows.length cap _ (Za3 _ _ _) (fun q u hq => ?_) hone
    obtain ⟨hlt, rfl⟩ := key q u hq
    obtain ⟨a1, a2, a3⟩ := Zbx hw hlt
    obtain ⟨b, off, e, hcell⟩ := hc _ _ a1 a2
    cases e
    rw [addr_add]
    rw [a3] at hcell
    exact hcell
theorem ZdJ (t tx ty e : TypeId) (i : TypeInfo) (ht : P.underlying t = some (.slice e)) (hi : P.info? e = some i) (b sLen sCap : Nat) (x : Value) (n : Nat) (nw : List Value) (hs : Src P i.size tx x n nw w)
    {arr : Array Value} {E : TypeId} (hroom : sLen + n ≤ sCap) (harr : w.heap[b]? = some (.cells arr E (0, 0))) (hfit : sLen * i.size + nw.length ≤ arr.size) :
    (Builtin.append_ #[t, tx] ty #[.slice (some ⟨b, 0, none⟩) sLen sCap, x]).run P w = .ok (.slice (some ⟨b, 0, none⟩) (sLen + n) sCap) (w.setRow b (poke arr (sLen * i.size) nw)) := by
  have hst := run_storeCells_at P b (sLen * i.size) E nw 0 arr w harr (by simpa using hfit) hs.one
  simp only [Nat.add_zero] at hst
  have hst' : (storeCells ⟨b, sLen * i.size, none⟩ nw).run P w = .ok () (w.setRow b (poke arr (sLen * i.size) nw)) := hst
  rcases hs.kind with ⟨e', hk⟩ | hk <;> simp [Builtin.append_, run_underlying ht, run_underlying hk, Go.sizeOf, typeInfo, hi, hs.len, hroom, hs.cells, Addr.add_lit, hst']
end

section
open Go
variable {P : Program} {w0 : World} {own : Nat → Prop} {γ : Gh} {st : St} {a : Act} {w : World} {o : Oper} {x : X} {ops : Array Oper}
theorem Znw (x y : List (List D)) : emb (x ++ y) = emb x ++ emb y := by simp [emb]
theorem Zfw (x : List (List D)) : (emb x).length = x.length := by simp [emb]
theorem Rel.empty (h : Rel w0 own γ st a w) (k wd : Nat) : ∃ γ', γ.le γ' ∧ Rel w0 own γ' (st.root k false wd []) a w ∧ ∀ A, CR γ' w (.slice A 0 0) (.rs k (st.gen k + 1) wd 0 0 0) := by
  obtain ⟨γ', q1, q2, q3, _, _⟩ := h.adopt k (v := .slice none 0 0) (z := wd) (rows := []) (sp := []) (S := fun _ => False) (.n none wd _) (fun _ h => h.elim)
  refine ⟨γ', q1, by simpa [emb] using q2, fun A => ?_⟩
  simp only [List.length_nil, Nat.add_zero] at q3
  rcases (AR.c (γ := γ') _ _ q3).rs_inv with ⟨_, _, _, _, e, _⟩ | ⟨_, _, _, _, hβ, hg⟩
  · cases e
  · exact .rn A k _ wd hg hβ
theorem ZfN {rows : List (List C)} {nr : List (List D)} {len i : Nat} {r : List C} (hl : len ≤ rows.length) (h : (rows.take len ++ emb nr)[i]? = some r) : (i < len ∧ rows[i]? = some r) ∨ (len ≤ i ∧ ∃ r0, nr[i - len]? = some r0 ∧ r = r0.map C.d) := by
  have hlen : (rows.take len).length = len := by simp; omega
  by_cases hi : i < len
  · left
    rw [List.getElem?_append_left (by omega), List.getElem?_take, if_pos hi] at h
    exact ⟨hi, h⟩
  · right
    rw [List.getElem?_append_right (by omega), hlen] at h
    simp only [emb, List.getElem?_map] at h
    obtain ⟨r0, h0, rfl⟩ := Option.map_eq_some_iff.1 h
    exact ⟨by omega, r0, h0, rfl⟩
theorem ZgZ (hR : Rel w0 own γ st a w) {t tx ty e e' : TypeId} {k len kn wd : Nat} {R : Root} {i : TypeInfo} {z : Value} {v u : Value} {nr : List (List D)} {vs : Nat → Nat → Value} (hk : st.store k = some R) (hw : R.wd = wd) (hlen : len ≤ R.rows.length)
    (hv : CR γ w v (.rs k R.tag wd 0 len kn)) (ht : P.underlying t = some (.slice e)) (htx : P.underlying tx = some (.slice e')) (hi : P.info? e = some i) (hsz : i.size = wd) (h0 : 0 < wd) (hz : i.zero = some z) (hzs : z.cells.size = wd)
    (hu : Laid w wd u nr vs) (hb : (len + nr.length) * i.bytes ≤ 140737488355328) (h63 : len + nr.length ≤ 9223372036854775807) :
    ∃ γ' w' v', (Builtin.append_ #[t, tx] ty #[v, u]).run P w = .ok v' w' ∧ γ.le γ' ∧ Rel w0 own γ' (st.root k false wd (R.rows.take len ++ emb nr)) a w' ∧ CR γ' w' v' (.rs k (st.gen k + 1) wd 0 (len + nr.length) (len + nr.length)) := by
  subst hsz
  have hgk : γ.gen k = st.gen k := congrFun hR.gen k
  have hsrc := hu.src h0 htx (P := P)
  have hnl := Za3 i.size nr.length vs
  have hm := hR.mem k R hk
  unfold RootOK at hm
  have htl : (R.rows.take len).length = len := by simp; omega
  have hrl : (R.rows.take len ++ emb nr).length = len + nr.length := by rw [List.length_append, htl, Zfw]
  have hsub : ∀ (n : Nat) i' j c, (fun i' j c => i' < n ∧ γ.FP k i' j c) i' j c → γ.FP k i' j c := fun n i' j c h => h.2
  -- a new row
  have grow : ∀ (A : Option Addr) (cap : Nat) (olds : List Value), v = .slice A len cap → cap < len + nr.length → olds.length = len * i.size → (Builtin.firstCells i.size len (.slice A len cap)).run P w.drew = .ok olds.toArray w.drew →
      (∀ i' j r c, i' < len → R.rows[i']? = some r → r[j]? = some c → SR γ w (olds.getD (i' * i.size + j) undef) c (γ.FP k i' j)) → (∀ r ∈ R.rows, r.length = i.size) →
      ∃ γ' w' v', (Builtin.append_ #[t, tx] ty #[v, u]).run P w = .ok v' w' ∧ γ.le γ' ∧ Rel w0 own γ' (st.root k false i.size (R.rows.take len ++ emb nr)) a w' ∧ CR γ' w' v' (.rs k (st.gen k + 1) i.size 0 (len + nr.length) (len + nr.length)) := by
    intro A cap olds ev hg hol hold hcell hwd
    subst ev
    have hrun := run_append_grow_src (P := P) w t tx ty e i z ht hi hz A len cap olds hold u nr.length _ hsrc hg (by omega) (growslice_fits hg hb)
    have hge := grownCap_ge w (len + nr.length) cap e
    generalize hgc : grownCap w (len + nr.length) cap e = gc at hrun hge
    generalize harr2 : ((olds ++ news i.size nr.length vs).toArray ++ Builtin.zeroCells z.cells (gc - (len + nr.length))) = arr2 at hrun
    have hL : (olds ++ news i.size nr.length vs).length = (len + nr.length) * i.size := by rw [List.length_append, hol, hnl, Nat.add_mul]
    have hs2 : arr2.size = gc * i.size := by
      rw [← harr2, Array.size_append, List.size_toArray, hL, size_zeroCells, hzs, ← Nat.add_mul]
      congr 1; omega
    have hget : ∀ q, q < (len + nr.length) * i.size → arr2[q]? = (olds ++ news i.size nr.length vs)[q]? := fun q hq => by
      rw [← harr2, Array.getElem?_append_left (by simpa [hL] using hq), List.getElem?_toArray]
    refine ⟨_, _, _, hrun, γ.redo_le k (some w.heap.size) (fun i' j c => i' < len ∧ γ.FP k i' j c) (hsub len), ?_, ?_⟩
    · refine hR.redo hk false i.size _ (some w.heap.size) _ (hsub len) (fun c hc => .inr ?_) (fun c hc _ => RowKit.Below.heap_alloc w.drew _ c hc) (Shapes.alloc w.drew _) (by simp) rfl rfl rfl (fun hS => ?_)
      · cases hc; exact ⟨Nat.le_refl _, by simp⟩
      · unfold RootOK
        simp only [← hgk, Gh.redo_new]
        refine ⟨arr2, e, (by show (w.heap.push _)[w.heap.size]? = _; simp), ?_, ?_, ?_⟩
        · intro r hr
          rcases List.mem_append.1 hr with hr | hr
          · exact hwd r (List.mem_of_mem_take hr)
          · obtain ⟨r0, h0', rfl⟩ := List.mem_map.1 hr
            simpa using hu.wid r0 h0'
        · rw [hrl, hs2]; exact Nat.mul_le_mul_right _ hge
        · intro i' j r c hr hc
          rcases ZfN hlen hr with ⟨hil, hr'⟩ | ⟨hil, r0, hr0, rfl⟩
          · have hjl : j < i.size := by have := (List.getElem?_eq_some_iff.1 hc).1; rw [hwd r (List.mem_of_getElem? hr')] at this; exact this
            have hq : i' * i.size + j < len * i.size := Zbc hil hjl
            have hqL : i' * i.size + j < (len + nr.length) * i.size := by rw [Nat.add_mul]; omega
            have eg : arr2.getD (i' * i.size + j) undef = olds.getD (i' * i.size + j) undef := by
              rw [Array.getD_eq_getD_getElem?, hget _ hqL, List.getElem?_append_left (by omega), List.getD_eq_getElem?_getD]
            rw [eg]
            have e2 : (γ.redo k (some w.heap.size) (fun i' j c => i' < len ∧ γ.FP k i' j c)).FP k i' j = γ.FP k i' j := by
              funext c'; simp [Gh.redo, hil]
            rw [e2]
            exact (hcell i' j r c hil hr' hc).mono (γ.redo_le k _ _ (hsub len)) hS (Shapes.alloc w.drew _) (hS.mono fun b hb => .inr ⟨k, i', j, hb⟩)
          · have hi2 := (List.getElem?_eq_some_iff.1 hr0).1
            rw [List.getElem?_map] at hc
            obtain ⟨d, hd, rfl⟩ := Option.map_eq_some_iff.1 hc
            have hjl : j < i.size := by have := (List.getElem?_eq_some_iff.1 hd).1; rw [hu.wid r0 (List.mem_of_getElem? hr0)] at this; exact this
            obtain ⟨rfl, hp⟩ := hu.get _ _ _ _ hr0 hd
            have eq : i' * i.size + j = len * i.size + ((i' - len) * i.size + j) := by
              have : i' = len + (i' - len) := by omega
              rw [this, Nat.add_mul]; simp; omega
            have hq2 : (i' - len) * i.size + j < nr.length * i.size := Zbc hi2 hjl
            have eg : arr2.getD (i' * i.size + j) undef = vs (i' - len) j := by
              rw [Array.getD_eq_getD_getElem?, hget _ (by rw [Nat.add_mul]; omega), List.getElem?_append_right (by omega), hol]
              have : i' * i.size + j - len * i.size = (i' - len) * i.size + j := by omega
              rw [this, ZbZ hi2 hjl]; rfl
            rw [eg]
            exact SR.of_CR (.d _ _ (.v _ hp)) rfl
    · have := CR.rs (γ := γ.redo k (some w.heap.size) (fun i' j c => i' < len ∧ γ.FP k i' j c)) (w := w.drew.alloc (.cells arr2 e)) k (st.gen k + 1) i.size 0 (len + nr.length) (len + nr.length) gc w.heap.size e arr2.size (by rw [Gh.redo_gen, hgk]; exact Nat.le_refl _) (by rw [← hgk, Gh.redo_new])
        (by simp only [World.shape?]; rw [show (w.drew.alloc (.cells arr2 e)).heap[w.heap.size]? = some (.cells arr2 e (0, 0)) from heap_alloc_new w.drew _]) (by rw [hs2]; simp) hge hge
      simpa using this
  rcases (AR.c (γ := γ) _ _ hv).rs_inv with ⟨cap, b, E, n, ev, hβ, hg, hsh, hcap, hlc, hkn⟩ | ⟨⟨A, ev⟩, _, hl0, hk0, hβ, hg⟩
  · rw [hβ] at hm
    obtain ⟨arr, E', harr, hwd, hsz2, hcell⟩ := hm
    rw [hw] at hwd hsz2 hcell
    have hn : n = arr.size := by simp [World.shape?, harr] at hsh; exact hsh.2.symm
    have hE : E = E' := by simp [World.shape?, harr] at hsh; exact hsh.1.symm
    subst hn
    rw [Nat.zero_mul] at ev
    rw [Nat.zero_add] at hcap
    by_cases hroom : len + nr.length ≤ cap
    · subst ev
      have hfit : len * i.size + (news i.size nr.length vs).length ≤ arr.size := by
        rw [hnl, ← Nat.add_mul]
        exact Nat.le_trans (Nat.mul_le_mul_right _ hroom) hcap
      have hrun := ZdJ (P := P) (w := w) t tx ty e i ht hi b len cap u nr.length _ hsrc hroom harr hfit
      obtain ⟨p1, p2, p3⟩ := hR.rootF k R b hk hβ
      have hz2 : Shapes w (w.setRow b (poke arr (len * i.size) (news i.size nr.length vs))) := .setRow harr (Zco _ _ _ hfit)
      refine ⟨_, _, _, hrun, γ.redo_le k (some b) (fun i' j c => i' < len ∧ γ.FP k i' j c) (hsub len), ?_, ?_⟩
      · refine hR.redo hk false i.size _ (some b) _ (hsub len) (fun c hc => .inl ?_) (fun c hc hne => setRow_other _ _ _ _ fun ec => ?_) hz2 (by simp) (by simp) (by simp) (by simp) (fun hS => ?_)
        · cases hc; exact hβ
        · subst ec; exact hne hβ
        · unfold RootOK
          simp only [← hgk, Gh.redo_new]
          refine ⟨_, E', setRow_heap _ _ _ _ _ _ harr, ?_, ?_, ?_⟩
          · intro r hr
            rcases List.mem_append.1 hr with hr | hr
            · exact hwd r (List.mem_of_mem_take hr)
            · obtain ⟨r0, h0', rfl⟩ := List.mem_map.1 hr
              simpa using hu.wid r0 h0'
          · rw [hrl, Zco _ _ _ hfit]
            exact Nat.le_trans (Nat.mul_le_mul_right _ hroom) hcap
          · intro i' j r c hr hc
            rw [ZfX _ _ _ hfit]
            rcases ZfN hlen hr with ⟨hil, hr'⟩ | ⟨hil, r0, hr0, rfl⟩
            · have hjl : j < i.size := by have := (List.getElem?_eq_some_iff.1 hc).1; rw [hwd r (List.mem_of_getElem? hr')] at this; exact this
              have hq : i' * i.size + j < len * i.size := Zbc hil hjl
              rw [if_neg (by omega)]
              have e2 : (γ.redo k (some b) (fun i' j c => i' < len ∧ γ.FP k i' j c)).FP k i' j = γ.FP k i' j := by
                funext c'; simp [Gh.redo, hil]
              rw [e2]
              exact (hcell i' j r c hr' hc).mono (γ.redo_le k _ _ (hsub len)) hS hz2 (hS.mono fun b hb => .inr ⟨k, i', j, hb⟩)
            · have hi2 := (List.getElem?_eq_some_iff.1 hr0).1
              rw [List.getElem?_map] at hc
              obtain ⟨d, hd, rfl⟩ := Option.map_eq_some_iff.1 hc
              have hjl : j < i.size := by have := (List.getElem?_eq_some_iff.1 hd).1; rw [hu.wid r0 (List.mem_of_getElem? hr0)] at this; exact this
              obtain ⟨rfl, hp⟩ := hu.get _ _ _ _ hr0 hd
              have eq : i' * i.size + j = len * i.size + ((i' - len) * i.size + j) := by
                have : i' = len + (i' - len) := by omega
                rw [this, Nat.add_mul]; simp; omega
              have hq2 : (i' - len) * i.size + j < nr.length * i.size := Zbc hi2 hjl
              rw [if_pos (by rw [hnl]; omega)]
              have eg : (news i.size nr.length vs).getD (i' * i.size + j - len * i.size) undef = vs (i' - len) j := by
                have : i' * i.size + j - len * i.size = (i' - len) * i.size + j := by omega
                rw [List.getD_eq_getElem?_getD, this, ZbZ hi2 hjl]; rfl
              rw [eg]
              exact SR.of_CR (.d _ _ (.v _ hp)) rfl
      · have := CR.rs (γ := γ.redo k (some b) (fun i' j c => i' < len ∧ γ.FP k i' j c)) (w := w.setRow b (poke arr (len * i.size) (news i.size nr.length vs))) k (st.gen k + 1) i.size 0 (len + nr.length) (len + nr.length) cap b E arr.size (by rw [Gh.redo_gen, hgk]; exact Nat.le_refl _) (by rw [← hgk, Gh.redo_new])
          (hz2 _ _ hsh) (by simpa using hcap) hroom hroom
        simpa using this
    · have hlm : len * i.size ≤ arr.size := Nat.le_trans (Nat.mul_le_mul_right _ hlc) hcap
      refine grow (some ⟨b, 0, none⟩) cap (arr.toList.take (len * i.size)) ev (by omega) (by simp; omega) ?_ ?_ hwd
      · refine run_firstCells_some w.drew i.size len ⟨b, 0, none⟩ len cap _ (by simp; omega) fun q x hq => ?_
        rw [addr_add, Nat.zero_add]
        have hql : q < len * i.size := by have := (List.getElem?_eq_some_iff.1 hq).1; simp at this; omega
        rw [List.getElem?_take, if_pos hql] at hq
        have hh : (w.drew).heap[b]? = some (.cells arr E' (0, 0)) := harr
        simp only [World.cell?, hh]
        simpa using hq
      · intro i' j r c hil hr hc
        have hjl : j < i.size := by have := (List.getElem?_eq_some_iff.1 hc).1; rw [hwd r (List.mem_of_getElem? hr)] at this; exact this
        have hq : i' * i.size + j < len * i.size := Zbc hil hjl
        have e1 : (arr.toList.take (len * i.size)).getD (i' * i.size + j) undef = arr.getD (i' * i.size + j) undef := by
          rw [List.getD_eq_getElem?_getD, List.getElem?_take, if_pos hq, Array.getD_eq_getD_getElem?]; simp
        rw [e1]
        exact hcell i' j r c hr hc
  · rw [hβ] at hm
    simp only at hm
    subst hl0
    rcases Nat.eq_zero_or_pos nr.length with hn0 | hn0
    · have hnr : nr = [] := List.eq_nil_of_length_eq_zero hn0
      subst hnr
      subst ev
      have hrun := run_append_nothing (P := P) w t tx ty e i ht hi A 0 0 (Nat.le_refl _) u (by simpa [news] using hsrc)
      refine ⟨_, _, _, hrun, γ.redo_le k none (fun _ _ _ => False) (fun _ _ _ h => h.elim), ?_, ?_⟩
      · refine hR.redo hk false i.size _ none _ (fun _ _ _ h => h.elim) (fun c hc => by cases hc) (fun c _ _ => rfl) (Shapes.refl _) (Nat.le_refl _) rfl rfl rfl (fun hS => ?_)
        unfold RootOK
        simp only [← hgk, Gh.redo_new]
        simp [emb]
      · exact .rn A k _ _ (by rw [Gh.redo_gen, hgk]; exact Nat.le_refl _) (by rw [← hgk, Gh.redo_new])
    · refine grow A 0 [] ev (by omega) (by simp) ?_ (fun i' j r c hil => by omega) (by rw [hm]; simp)
      cases A with
      | none => exact run_firstCells_none w.drew _ 0 0 0
      | some A => exact run_firstCells_some w.drew i.size 0 A 0 0 [] (by simp) (by simp)
end

section
open Go
variable {P : Program} {w0 : World} {own : Nat → Prop} {γ : Gh} {st : St} {a : Act} {w : World} {o : Oper} {x : X} {ops : Array Oper}
theorem Zjr {y : Operand} (k wd : Nat) (hd : st.fits o.dst = true) (ho : o.op = .assign y) (hy : evA st y = .c (.d (.v (.slice none 0 0)))) :
    OpOK P w0 own o st ((st.root k false wd []).put o.dst (.c (.rs k (st.gen k + 1) wd 0 0 0))) :=
  .value (by cases h : o.dst <;> simp_all [St.fits, St.root]) fun γ a w hR => by
    obtain ⟨γ', h1, h2, h3⟩ := hR.empty k wd
    have hv := hR.ev y
    rw [hy] at hv
    have e := (AR.sc_inv (show AR γ w (a.eval y) (sc (.slice none 0 0)) from hv)).1
    exact ⟨γ', w, .slice none 0 0, by unfold execOp; rw [ho, ← e]; rfl, h1, h2, .c _ _ (h3 none)⟩
def isNil (y : A) : Bool := match y with | .c (.d (.v (.slice none 0 0))) => true | _ => false
theorem ZnC {y : A} (h : isNil y = true) : y = .c (.d (.v (.slice none 0 0))) := by
  unfold isNil at h
  split at h
  · rfl
  · cases h
def ZrU (x : X) (k wd : Nat) : XP := ⟨.c (.rs k (x.gen k + 1) wd 0 0 0), [(k, some (.sl (x.gen k + 1) wd []), x.gen k + 1)]⟩
def ZiG (P : Program) (o : Oper) (x : X) (y : Operand) (K : KO) : Prop :=
  match isNil (evA x.S y) with
  | true => match P.underlying o.type with
    | some (.slice e) => match szT P e with
      | some wd => K [x.freeO o] (ZrU x (x.freeO o) wd) x
      | none => False
    | _ => False
  | false => ZoO x y K
theorem Zhn {y : Operand} (ho : o.op = .assign y) : Za6 P o x (ZiG P o x y) := fun K h hd => by
  unfold ZiG at h
  split at h
  · rename_i hn
    have hn := ZnC hn
    split at h
    · split at h
      · rename_i wd _
        refine ⟨_, _, h, fun w0 own ops => .one fun st' hal => ?_⟩
        have := Zjr (P := P) (w0 := w0) (own := own) (st := st') (x.freeO o) wd (Zaf hal hd) ho (by rw [hal.ev (by rw [ho]; simp [Op.operands])]; exact hn)
        rw [Za8, hal.gen _ (by simp)] at this
        exact this
      · exact h.elim
    · exact h.elim
  · exact ZfB (.inr ho) K h hd
theorem Zop {y z : Operand} {t tx e e' : TypeId} {k g len kn wd : Nat} {R : Root} {i : TypeInfo} {zv : Value} {nr : List (List D)} (hd : st.fits o.dst = true) (ho : o.op = .call { callee := .builtin .append, args := #[y, z], argTypes := #[t, tx] })
    (hy : (evA st y).wk = .c (.rs k g wd 0 len kn)) (hk : st.store k = some R) (hg : R.tag = g) (hw : R.wd = wd) (hlen : len ≤ R.rows.length) (ht : P.underlying t = some (.slice e)) (htx : P.underlying tx = some (.slice e')) (hi : P.info? e = some i) (hsz : i.size = wd) (h0 : 0 < wd) (hz : i.zero = some zv) (hzs : zv.cells.size = wd)
    (hu : srcD st wd (evA st z) = some nr) (hb : (len + nr.length) * i.bytes ≤ 140737488355328) (h63 : len + nr.length ≤ 9223372036854775807) :
    OpOK P w0 own o st ((st.root k false wd (R.rows.take len ++ emb nr)).put o.dst (.c (.rs k (st.gen k + 1) wd 0 (len + nr.length) (len + nr.length)))) :=
  .value (by cases h : o.dst <;> simp_all [St.fits, St.root]) fun γ a w hR => by
    subst hg
    have hv := (hR.ev y).wk
    rw [hy] at hv
    obtain ⟨vs, hL⟩ := ZcX hR (hR.ev z) hu
    have hv' : CR γ w (a.eval y) (.rs k R.tag wd 0 len kn) := hv.one rfl
    obtain ⟨γ', w', v', h1, h2, h3, h4⟩ := ZgZ (P := P) (ty := o.type) hR hk hw hlen hv' ht htx hi hsz h0 hz hzs hL hb h63
    refine ⟨γ', w', v', ?_, h2, h3, .c _ _ h4⟩
    unfold execOp
    rw [ho]
    simp only [resolve, Sem.run_bind]
    have e3 : (#[y, z] : Array Operand).map a.eval = #[a.eval y, a.eval z] := by simp
    rw [e3]
    simp only [Sem.run_pure, Result.andThen_ok, invoke, builtin, Sem.run_bind, h1]
theorem Zkq {y z : Operand} {t tx e e' : TypeId} (k : Nat) {wd : Nat} {i : TypeInfo} {zv : Value} {nr : List (List D)} (hd : st.fits o.dst = true) (ho : o.op = .call { callee := .builtin .append, args := #[y, z], argTypes := #[t, tx] })
    (hy : (evA st y).wk = .c (.d (.v (.slice none 0 0)))) (ht : P.underlying t = some (.slice e)) (htx : P.underlying tx = some (.slice e')) (hi : P.info? e = some i) (hsz : i.size = wd) (h0 : 0 < wd) (hz : i.zero = some zv) (hzs : zv.cells.size = wd)
    (hu : srcD st wd (evA st z) = some nr) (hb : nr.length * i.bytes ≤ 140737488355328) (h63 : nr.length ≤ 9223372036854775807) :
    OpOK P w0 own o st ((st.patch ⟨none, .dead, [(k, some ⟨st.gen k + 2, false, wd, emb nr⟩, st.gen k + 2)]⟩).put o.dst (.c (.rs k (st.gen k + 2) wd 0 nr.length nr.length))) :=
  .value (by cases h : o.dst <;> simp_all [St.fits, St.patch]) fun γ a w hR => by
    have hv := (hR.ev y).wk
    rw [hy] at hv
    have e := (AR.sc_inv (show AR γ w (a.eval y) (sc (.slice none 0 0)) from hv)).1
    obtain ⟨vs, hL⟩ := ZcX hR (hR.ev z) hu
    obtain ⟨γ1, g1, g2, g3⟩ := hR.empty k wd
    have hk : (st.root k false wd []).store k = some ⟨st.gen k + 1, false, wd, []⟩ := by simp [St.root]
    obtain ⟨γ', w', v', h1, h2, h3, h4⟩ := ZgZ (P := P) (ty := o.type) (k := k) (len := 0) (kn := 0) g2 hk rfl (Nat.le_refl _) (g3 none) ht htx hi hsz h0 hz hzs hL (by simpa using hb) (by simpa using h63)
    refine ⟨γ', w', v', ?_, Gh.le_trans g1 h2, ?_, .c _ _ (by simpa [St.root] using h4)⟩
    · unfold execOp
      rw [ho]
      simp only [resolve, Sem.run_bind]
      have e3 : (#[y, z] : Array Operand).map a.eval = #[.slice none 0 0, a.eval z] := by simp [e]
      rw [e3]
      simp only [Sem.run_pure, Result.andThen_ok, invoke, builtin, Sem.run_bind, h1]
    · have e2 : (st.root k false wd []).root k false wd ((⟨st.gen k + 1, false, wd, []⟩ : Root).rows.take 0 ++ emb nr) = st.patch ⟨none, .dead, [(k, some ⟨st.gen k + 2, false, wd, emb nr⟩, st.gen k + 2)]⟩ := by
        simp only [St.root, St.patch, Za4]
        congr 1
        · funext j; by_cases hj : j = k <;> simp [hj]
        · funext j; by_cases hj : j = k <;> simp [hj]
      rw [e2] at h3
      exact h3
def srcX (x : X) (wd : Nat) (y : A) (K : List Nat → List (List D) → Prop) : Prop :=
  match y with
  | .c (.d (.s _ z rows _)) => match Nat.beq z wd with
    | true => cond (allV rows) (K [] rows) False
    | false => False
  | .c (.d (.v (.slice none 0 0))) => K [] []
  | .c (.rs k g wd' lo len kn) => match Zar x.store k with
    | some (.sl tg wd2 rows) => match Nat.beq tg g && (Nat.beq wd2 wd && Nat.beq wd' wd) with
      | true => cond (decide (lo + len ≤ rows.length)) (cond (allV (cut rows lo len)) (K [k] (cut rows lo len)) False) False
      | false => False
    | _ => False
  | _ => False
theorem ZcJ {k : Nat} {R : XRoot} (h : Zar x.store k = some R) : x.S.store k = some R.root := by
  show (Zar x.store k).map XRoot.root = _
  rw [h]; rfl
theorem Zhd {wd : Nat} {y : A} {K : List Nat → List (List D) → Prop} (h : srcX x wd y K) : ∃ Ks rows, K Ks rows ∧ ∀ st', (∀ k ∈ Ks, st'.store k = x.S.store k) → srcD st' wd y = some rows := by
  unfold srcX at h
  split at h
  · split at h
    · rename_i hz
      obtain ⟨h1, h2⟩ := Zag h
      refine ⟨_, _, h2, fun st' _ => ?_⟩
      have := Zaa hz
      subst this
      simp [srcD, h1]
    · exact h.elim
  · exact ⟨_, _, h, fun st' _ => rfl⟩
  · rename_i k g wd' lo len kn
    split at h
    · rename_i tg wd2 rows hk
      split at h
      · rename_i hc
        simp only [Bool.and_eq_true] at hc
        obtain ⟨c1, c2, c3⟩ := hc
        have c1 := Zaa c1
        have c2 := Zaa c2
        have c3 := Zaa c3
        subst c1 c2 c3
        obtain ⟨h1, h2⟩ := Zag h
        obtain ⟨h3, h4⟩ := Zag h2
        refine ⟨_, _, h4, fun st' hst => ?_⟩
        have := (hst k (by simp)).trans (ZcJ hk)
        have hle := of_decide_eq_true h1
        have hel : (emb rows).length = rows.length := Zfw rows
        simp only [srcD, this, XRoot.root, Option.bind_some]
        simp [ZpW, h3, hel, hle]
      · exact h.elim
    · exact h.elim
  · exact h.elim
def ZgO (P : Program) (e : TypeId) : Option (Nat × Nat) := match P.info? e with
  | some i => match i.zero with
    | some z => match Nat.beq z.cells.size i.size with
      | true => some (i.size, i.bytes)
      | false => none
    | none => none
  | none => none
theorem Zcs {e : TypeId} {wd by' : Nat} (h : ZgO P e = some (wd, by')) : ∃ i zv, P.info? e = some i ∧ i.size = wd ∧ i.bytes = by' ∧ i.zero = some zv ∧ zv.cells.size = wd := by
  unfold ZgO at h
  split at h
  · rename_i i hi
    split at h
    · rename_i z hz
      split at h
      · rename_i hb
        cases h
        exact ⟨i, z, hi, rfl, rfl, hz, Zaa hb⟩
      · cases h
    · cases h
  · cases h
def Zi9 (P : Program) (o : Oper) (x : X) (args : Array Operand) (tys : Array TypeId) (K : KO) : Prop :=
  match args.toList, tys.toList with
  | [y, z], [t, tx] => match elT P t, elT P tx with
    | some e, some _ => match ZgO P e with
      | some (0, _) => False
      | some (wd + 1, bytes) => srcX x (wd + 1) (evA x.S z) fun Ks nr => match (evA x.S y).wk with
        | .c (.rs k g wd' lo len kn) => match Zar x.store k with
          | some (.sl tg wd2 rows) => match Nat.beq lo 0 && (Nat.beq tg g && (Nat.beq wd2 (wd + 1) && Nat.beq wd' (wd + 1))) with
            | true => cond (decide (len ≤ rows.length) && (decide ((len + nr.length) * bytes ≤ 140737488355328) && decide (len + nr.length ≤ 9223372036854775807)))
                (K (k :: Ks) ⟨.c (.rs k (x.gen k + 1) (wd + 1) 0 (len + nr.length) (len + nr.length)), [(k, some (.sl (x.gen k + 1) (wd + 1) (rows.take len ++ nr)), x.gen k + 1)]⟩ x) False
            | false => False
          | _ => False
        | .c (.d (.v (.slice none 0 0))) => cond (decide (nr.length * bytes ≤ 140737488355328) && decide (nr.length ≤ 9223372036854775807))
            (K (x.freeO o :: Ks) ⟨.c (.rs (x.freeO o) (x.gen (x.freeO o) + 2) (wd + 1) 0 nr.length nr.length), [((x.freeO o), some (.sl (x.gen (x.freeO o) + 2) (wd + 1) nr), x.gen (x.freeO o) + 2)]⟩ x) False
        | _ => False
      | none => False
    | _, _ => False
  | _, _ => False
theorem ZbD {t e : TypeId} (h : elT P t = some e) : P.underlying t = some (.slice e) := by
  unfold elT at h
  split at h
  · rename_i e' hu; cases h; exact hu
  · cases h
theorem PatchOK.many {k g : Nat} {Ks : List Nat} {y : A} {R : Option Root} (hk : k ∈ Ks) (h : ∀ st', Alike ops o Ks st st' → OpOK P w0 own o st' (st'.patch ⟨o.dst, y, [(k, R, g)]⟩)) : PatchOK P w0 own ops o Ks st ⟨o.dst, y, [(k, R, g)]⟩ :=
  ⟨rfl, by simpa [Zbo] using hk, h⟩
theorem Zhk {args : Array Operand} {tys : Array TypeId} (ho : o.op = .call { callee := .builtin .append, args := args, argTypes := tys }) : Za6 P o x (Zi9 P o x args tys) := fun K h hd => by
  unfold Zi9 at h
  split at h
  · rename_i y z t tx hy ht
    have e1 : args = #[y, z] := by apply Array.ext'; rw [hy]
    have e2 : tys = #[t, tx] := by apply Array.ext'; rw [ht]
    subst e1 e2
    split at h
    · rename_i e e' het hetx
      have het := ZbD het
      have hetx := ZbD hetx
      split at h
      · exact h.elim
      · rename_i wd bytes hst
        obtain ⟨i, zv, i1, i2, i3, i4, i5⟩ := Zcs hst
        obtain ⟨Ks, nr, h, hsrc⟩ := Zhd h
        have hopy : y ∈ o.op.operands.toList := by rw [ho]; simp [Op.operands, Call.operands]
        have hopz : z ∈ o.op.operands.toList := by rw [ho]; simp [Op.operands, Call.operands]
        split at h
        · rename_i k g wd' lo len kn hey
          split at h
          · rename_i tg wd2 rows hk
            split at h
            · rename_i hc
              simp only [Bool.and_eq_true] at hc
              obtain ⟨c0, c1, c2, c3⟩ := hc
              have c0 := Zaa c0
              have c1 := Zaa c1
              have c2 := Zaa c2
              have c3 := Zaa c3
              subst c0 c1 c2 c3
              obtain ⟨hcc, h⟩ := Zag h
              simp only [Bool.and_eq_true] at hcc
              obtain ⟨b1, b2, b3⟩ := hcc
              have b1 := of_decide_eq_true b1
              have b2 := of_decide_eq_true b2
              have b3 := of_decide_eq_true b3
              refine ⟨_, _, h, fun w0 own ops => .many (by simp) fun st' hal => ?_⟩
              have hroot := (hal.store k (by simp)).trans (ZcJ hk)
              have := Zop (P := P) (w0 := w0) (own := own) (st := st') (R := XRoot.root (.sl tg (wd + 1) rows)) (Zaf hal hd) ho (by rw [hal.ev hopy]; exact hey) hroot rfl rfl (by simpa [XRoot.root, emb] using b1) het hetx i1 i2 (Nat.succ_pos _) i4 i5
                (by rw [hal.ev hopz]; exact hsrc st' fun k' hk' => hal.store k' (by simp [hk'])) (by rw [i3]; exact b2) b3
              have erow : (XRoot.root (.sl tg (wd + 1) rows)).rows.take len ++ emb nr = emb (rows.take len ++ nr) := by
                rw [Znw]; simp [XRoot.root, emb, List.map_take]
              rw [Za8, hal.gen k (by simp), erow] at this
              exact this
            · exact h.elim
          · exact h.elim
        · rename_i hey
          obtain ⟨hcc, h⟩ := Zag h
          simp only [Bool.and_eq_true] at hcc
          obtain ⟨b2, b3⟩ := hcc
          have b2 := of_decide_eq_true b2
          have b3 := of_decide_eq_true b3
          refine ⟨_, _, h, fun w0 own ops => .many (by simp) fun st' hal => ?_⟩
          have := Zkq (P := P) (w0 := w0) (own := own) (st := st') ((x.freeO o)) (Zaf hal hd) ho (by rw [hal.ev hopy]; exact hey) het hetx i1 i2 (Nat.succ_pos _) i4 i5
            (by rw [hal.ev hopz]; exact hsrc st' fun k' hk' => hal.store k' (by simp [hk'])) (by rw [i3]; exact b2) b3
          rw [ZbC] at this
          rw [hal.gen ((x.freeO o)) (by simp)] at this
          have e4 : (st'.patch ⟨none, .dead, [((x.freeO o), some ⟨x.S.gen ((x.freeO o)) + 2, false, wd + 1, emb nr⟩, x.S.gen ((x.freeO o)) + 2)]⟩).patch ⟨o.dst, .c (.rs ((x.freeO o)) (x.S.gen ((x.freeO o)) + 2) (wd + 1) 0 nr.length nr.length), []⟩ = st'.patch ⟨o.dst, .c (.rs ((x.freeO o)) (x.S.gen ((x.freeO o)) + 2) (wd + 1) 0 nr.length nr.length), [((x.freeO o), some ⟨x.S.gen ((x.freeO o)) + 2, false, wd + 1, emb nr⟩, x.S.gen ((x.freeO o)) + 2)]⟩ := by
            simp only [St.patch, Za4]
            congr 1
          rw [e4] at this
          exact this
        · exact h.elim
      · exact h.elim
    · exact h.elim
  · exact h.elim
end

section
open Go
variable {P : Program} {w0 : World} {own : Nat → Prop} {γ : Gh} {st : St} {a : Act} {w : World} {o : Oper} {x : X} {ops : Array Oper}
theorem Zbw {t e : TypeId} {lo hi : Option Operand} {len cap z : Nat} {l h : Int} (A : Option Addr) (hR : Rel w0 own γ st a w) (ht : P.underlying t = some (.slice e)) (hz : szT P e = some z)
    (hl : bnd st lo 0 = some l) (hh : bnd st hi len = some h) (h0 : 0 ≤ l) (h1 : l ≤ h) (h2 : h ≤ (cap : Nat)) (hlc : len ≤ cap) :
    (Instr.slice t (.slice A len cap) (lo.map a.eval) (hi.map a.eval) none).run P w = .ok (Go.sliced A l.toNat h.toNat cap z) w := by
  have hel : P.underlying t = some (.slice (P.elem t)) := by
    have : P.elem t = e := by simp [Program.elem, ht]
    rw [this]; exact ht
  have hsz : (Go.sizeOf (P.elem t)).run P w = .ok z w := by
    have : P.elem t = e := by simp [Program.elem, ht]
    rw [this]; exact Zbg hz w
  cases lo with
  | none =>
    simp only [bnd, Option.some.injEq] at hl
    subst hl
    cases hi with
    | none =>
      simp only [bnd, Option.some.injEq] at hh
      subst hh
      simp only [Option.map_none]
      rw [run_slice_all w t A len cap hel, hsz]; simp
    | some yh =>
      obtain ⟨k, ek⟩ := Zcp hR hh
      simp only [Option.map_none, Option.map_some, ek]
      rw [run_slice_h w t A len cap hel k h (by omega) (by omega), hsz]; simp
  | some yl =>
    obtain ⟨k, ek⟩ := Zcp hR hl
    cases hi with
    | none =>
      simp only [bnd, Option.some.injEq] at hh
      subst hh
      simp only [Option.map_none, Option.map_some, ek]
      rw [run_slice_l w t A len cap hel k l h0 (by omega), hsz]; simp
    | some yh =>
      obtain ⟨k2, ek2⟩ := Zcp hR hh
      simp only [Option.map_some, ek, ek2]
      rw [run_slice_lh w t A len cap hel k k2 l h h0 h1 (by omega), hsz]; simp
theorem ZbU {t e : TypeId} {y : Operand} {lo hi mx : Option Operand} {v : Value} (ho : o.op = .slice t y lo hi mx) (ht : P.underlying t = some (.slice e))
    (h : (Instr.slice t (a.eval y) (lo.map a.eval) (hi.map a.eval) (mx.map a.eval)).run P w = .ok v w) : (execOp a.eval o).run P w = .ok (.value v) w := by
  have hel : P.underlying t = some (.slice (P.elem t)) := by
    have : P.elem t = e := by simp [Program.elem, ht]
    rw [this]; exact ht
  unfold execOp
  rw [ho]
  simp only [Sem.run_bind]
  rw [run_sliceAt_slice w t _ _ _ _ hel, h]
  rfl
theorem Zc0 (l h m s : Nat) (hm : m = l) (A : Option Addr) : Go.sliced A l h m s = .slice A (h - l) (m - l) := by
  simp [Go.sliced, hm]
theorem Zlu {t e : TypeId} {y : Operand} {lo hi : Option Operand} {k g wd lo0 len kn : Nat} {l h : Int} (hd : st.fits o.dst = true) (ho : o.op = .slice t y lo hi none) (hy : evA st y = .c (.rs k g wd lo0 len kn)) (ht : P.underlying t = some (.slice e)) (hz : szT P e = some wd)
    (hl : bnd st lo 0 = some l) (hh : bnd st hi len = some h) (h0 : 0 ≤ l) (h1 : l ≤ h) (h2 : h ≤ (kn : Nat)) (h3 : l = 0 ∨ l < (kn : Nat)) :
    OpOK P w0 own o st (st.put o.dst (.c (.rs k g wd (lo0 + l.toNat) (h.toNat - l.toNat) (kn - l.toNat)))) :=
  .value hd fun γ a w hR => by
    have hv := hR.ev y
    rw [hy] at hv
    rcases hv.rs_inv with ⟨cap, b, E, n, ev, hβ, hg, hsh, hcap, hlc, hkn⟩ | ⟨⟨A, ev⟩, e1, e2, e3, hβ, hg⟩
    · have hr := Zbw (P := P) (some ⟨b, lo0 * wd, none⟩) hR ht hz hl hh h0 h1 (cap := cap) (by omega) (by omega)
      rw [← ev] at hr
      refine ⟨γ, w, _, ZbU ho ht hr, γ.le_refl, hR, ?_⟩
      have ea : Go.sliced (some ⟨b, lo0 * wd, none⟩) l.toNat h.toNat cap wd = .slice (some ⟨b, (lo0 + l.toNat) * wd, none⟩) (h.toNat - l.toNat) (cap - l.toNat) := by
        unfold Go.sliced
        by_cases hc : cap = l.toNat
        · have hl0 : l.toNat = 0 := by omega
          rw [if_pos hc, hl0]; rfl
        · rw [if_neg hc]
          simp only [Option.map_some, addr_add]
          rw [Nat.add_mul]
      rw [ea]
      exact .c _ _ (.rs k g wd _ _ _ _ b E n hg hβ hsh (by
        have : lo0 + l.toNat + (cap - l.toNat) = lo0 + cap := by omega
        rw [this]; exact hcap) (by omega) (by omega))
    · subst e1 e2 e3
      have hl0 : l = 0 := by omega
      have hh0 : h = 0 := by omega
      subst hl0 hh0
      have hr := Zbw (P := P) A hR ht hz hl hh (by omega) (by omega) (cap := 0) (by omega) (by omega)
      rw [← ev] at hr
      refine ⟨γ, w, _, ZbU ho ht hr, γ.le_refl, hR, ?_⟩
      rw [Zc0 (Int.toNat 0) (Int.toNat 0) 0 wd rfl]
      exact .c _ _ (.rn A k g wd hg hβ)
theorem Zoj {t e : TypeId} {y : Operand} {lo hi : Option Operand} {k g wd lo0 len cap : Nat} {l h : Int} (hd : st.fits o.dst = true) (ho : o.op = .slice t y lo hi none) (hy : evA st y = .rx k g wd lo0 len cap) (ht : P.underlying t = some (.slice e)) (hz : szT P e = some wd)
    (hl : bnd st lo 0 = some l) (hh : bnd st hi len = some h) (h0 : 0 ≤ l) (h1 : l ≤ h) (h2 : h ≤ (cap : Nat)) (h3 : l = 0 ∨ l < (cap : Nat)) :
    OpOK P w0 own o st (st.put o.dst (.rx k g wd (lo0 + l.toNat) (h.toNat - l.toNat) (cap - l.toNat))) :=
  .value hd fun γ a w hR => by
    have hv := hR.ev y
    rw [hy] at hv
    generalize hev : a.eval y = v at hv
    cases hv with
    | rx _ _ _ _ _ _ b E n hg hβ hsh hcap hlc =>
      have hr := Zbw (P := P) (some ⟨b, lo0 * wd, none⟩) hR ht hz hl hh h0 h1 (cap := cap) h2 hlc
      rw [← hev] at hr
      refine ⟨γ, w, _, ZbU ho ht hr, γ.le_refl, hR, ?_⟩
      have ea : Go.sliced (some ⟨b, lo0 * wd, none⟩) l.toNat h.toNat cap wd = .slice (some ⟨b, (lo0 + l.toNat) * wd, none⟩) (h.toNat - l.toNat) (cap - l.toNat) := by
        unfold Go.sliced
        by_cases hc : cap = l.toNat
        · have hl0 : l.toNat = 0 := by omega
          rw [if_pos hc, hl0]; rfl
        · rw [if_neg hc]
          simp only [Option.map_some, addr_add]
          rw [Nat.add_mul]
      rw [ea]
      exact .rx k g wd _ _ _ b E n hg hβ hsh (by
        have : lo0 + l.toNat + (cap - l.toNat) = lo0 + cap := by omega
        rw [this]; exact hcap) (by omega)
theorem Zhj {t e : TypeId} {y : Operand} {lo hi : Option Operand} {k g wd lo0 len cap : Nat} {l : Int} (hd : st.fits o.dst = true) (ho : o.op = .slice t y lo hi none) (hy : evA st y = .rx k g wd lo0 len cap) (ht : P.underlying t = some (.slice e)) (hz : szT P e = some wd)
    (hl : bnd st lo 0 = some l) (hh : bnd st hi len = some l) (h0 : 0 ≤ l) (h2 : l ≤ (cap : Nat)) :
    OpOK P w0 own o st (st.put o.dst .dead) :=
  .value hd fun γ a w hR => by
    have hv := hR.ev y
    rw [hy] at hv
    generalize hev : a.eval y = v at hv
    cases hv with
    | rx _ _ _ _ _ _ b E n hg hβ hsh hcap hlc =>
      have hr := Zbw (P := P) (some ⟨b, lo0 * wd, none⟩) hR ht hz hl hh h0 (Int.le_refl _) (cap := cap) h2 hlc
      rw [← hev] at hr
      exact ⟨γ, w, _, ZbU ho ht hr, γ.le_refl, hR, .dead _⟩
theorem Zkb {t e : TypeId} {y : Operand} {lo hi : Option Operand} {k g wd lo0 len kn : Nat} {l : Int} (hd : st.fits o.dst = true) (ho : o.op = .slice t y lo hi none) (hy : evA st y = .c (.rs k g wd lo0 len kn)) (ht : P.underlying t = some (.slice e)) (hz : szT P e = some wd)
    (hl : bnd st lo 0 = some l) (hh : bnd st hi len = some l) (h0 : 0 ≤ l) (h2 : l ≤ (kn : Nat)) :
    OpOK P w0 own o st (st.put o.dst (.c (.d (.s 0 wd [] [])))) :=
  .value hd fun γ a w hR => by
    have hv := hR.ev y
    rw [hy] at hv
    have hval : ∃ A cap, a.eval y = .slice A len cap ∧ len ≤ cap ∧ kn ≤ cap := by
      rcases hv.rs_inv with ⟨cap, b, E, n, ev, hβ, hg, hsh, hcap, hlc, hkn⟩ | ⟨⟨A, ev⟩, e1, e2, e3, hβ, hg⟩
      · exact ⟨_, cap, ev, hlc, hkn⟩
      · subst e2 e3; exact ⟨A, 0, ev, Nat.le_refl _, Nat.le_refl _⟩
    obtain ⟨A, cap, ev, hlc, hkn⟩ := hval
    have hr := Zbw (P := P) A hR ht hz hl hh h0 (Int.le_refl _) (cap := cap) (by omega) hlc
    rw [← ev] at hr
    refine ⟨γ, w, _, ZbU ho ht hr, γ.le_refl, hR, ?_⟩
    unfold Go.sliced
    rw [Nat.sub_self]
    exact .c _ _ (.d _ _ (.e _ _ _ _))
theorem ZlE {t e : TypeId} {y : Operand} {lo hi : Option Operand} {wd : Nat} (hd : st.fits o.dst = true) (ho : o.op = .slice t y lo hi none) (hy : evA st y = .c (.d (.v (.slice none 0 0)))) (ht : P.underlying t = some (.slice e)) (hz : szT P e = some wd)
    (hl : bnd st lo 0 = some 0) (hh : bnd st hi 0 = some 0) : OpOK P w0 own o st (st.put o.dst (.c (.d (.v (.slice none 0 0))))) :=
  .value hd fun γ a w hR => by
    have hv := hR.ev y
    rw [hy] at hv
    have ev := (AR.sc_inv (show AR γ w (a.eval y) (sc (.slice none 0 0)) from hv)).1
    have hr := Zbw (P := P) none hR ht hz hl hh (Int.le_refl _) (Int.le_refl _) (cap := 0) (by omega) (Nat.le_refl _)
    rw [← ev] at hr
    refine ⟨γ, w, _, ZbU ho ht hr, γ.le_refl, hR, ?_⟩
    rw [Zc0 (Int.toNat 0) (Int.toNat 0) 0 wd rfl]
    exact AR.sc_mk rfl
def isSl (y : A) : Bool := match y with
  | .c (.d (.s _ _ _ _)) => true
  | .c (.rs _ _ _ _ _ _) => true
  | .c (.d (.v (.slice none 0 0))) => true
  | _ => false
theorem Zqc {v : Value} {y : A} (h : AR γ w v y) (hs : isSl y = true) : ∃ A len cap, v = .slice A len cap ∧ len ≤ cap := by
  unfold isSl at hs
  split at hs
  · obtain ⟨A, cap, e, hc⟩ := h.d_inv.slice_inv
    exact ⟨A, _, cap, e, by omega⟩
  · rcases h.rs_inv with ⟨cap, b, E, n, ev, hβ, hg, hsh, hcap, hlc, hkn⟩ | ⟨⟨A, ev⟩, e1, e2, e3, hβ, hg⟩
    · exact ⟨_, _, cap, ev, hlc⟩
    · subst e2; exact ⟨A, 0, 0, ev, Nat.le_refl _⟩
  · exact ⟨none, 0, 0, (AR.sc_inv (show AR γ w v (sc (.slice none 0 0)) from h)).1, Nat.le_refl _⟩
  · cases hs
theorem ZjQ {t e : TypeId} {y : Operand} {lo : Option Operand} {hi mx : Operand} {wd : Nat} (k : Nat) (hd : st.fits o.dst = true) (ho : o.op = .slice t y lo (some hi) (some mx)) (hy : isSl (evA st y) = true) (ht : P.underlying t = some (.slice e)) (hz : szT P e = some wd)
    (hl : bnd st lo 0 = some 0) (hh : bnd st (some hi) 0 = some 0) (hm : bnd st (some mx) 0 = some 0) : OpOK P w0 own o st ((st.root k false wd []).put o.dst (.c (.rs k (st.gen k + 1) wd 0 0 0))) :=
  .value (by cases h : o.dst <;> simp_all [St.fits, St.root]) fun γ a w hR => by
    obtain ⟨A, len, cap, ev, hlc⟩ := Zqc (hR.ev y) hy
    obtain ⟨γ', h1, h2, h3⟩ := hR.empty k wd
    have hel : P.underlying t = some (.slice (P.elem t)) := by
      have : P.elem t = e := by simp [Program.elem, ht]
      rw [this]; exact ht
    have hsz : (Go.sizeOf (P.elem t)).run P w = .ok wd w := by
      have : P.elem t = e := by simp [Program.elem, ht]
      rw [this]; exact Zbg hz w
    obtain ⟨kh, ekh⟩ := Zcp hR hh
    obtain ⟨km, ekm⟩ := Zcp hR hm
    refine ⟨γ', w, .slice A 0 0, ZbU ho ht ?_, h1, h2, .c _ _ (h3 A)⟩
    rw [ev]
    simp only [Option.map_some, ekh, ekm]
    cases lo with
    | none =>
      simp only [Option.map_none]
      rw [run_slice_hm w t A len cap hel kh km 0 0 (by omega) (by omega) (by omega), hsz]; simp [Zc0]
    | some yl =>
      obtain ⟨kl, ekl⟩ := Zcp hR hl
      simp only [Option.map_some, ekl]
      rw [run_slice_lhm w t A len cap hel kl kh km 0 0 0 (by omega) (by omega) (by omega) (by omega), hsz]; simp [Zc0]
def ZlZ (z : Option Int) : Bool := match z with | some (.ofNat 0) => true | _ => false
theorem ZcU {z : Option Int} (h : ZlZ z = true) : z = some 0 := by
  unfold ZlZ at h
  split at h
  · rfl
  · cases h
theorem Zmt {t e : TypeId} {y : Operand} {n k g wd j : Nat} {R : Root} {row : List C} (hd : st.fits o.dst = true) (ho : o.op = .slice t y none none none) (hy : evA st y = .c (.rp k g wd 0 j)) (ht : arT P t = some (n, e)) (hz : szT P e = some 1) (hk : st.store k = some R) (hg : R.tag = g) (hr : R.rows = [row]) (hw : R.wd = wd) (hj : j + n ≤ wd) :
    OpOK P w0 own o st (st.put o.dst (.c (.rs k g 1 j n n))) :=
  .value hd fun γ a w hR => by
    have hv := hR.ev y
    rw [hy] at hv
    obtain ⟨b, ev, hβ, hgg⟩ := hv.rp_inv
    subst hg hw
    have hm := hR.mem k R hk
    unfold RootOK at hm
    rw [hβ] at hm
    obtain ⟨arr, E, harr, hw2, hsz, _⟩ := hm
    rw [hr] at hsz
    simp only [List.length_singleton, Nat.one_mul] at hsz
    have hu : P.underlying t = some (.array n e) := by
      unfold arT at ht
      split at ht
      · rename_i n' e' hu; cases ht; exact hu
      · cases ht
    have hel : P.underlying t = some (.array (P.arrayLen t) (P.elem t)) := by
      have e1 : P.elem t = e := by simp [Program.elem, hu]
      have e2 : P.arrayLen t = n := by simp [Program.arrayLen, hu]
      rw [e1, e2]; exact hu
    have e1 : P.elem t = e := by simp [Program.elem, hu]
    have e2 : P.arrayLen t = n := by simp [Program.arrayLen, hu]
    refine ⟨γ, w, .slice (some ⟨b, j, none⟩) n n, ?_, γ.le_refl, hR, ?_⟩
    · unfold execOp
      rw [ho]
      simp only [Sem.run_bind, Option.map_none, ev]
      rw [run_sliceAt_array_all w t _ hel, e1, Zbg hz w]
      simp [slicedAt, e2, addr_add]
    · have := CR.rs (γ := γ) (w := w) k R.tag 1 j n n n b E arr.size hgg hβ (by simp [World.shape?, harr]) (by omega) (Nat.le_refl _) (Nat.le_refl _)
      rw [Nat.mul_one] at this
      exact .c _ _ this
def Ze4 (P : Program) (x : X) (t : TypeId) (y : Operand) (lo hi mx : Option Operand) (K : KO) : Prop :=
  match lo, hi, mx with
  | none, none, none => match arT P t with
    | some (n, e) => match szT P e with
      | some 1 => match evA x.S y with
        | .c (.rp k g wd i j) => match Zar x.store k with
          | some (.bx tag wd' row) => match Nat.beq tag g && (Nat.beq wd' wd && (Nat.beq i 0 && Nat.ble (j + n) wd)) with
            | true => K [k] ⟨.c (.rs k g 1 j n n), []⟩ x
            | false => False
          | _ => False
        | _ => False
      | _ => False
    | none => False
  | _, _, _ => False
theorem ZfS {t : TypeId} {y : Operand} {lo hi mx : Option Operand} (ho : o.op = .slice t y lo hi mx) : Za6 P o x (Ze4 P x t y lo hi mx) := fun K h hd => by
  unfold Ze4 at h
  split at h
  · split at h
    · rename_i n e ht
      split at h
      · rename_i hz
        split at h
        · rename_i k g wd i j hy
          split at h
          · rename_i tag wd' row hk
            split at h
            · rename_i hb
              simp only [Bool.and_eq_true] at hb
              obtain ⟨b1, b2, b3, b4⟩ := hb
              have b1 := Zaa b1; have b2 := Zaa b2; have b3 := Zaa b3
              have b4 := Nat.le_of_ble_eq_true b4
              subst b1 b2 b3
              exact ⟨_, _, h, fun w0 own ops => .reads fun st' hal => by
                have e1 := hal.ev (x := y) (by rw [ho]; simp [Op.operands])
                exact Zmt (Zaf hal hd) ho (e1.trans hy) ht hz ((hal.store k (by simp)).trans (Za5 hk)) rfl rfl rfl b4⟩
            · exact h.elim
          · exact h.elim
        · exact h.elim
      · exact h.elim
    · exact h.elim
  · exact h.elim
def Zla (P : Program) (o : Oper) (x : X) (t : TypeId) (y : Operand) (lo hi mx : Option Operand) (K : KO) : Prop :=
  match elT P t with
  | some e => match szT P e with
    | some wd => match mx with
      | some m => match hi with
        | some h => match isSl (evA x.S y) && (ZlZ (bnd x.S lo 0) && (ZlZ (bnd x.S (some h) 0) && ZlZ (bnd x.S (some m) 0))) with
          | true => K [x.freeO o] (ZrU x (x.freeO o) wd) x
          | false => False
        | none => False
      | none => match evA x.S y with
        | .c (.d (.s tg z rows sp)) => match bnd x.S lo 0, bnd x.S hi rows.length with
          | some l, some h => match Nat.beq z wd with
            | true => cond (decide (0 ≤ l) && (decide (l ≤ h) && decide (h ≤ ((rows.length + sp.length : Nat) : Int)))) (K [] ⟨.c (.d (.s tg z (cut (rows ++ sp) l.toNat (h.toNat - l.toNat)) [])), []⟩ x) False
            | false => False
          | _, _ => False
        | .c (.rs k g wd' lo0 len kn) => match bnd x.S lo 0, bnd x.S hi len with
          | some l, some h => match Nat.beq wd' wd with
            | true => cond (decide (0 ≤ l) && (decide (l ≤ h) && decide (h ≤ (kn : Int))))
                (cond (Nat.beq l.toNat 0 || decide (l.toNat + 1 ≤ kn)) (K [] ⟨.c (.rs k g wd (addN lo0 l.toNat) (h.toNat - l.toNat) (kn - l.toNat)), []⟩ x) (K [] ⟨.c (.d (.s 0 wd [] [])), []⟩ x)) False
            | false => False
          | _, _ => False
        | .rx k g wd' lo0 len cap => match bnd x.S lo 0, bnd x.S hi len with
          | some l, some h => match Nat.beq wd' wd with
            | true => cond (decide (0 ≤ l) && (decide (l ≤ h) && decide (h ≤ (cap : Int))))
                (cond (Nat.beq l.toNat 0 || decide (l.toNat + 1 ≤ cap)) (∀ p q r : Nat, addN lo0 l.toNat = p → h.toNat - l.toNat = q → cap - l.toNat = r → K [] ⟨.rx k g wd p q r, []⟩ x) (K [] ⟨.dead, []⟩ x)) False
            | false => False
          | _, _ => False
        | .c (.d (.v (.slice none 0 0))) => match ZlZ (bnd x.S lo 0) && ZlZ (bnd x.S hi 0) with
          | true => K [] ⟨.c (.d (.v (.slice none 0 0))), []⟩ x
          | false => False
        | _ => False
    | none => False
  | none => Ze4 P x t y lo hi mx K
theorem ZaY {Ks : List Nat} {st' : St} (hal : Alike ops o Ks st st') {y : Option Operand} {d : Nat} (hy : ∀ z, y = some z → z ∈ o.op.operands.toList) : bnd st' y d = bnd st y d := by
  cases y with
  | none => rfl
  | some z => simp only [bnd]; rw [hal.ev (hy z rfl)]
theorem Zis {t : TypeId} {y : Operand} {lo hi mx : Option Operand} (ho : o.op = .slice t y lo hi mx) : Za6 P o x (Zla P o x t y lo hi mx) := fun K h0 hd => by
  have opy : y ∈ o.op.operands.toList := by rw [ho]; simp [Op.operands]
  have opl : ∀ z, lo = some z → z ∈ o.op.operands.toList := fun z hz => by rw [ho, hz]; simp [Op.operands]
  have oph : ∀ z, hi = some z → z ∈ o.op.operands.toList := fun z hz => by rw [ho, hz]; simp [Op.operands]
  have opm : ∀ z, mx = some z → z ∈ o.op.operands.toList := fun z hz => by rw [ho, hz]; simp [Op.operands]
  unfold Zla at h0
  split at h0
  · rename_i e het
    have het := ZbD het
    split at h0
    · rename_i wd hwd
      split at h0
      · rename_i m
        split at h0
        · rename_i hh
          split at h0
          · rename_i hc
            simp only [Bool.and_eq_true] at hc
            obtain ⟨c1, c2, c3, c4⟩ := hc
            refine ⟨_, _, h0, fun w0 own ops => .one fun st' hal => ?_⟩
            have := ZjQ (P := P) (w0 := w0) (own := own) (st := st') (x.freeO o) (Zaf hal hd) ho (by rw [hal.ev opy]; exact c1) het hwd
              (by rw [ZaY hal opl]; exact ZcU c2) (by rw [ZaY hal oph]; exact ZcU c3) (by rw [ZaY hal opm]; exact ZcU c4)
            rw [Za8, hal.gen _ (by simp)] at this
            exact this
          · exact h0.elim
        · exact h0.elim
      · split at h0
        · rename_i tg z rows sp hy
          split at h0
          · rename_i l h hl hh
            split at h0
            · rename_i hb
              have hb := Zaa hb
              subst hb
              obtain ⟨hc, h0⟩ := Zag h0
              simp only [Bool.and_eq_true, decide_eq_true_eq] at hc
              exact ⟨_, _, h0, fun w0 own ops => .plain fun st' hal => Zo6 (Zaf hal hd) ho (by rw [hal.ev opy]; exact hy) het hwd (by rw [ZaY hal opl]; exact hl) (by rw [ZaY hal oph]; exact hh) hc.1 hc.2.1 hc.2.2⟩
            · exact h0.elim
          · exact h0.elim
        · rename_i k g wd' lo0 len kn hy
          split at h0
          · rename_i l h hl hh
            split at h0
            · rename_i hb
              have hb := Zaa hb
              subst hb
              obtain ⟨hc, h0⟩ := Zag h0
              simp only [Bool.and_eq_true, decide_eq_true_eq] at hc
              obtain ⟨c1, c2, c3⟩ := hc
              rw [Zey] at h0
              cases hq : (Nat.beq l.toNat 0 || decide (l.toNat + 1 ≤ kn)) with
              | true =>
                rw [hq] at h0
                have hq' : l = 0 ∨ l < (kn : Nat) := by
                  rcases Bool.or_eq_true_iff.1 hq with hq | hq
                  · have := Zaa hq; left; omega
                  · have := of_decide_eq_true hq; right; omega
                exact ⟨_, _, h0, fun w0 own ops => .plain fun st' hal => Zlu (Zaf hal hd) ho (by rw [hal.ev opy]; exact hy) het hwd (by rw [ZaY hal opl]; exact hl) (by rw [ZaY hal oph]; exact hh) c1 c2 c3 hq'⟩
              | false =>
                rw [hq] at h0
                have hlh : h = l := by
                  simp only [Bool.or_eq_false_iff] at hq
                  have h2 : ¬ (l.toNat + 1 ≤ kn) := fun hle => by
                    have := decide_eq_true hle
                    rw [this] at hq; exact Bool.noConfusion hq.2
                  omega
                subst hlh
                exact ⟨_, _, h0, fun w0 own ops => .plain fun st' hal => Zkb (Zaf hal hd) ho (by rw [hal.ev opy]; exact hy) het hwd (by rw [ZaY hal opl]; exact hl) (by rw [ZaY hal oph]; exact hh) c1 c3⟩
            · exact h0.elim
          · exact h0.elim
        · rename_i k g wd' lo0 len cap hy
          split at h0
          · rename_i l h hl hh
            split at h0
            · rename_i hb
              have hb := Zaa hb
              subst hb
              obtain ⟨hc, h0⟩ := Zag h0
              simp only [Bool.and_eq_true, decide_eq_true_eq] at hc
              obtain ⟨c1, c2, c3⟩ := hc
              cases hq : (Nat.beq l.toNat 0 || decide (l.toNat + 1 ≤ cap)) with
              | true =>
                rw [hq] at h0
                have h0 := h0 _ _ _ rfl rfl rfl
                rw [Zey] at h0
                have hq' : l = 0 ∨ l < (cap : Nat) := by
                  rcases Bool.or_eq_true_iff.1 hq with hq | hq
                  · have := Zaa hq; left; omega
                  · have := of_decide_eq_true hq; right; omega
                exact ⟨_, _, h0, fun w0 own ops => .plain fun st' hal => Zoj (Zaf hal hd) ho (by rw [hal.ev opy]; exact hy) het hwd (by rw [ZaY hal opl]; exact hl) (by rw [ZaY hal oph]; exact hh) c1 c2 c3 hq'⟩
              | false =>
                rw [hq] at h0
                have hlh : h = l := by
                  simp only [Bool.or_eq_false_iff] at hq
                  have h2 : ¬ (l.toNat + 1 ≤ cap) := fun hle => by
                    have := decide_eq_true hle
                    rw [this] at hq; exact Bool.noConfusion hq.2
                  omega
                subst hlh
                exact ⟨_, _, h0, fun w0 own ops => .plain fun st' hal => Zhj (Zaf hal hd) ho (by rw [hal.ev opy]; exact hy) het hwd (by rw [ZaY hal opl]; exact hl) (by rw [ZaY hal oph]; exact hh) c1 c3⟩
            · exact h0.elim
          · exact h0.elim
        · rename_i hy
          split at h0
          · rename_i hc
            simp only [Bool.and_eq_true] at hc
            exact ⟨_, _, h0, fun w0 own ops => .plain fun st' hal => ZlE (Zaf hal hd) ho (by rw [hal.ev opy]; exact hy) het hwd (by rw [ZaY hal opl]; exact ZcU hc.1) (by rw [ZaY hal oph]; exact ZcU hc.2)⟩
          · exact h0.elim
        · exact h0.elim
    · exact h0.elim
  · exact ZfS ho K h0 hd
end

section
open Go
variable {P : Program} {w0 : World} {own : Nat → Prop} {γ : Gh} {st : St} {a : Act} {w : World} {o : Oper} {x : X} {ops : Array Oper}
def Ztd (x : X) (c : C) (K : D → List Nat → Prop) : Prop :=
  match c with
  | .d (.v v) => K (.v v) []
  | .d d => match d.top0 with | true => K d [] | false => False
  | .rs k g wd lo len kn => match Zar x.store k with
    | some (.sl tag wd' rows) => match Nat.beq tag g && (Nat.beq wd' wd && Nat.beq lo 0) with
      | true => cond (decide (len ≤ rows.length) && rows.all fun r => r.all D.keeps) (K (.s 1 wd (rows.take len) ((rows.drop len).take (kn - len))) [k]) False
      | false => False
    | _ => False
  | _ => False
theorem ZqQ {c : C} {K : D → List Nat → Prop} (h : Ztd x c K) : ∃ d ks, OutC0 x.S c d ks ∧ K d ks := by
  unfold Ztd at h
  split at h
  · exact ⟨_, _, .v _, h⟩
  · split at h
    · exact ⟨_, _, .ro _ ‹_›, h⟩
    · exact h.elim
  · rename_i k g wd lo len kn
    split at h
    · rename_i tag wd' rows hk
      split at h
      · rename_i hb
        simp only [Bool.and_eq_true] at hb
        obtain ⟨e1, e2, e3⟩ := hb
        have e1 := Zaa e1; have e2 := Zaa e2; have e3 := Zaa e3
        subst e1 e2 e3
        obtain ⟨hc, h⟩ := Zag h
        simp only [Bool.and_eq_true, decide_eq_true_eq] at hc
        exact ⟨_, _, .rs k wd' len kn _ rows (Za5 hk) rfl rfl hc.1 hc.2, h⟩
      · exact h.elim
    · exact h.elim
  · exact h.elim
def ZsD (x : X) : List C → (List D → List Nat → Prop) → Prop
  | [], K => K [] []
  | c :: l, K => Ztd x c fun d ks => ZsD x l fun ds kss => K (d :: ds) (ks ++ kss)
theorem Zm8 : ∀ (l : List C) (K : List D → List Nat → Prop), ZsD x l K → ∃ ds ks, OutL0 x.S l ds ks ∧ K ds ks
  | [], K, h => ⟨_, _, .nil, h⟩
  | c :: l, K, h => by
    obtain ⟨d, ks, h1, h2⟩ := ZqQ h
    obtain ⟨ds, kss, h3, h4⟩ := Zm8 l _ h2
    exact ⟨_, _, .cons h1 h3, h4⟩
def outC (x : X) (c : C) (K : D → List Nat → Prop) : Prop :=
  match c with
  | .d (.v v) => K (.v v) []
  | .d d => match d.top0 with | true => K d [] | false => False
  | .rs k g wd lo len kn => match Zar x.store k with
    | some (.sl tag wd' rows) => match Nat.beq tag g && (Nat.beq wd' wd && Nat.beq lo 0) with
      | true => cond (decide (len ≤ rows.length) && rows.all fun r => r.all D.keeps) (K (.s 1 wd (rows.take len) ((rows.drop len).take (kn - len))) [k]) False
      | false => False
    | some (.bx tag _ row) => match Nat.beq tag g && (Nat.beq lo 0 && Nat.ble (len * wd) row.length) with
      | true => ZsD x (row.take (len * wd)) fun ds kss => chD wd len ds fun rows => K (.s 1 wd rows []) (k :: kss)
      | false => False
    | some (.fo tag wd' rows i row) => match Nat.beq tag g && (Nat.beq wd' wd && Nat.beq lo 0) with
      | true => match strip.stripRow row with
        | some ds => cond (decide (len ≤ (rows.set i ds).length) && (rows.set i ds).all fun r => r.all D.keeps) (K (.s 1 wd ((rows.set i ds).take len) (((rows.set i ds).drop len).take (kn - len))) [k]) False
        | none => False
      | false => False
    | _ => False
  | _ => False
theorem Ziy {c : C} {K : D → List Nat → Prop} (h : outC x c K) : ∃ d ks, OutC x.S c d ks ∧ K d ks := by
  unfold outC at h
  split at h
  · exact ⟨_, _, .v _, h⟩
  · split at h
    · exact ⟨_, _, .ro _ ‹_›, h⟩
    · exact h.elim
  · rename_i k g wd lo len kn
    split at h
    · rename_i tag wd' rows hk
      split at h
      · rename_i hb
        simp only [Bool.and_eq_true] at hb
        obtain ⟨e1, e2, e3⟩ := hb
        have e1 := Zaa e1; have e2 := Zaa e2; have e3 := Zaa e3
        subst e1 e2 e3
        obtain ⟨hc, h⟩ := Zag h
        simp only [Bool.and_eq_true, decide_eq_true_eq] at hc
        exact ⟨_, _, .rs k wd' len kn _ rows (Za5 hk) rfl rfl hc.1 hc.2, h⟩
      · exact h.elim
    · rename_i tag wb row hk
      split at h
      · rename_i hb
        simp only [Bool.and_eq_true] at hb
        obtain ⟨e1, e2, e3⟩ := hb
        have e1 := Zaa e1; have e2 := Zaa e2; have e3 := Nat.le_of_ble_eq_true e3
        subst e1 e2
        obtain ⟨ds, kss, h1, h2⟩ := Zm8 _ _ h
        exact ⟨_, _, .bx k wd len kn _ row ds kss (Za5 hk) rfl e3 h1, Zit _ _ _ _ h2⟩
      · exact h.elim
    · rename_i tag wd' rows i row hk
      split at h
      · rename_i hb
        simp only [Bool.and_eq_true] at hb
        obtain ⟨e1, e2, e3⟩ := hb
        have e1 := Zaa e1; have e2 := Zaa e2; have e3 := Zaa e3
        subst e1 e2 e3
        split at h
        · rename_i ds hds
          obtain ⟨hc, h⟩ := Zag h
          simp only [Bool.and_eq_true, decide_eq_true_eq] at hc
          exact ⟨_, _, .rs k wd' len kn _ (rows.set i ds) (Za5 hk) rfl (by simp only [XRoot.root, Zip, ← Za0 _ _ hds]) hc.1 hc.2, h⟩
        · exact h.elim
      · exact h.elim
    · exact h.elim
  · exact h.elim
def outL (x : X) : List C → (List D → List Nat → Prop) → Prop
  | [], K => K [] []
  | c :: l, K => outC x c fun d ks => outL x l fun ds kss => K (d :: ds) (ks ++ kss)
theorem ZoS : ∀ (l : List C) (K : List D → List Nat → Prop), outL x l K → ∃ ds ks, OutL x.S l ds ks ∧ K ds ks
  | [], K, h => ⟨_, _, .nil, h⟩
  | c :: l, K, h => by
    obtain ⟨d, ks, h1, h2⟩ := Ziy h
    obtain ⟨ds, kss, h3, h4⟩ := ZoS l _ h2
    exact ⟨_, _, .cons h1 h3, h4⟩
def outA (x : X) (y : A) (K : DV → List Nat → Prop) : Prop :=
  match y with
  | .c c => outC x c fun d ks => K (.c d) ks
  | .agg cs => outL x cs fun ds ks => K (.agg ds) ks
  | _ => False
theorem Zlr {y : A} {K : DV → List Nat → Prop} (h : outA x y K) : ∃ d ks, OutA x.S y d ks ∧ K d ks := by
  unfold outA at h
  split at h
  · obtain ⟨d, ks, h1, h2⟩ := Ziy h; exact ⟨_, _, .c h1, h2⟩
  · obtain ⟨d, ks, h1, h2⟩ := ZoS _ _ h; exact ⟨_, _, .agg h1, h2⟩
  · exact h.elim
def outT (x : X) : List A → (List DV → List Nat → Prop) → Prop
  | [], K => K [] []
  | c :: l, K => outA x c fun d ks => outT x l fun ds kss => K (d :: ds) (ks ++ kss)
theorem Zij : ∀ (l : List A) (K : List DV → List Nat → Prop), outT x l K → ∃ ds ks, OutT x.S l ds ks ∧ K ds ks
  | [], K, h => ⟨_, _, .nil, h⟩
  | c :: l, K, h => by
    obtain ⟨d, ks, h1, h2⟩ := Zlr h
    obtain ⟨ds, kss, h3, h4⟩ := Zij l _ h2
    exact ⟨_, _, .cons h1 h3, h4⟩
def ZfI : List Nat → Bool
  | [] => true
  | k :: l => !(l.any fun i => Nat.beq i k) && ZfI l
theorem Zbr : ∀ l, ZfI l = true → l.Nodup
  | [], _ => .nil
  | k :: l, h => by
    simp only [ZfI, Bool.and_eq_true, Bool.not_eq_true'] at h
    refine List.nodup_cons.2 ⟨fun hm => ?_, Zbr l h.2⟩
    have := List.any_eq_false.1 h.1 k hm
    exact this (Zbm k)
def Gh.clear (γ : Gh) (ks : List Nat) : Gh :=
  { γ with
    F := fun c => γ.F c ∨ ∃ k i j, k ∈ ks ∧ γ.FP k i j c
    FP := fun k i j c => k ∉ ks ∧ γ.FP k i j c }
theorem Gh.clear_G (γ : Gh) (ks : List Nat) (c : Nat) : (γ.clear ks).G c ↔ γ.G c := by
  constructor
  · rintro ((h | ⟨k, i, j, _, h⟩) | ⟨k, i, j, _, h⟩)
    · exact .inl h
    · exact .inr ⟨k, i, j, h⟩
    · exact .inr ⟨k, i, j, h⟩
  · rintro (h | ⟨k, i, j, h⟩)
    · exact .inl (.inl h)
    · by_cases hk : k ∈ ks
      · exact .inl (.inr ⟨k, i, j, hk, h⟩)
      · exact .inr ⟨k, i, j, hk, h⟩
theorem Gh.clear_le (γ : Gh) (ks : List Nat) : γ.le (γ.clear ks) :=
  { gen := fun _ => Nat.le_refl _, β := fun _ _ _ => rfl, F := fun c hc => .inl hc, G := fun c hc => (γ.clear_G ks c).2 hc, F0 := rfl }
def Zr2 (R : Root) : Prop := ∀ r ∈ R.rows, ∀ c ∈ r, ∃ v, c = .d (.v v)
def Zsw (R : Root) : Prop := ∀ r ∈ R.rows, ∀ c ∈ r, c.flat = true
theorem Rel.clear (h : Rel w0 own γ st a w) (ks : List Nat) (hp : ∀ k ∈ ks, ∀ R, st.store k = some R → Zsw R) : Rel w0 own (γ.clear ks) st a w := by
  have hle := γ.clear_le ks
  refine { env := h.env, size := h.size, defers := h.defers, tmps := fun i => (h.tmps i).mono hle (.refl _ _) (.refl _), ghost := fun i => (h.ghost i).mono hle (.refl _ _) (.refl _), gen := h.gen, tag := h.tag, mem := fun k R hk => ?_, inj := h.inj, rootF := fun k R b hk hβ => ?_, fpF := fun k i j b hf => ?_, fpD := fun k i j k' i' j' b hf hf' => h.fpD k i j k' i' j' b hf.2 hf'.2, fs := fun b hF => hF.elim (h.fs b) fun ⟨k, i, j, _, hf⟩ => .inr (h.fpF _ _ _ _ hf).2, lt := fun b hG => h.lt b ((γ.clear_G ks b).1 hG), ltβ := h.ltβ }
  · by_cases hks : k ∈ ks
    · have hm := h.mem k R hk
      unfold RootOK at hm ⊢
      show match γ.β k R.tag with | none => _ | some b => _
      split at hm
      · rename_i hn; rw [hn]; exact hm
      · rename_i b hn
        rw [hn]
        obtain ⟨arr, E, h1, h2, h3, h4⟩ := hm
        refine ⟨arr, E, h1, h2, h3, fun i j r c hr hc => ?_⟩
        have hf := hp k hks R hk r (List.mem_of_getElem? hr) c (List.mem_of_getElem? hc)
        have := h4 i j r _ hr hc
        have hcr : CR γ w (arr.getD (i * R.wd + j) undef) c := by
          unfold SR at this
          split at this
          · simp [C.flat] at hf
          · exact this
        exact SR.of_CR (CR.mono hle (.refl _ _) (.refl _) hcr) hf
    · exact (h.mem k R hk).mono hle (.refl _ _) (.refl _) (by rw [h.gen]; exact h.tag k R hk) (fun _ _ => rfl) (fun i j r c _ _ b => ⟨fun hf => ⟨hks, hf⟩, fun hf => hf.2⟩)
  · obtain ⟨p1, p2, p3⟩ := h.rootF k R b hk hβ
    exact ⟨fun hF => hF.elim p1 fun ⟨k', i, j, _, hf⟩ => p2 k' i j hf, fun k' i j hf => p2 k' i j hf.2, p3⟩
  · obtain ⟨hk, hf⟩ := hf
    obtain ⟨p1, p2⟩ := h.fpF k i j b hf
    exact ⟨fun hF => hF.elim p1 fun ⟨k', i', j', hk', hf'⟩ => hk ((h.fpD _ _ _ _ _ _ _ hf' hf).1 ▸ hk'), p2⟩
def St.dels (st : St) (ks : List Nat) : St := { st with store := fun i => if i ∈ ks then none else st.store i }
theorem ZcP (h : Rel w0 own γ st a w) {ks : List Nat} (hf : ∀ k ∈ ks, ∀ i j b, ¬ γ.FP k i j b) {b : Nat} (hb : γ.foot st ks b) : (∃ k R, k ∈ ks ∧ st.store k = some R ∧ γ.β k R.tag = some b) ∧ ¬ γ.G b ∧ (own b ∨ w0.heap.size ≤ b) ∧ b < w.heap.size := by
  obtain ⟨k, R, hk, hs, hβ | ⟨i, j, hfp⟩⟩ := hb
  · obtain ⟨p1, p2, p3⟩ := h.rootF k R b hs hβ
    exact ⟨⟨k, R, hk, hs, hβ⟩, fun hG => hG.elim p1 fun ⟨k', i, j, hf'⟩ => p2 k' i j hf', p3, h.ltβ k R.tag b (by rw [h.gen]; exact h.tag k R hs) hβ⟩
  · exact (hf k hk i j b hfp).elim
theorem Rel.give {w' : World} (h : Rel w0 own γ st a w) (ks : List Nat) (hf : ∀ k ∈ ks, ∀ i j b, ¬ γ.FP k i j b) (hb : ∀ b, b < w.heap.size → ¬ γ.foot st ks b → w'.heap[b]? = w.heap[b]?) (hz : Shapes w w') (hs : w.heap.size ≤ w'.heap.size) (ho : w'.os = w.os) (ht : w'.tape = w.tape) (hp : w'.output = w.output) :
    Rel w0 own γ (st.dels ks) a w' := by
  have hS : Same γ.G w w' := fun b hG => hb b (h.lt b hG) fun hfo => (ZcP h hf hfo).2.1 hG
  have hst : ∀ k R, (st.dels ks).store k = some R → k ∉ ks ∧ st.store k = some R := fun k R hk => by
    simp only [St.dels] at hk
    split at hk
    · cases hk
    · exact ⟨‹_›, hk⟩
  have hroot : ∀ k R b, (st.dels ks).store k = some R → γ.β k R.tag = some b → w'.heap[b]? = w.heap[b]? := fun k R b hk hβ => by
    obtain ⟨h1, h2⟩ := hst k R hk
    refine hb b (h.ltβ k R.tag b (by rw [h.gen]; exact h.tag k R h2) hβ) fun hfo => ?_
    obtain ⟨⟨k', R', m1, m2, m3⟩, _⟩ := ZcP h hf hfo
    exact h1 (h.inj k R k' R' b h2 m2 hβ m3 ▸ m1)
  exact {
    env := ⟨ho.trans h.env.os, ht.trans h.env.tape, hp.trans h.env.output, Nat.le_trans h.env.size hs, fun b hb' hn => (hb b (Nat.lt_of_lt_of_le hb' h.env.size) fun hfo => (ZcP h hf hfo).2.2.1.elim hn fun q => by omega).trans (h.env.block b hb' hn), fun b s e => hz b s (h.env.shapes b s e)⟩
    size := h.size, defers := h.defers
    tmps := fun i => (h.tmps i).mono γ.le_refl hS hz
    ghost := fun i => (h.ghost i).mono γ.le_refl hS hz
    gen := h.gen, tag := fun k R hk => h.tag k R (hst k R hk).2
    mem := fun k R hk => (h.mem k R (hst k R hk).2).mono γ.le_refl hS hz (by rw [h.gen]; exact h.tag k R (hst k R hk).2) (fun b hβ => hroot k R b hk hβ) (fun _ _ _ _ _ _ _ => Iff.rfl)
    inj := fun k R k' R' b h1 h2 => h.inj k R k' R' b (hst k R h1).2 (hst k' R' h2).2
    rootF := fun k R b h1 => h.rootF k R b (hst k R h1).2
    fpF := h.fpF, fpD := h.fpD, fs := h.fs
    lt := fun b hG => Nat.lt_of_lt_of_le (h.lt b hG) hs
    ltβ := fun k g b hg hβ => Nat.lt_of_lt_of_le (h.ltβ k g b hg hβ) hs }
theorem Znz {f : FuncId} {args : List Operand} {tys : Array TypeId} {ds : List DV} {res : DV} {ks : List Nat} (k : Nat) (hd : (matV (st.dels ks) k res).1.fits o.dst = true) (ho : o.op = .call { callee := .value (.func f), args := args.toArray, argTypes := tys })
    (hout : OutT st (args.map (evA st)) ds ks) (hn : ks.Nodup) (hpl : ∀ k ∈ ks, ∀ R, st.store k = some R → Zsw R) (hg : Goes P f) (hct : CT P f ds res) (hp : res.pureOwn = true ∨ (DV.tup ds).pureOwn = true ∨ CTN P f ds res) :
    OpOK P w0 own o st ((matV (st.dels ks) k res).1.put o.dst (matV (st.dels ks) k res).2) := by
  intro γ0 a w next Q hR0 hnx
  have hR := hR0.clear ks hpl
  have hle0 := γ0.clear_le ks
  generalize hγ : γ0.clear ks = γ at *
  have hFP : ∀ k ∈ ks, ∀ i j b, ¬ γ.FP k i j b := fun k hk i j b hf => by rw [← hγ] at hf; exact hf.1 hk
  obtain ⟨e1, sub, s1, s2, s3⟩ := ZeT hR _ ds ks (fun i => (args.map a.eval).getD i undef) hout hn (fun i c hc => by
    rw [List.getElem?_map] at hc
    obtain ⟨y, hy, rfl⟩ := Option.map_eq_some_iff.1 hc
    have : (args.map a.eval).getD i undef = a.eval y := by simp [List.getD_eq_getElem?_getD, hy]
    rw [this]
    exact hR.ev y)
  have hov : OV w γ.F (.tuple (args.map a.eval).toArray) (.tup ds) (γ.foot st ks) := .tup _ _ _ sub (by simpa using e1) (fun i d hd => by simpa [Array.getD_eq_getD_getElem?, List.getD] using s1 i d hd) s2 s3
  have hF : ∀ b, γ.F b → b < w.heap.size ∧ ¬ γ.foot st ks b := fun b hb => ⟨hR.lt b (.inl hb), fun hfo => (ZcP hR hFP hfo).2.1 (.inl hb)⟩
  have hov' : OV w (fun b => b < w.heap.size ∧ ¬ γ.foot st ks b) (.tuple (args.map a.eval).toArray) (.tup ds) (γ.foot st ks) := hov.mono hF (.refl _ _) (.refl _ _)
  have hcall := ZkF hct hp w _ (γ.foot st ks) _ hov' (fun b hb => hb) (fun b hb => (ZcP hR hFP hb).2.2.2)
  have hex : (execOp a.eval o).run P w = .ok (.enter f (args.map a.eval).toArray) w := by
    unfold execOp
    rw [ho]
    simp only [resolve, Act.eval, Deferred.ofValue, Sem.run_bind]
    simp [Sem.run, invoke, hg _ w]
  simp only [Oper.wp, hex, Oper.upon_enter]
  refine hcall.mono fun e w' ⟨v, S', he, hv, hS', henv⟩ => ?_
  subst he
  simp only
  have hR1 := hR.give ks hFP (w' := w') (fun b hb hns => henv.block b hb hns) henv.shapes henv.size henv.os henv.tape henv.output
  have hfree1 : ∀ b, (γ.foot st ks b ∨ w.heap.size ≤ b) → b < w'.heap.size → Free w0 own γ (st.dels ks) w' (fun c => c = b) := by
    rintro b hb hb' c rfl
    have hk' : ∀ k' R, (st.dels ks).store k' = some R → k' ∉ ks ∧ st.store k' = some R := fun k' R hk => by
      simp only [St.dels] at hk
      split at hk
      · cases hk
      · exact ⟨‹_›, hk⟩
    rcases hb with hb | hb
    · obtain ⟨⟨k1, R1, m1, m2, m3⟩, g1, g2, g3⟩ := ZcP hR hFP hb
      refine ⟨g1, fun k' R hk hβ => ?_, g2, hb'⟩
      obtain ⟨n1, n2⟩ := hk' k' R hk
      exact n1 (hR.inj k' R k1 R1 c n2 m2 hβ m3 ▸ m1)
    · refine ⟨fun hG => ?_, fun k' R hk hβ => ?_, .inr (Nat.le_trans hR.env.size hb), hb'⟩
      · have := hR.lt c hG; omega
      · have := hR.ltβ k' R.tag c (by rw [hR.gen]; exact hR.tag k' R (hk' k' R hk).2) hβ; omega
  have hfree : ∀ S : Nat → Prop, (∀ b, S b → (γ.foot st ks b ∨ w.heap.size ≤ b) ∧ b < w'.heap.size) → Free w0 own γ (st.dels ks) w' S := fun S h b hb => hfree1 b (h b hb).1 (h b hb).2 b rfl
  obtain ⟨hR2, hle2⟩ := hR1.still (N := fun b => (γ.foot st ks b ∨ w.heap.size ≤ b) ∧ b < w'.heap.size ∧ ¬ S' b) (hfree _ fun b hb => ⟨hb.1, hb.2.1⟩)
  have hv2 : OV w' (γ.still fun b => (γ.foot st ks b ∨ w.heap.size ≤ b) ∧ b < w'.heap.size ∧ ¬ S' b).F v res S' := hv.mono (fun b hb => .inr hb) (.refl _ _) (.refl _ _)
  have hfS : Free w0 own (γ.still fun b => (γ.foot st ks b ∨ w.heap.size ≤ b) ∧ b < w'.heap.size ∧ ¬ S' b) (st.dels ks) w' S' := by
    intro b hb
    obtain ⟨f1, f2, f3, f4⟩ := hfree S' hS' b hb
    refine ⟨fun hG => ?_, f2, f3, f4⟩
    rcases hG with (hF | hN) | hf
    · exact f1 (.inl hF)
    · exact hN.2.2 hb
    · exact f1 (.inr hf)
  obtain ⟨γ3, q1, q2, q3, _⟩ := Zg2 hR2 k hv2 hfS
  exact hnx γ3 _ w' (Gh.le_trans hle0 (Gh.le_trans hle2 q1)) (q2.put q3 hd)
def Zji (gen : Nat → Nat) (ks : List Nat) : Ups := ks.map fun k => (k, none, gen k)
theorem Zfy (gen : Nat → Nat) : ∀ (ks : List Nat) (i : Nat), Za4 (toU (Zji gen ks)) i = if i ∈ ks then some (none, gen i) else none
  | [], i => by simp [Zji, toU, Za4]
  | k :: ks, i => by
    have ih := Zfy gen ks i
    simp only [Zji, toU, List.map_cons, Za4] at ih ⊢
    by_cases h : i = k
    · subst h; simp
    · rw [if_neg h]
      simp only [List.map_map] at ih ⊢
      rw [ih]
      simp [h]
theorem Zq4 (st : St) (ks : List Nat) (u : Ups) : (st.dels ks).ups u = st.ups (u ++ Zji st.gen ks) := by
  simp only [St.ups, St.patch, St.dels, toU, List.map_append]
  congr 1
  · funext i
    rw [ZdN]
    have := Zfy st.gen ks i
    simp only [toU] at this
    split
    · rename_i r hr; rw [hr]; rfl
    · rename_i hr
      rw [hr, Option.none_or, this]
      by_cases h : i ∈ ks <;> simp [h]
  · funext i
    rw [ZdN]
    have := Zfy st.gen ks i
    simp only [toU] at this
    split
    · rename_i r hr; rw [hr]; rfl
    · rename_i hr
      rw [hr, Option.none_or, this]
      by_cases h : i ∈ ks <;> simp [h]
theorem Zlz {st st' : St} {y : C} {d : D} {ks : List Nat} (h : OutC0 st y d ks) (hk : ∀ k ∈ ks, st'.store k = st.store k) : OutC0 st' y d ks := by
  cases h with
  | v => exact .v _
  | ro _ h => exact .ro _ h
  | rs k wd len kn R rows h1 h2 h3 h4 h5 => exact .rs k wd len kn R rows ((hk k (by simp)).trans h1) h2 h3 h4 h5
theorem Zlf {st' : St} {ys : List C} {ds : List D} {ks : List Nat} (h : OutL0 st ys ds ks) : (∀ k ∈ ks, st'.store k = st.store k) → OutL0 st' ys ds ks := by
  induction h with
  | nil => exact fun _ => .nil
  | cons h1 _ ih => exact fun hk => .cons (Zlz h1 fun k hm => hk k (List.mem_append_left _ hm)) (ih fun k hm => hk k (List.mem_append_right _ hm))
theorem ZhV {st st' : St} {y : C} {d : D} {ks : List Nat} (h : OutC st y d ks) (hk : ∀ k ∈ ks, st'.store k = st.store k) : OutC st' y d ks := by
  cases h with
  | v => exact .v _
  | ro _ h => exact .ro _ h
  | rs k wd len kn R rows h1 h2 h3 h4 h5 => exact .rs k wd len kn R rows ((hk k (by simp)).trans h1) h2 h3 h4 h5
  | bx k wd len kn R row ds kss h1 h2 h3 h4 => exact .bx k wd len kn R row ds kss ((hk k (by simp)).trans h1) h2 h3 (Zlf h4 fun k' hk' => hk k' (List.mem_cons_of_mem _ hk'))
theorem ZnA {st' : St} {ys : List C} {ds : List D} {ks : List Nat} (h : OutL st ys ds ks) : (∀ k ∈ ks, st'.store k = st.store k) → OutL st' ys ds ks := by
  induction h with
  | nil => exact fun _ => .nil
  | cons h1 _ ih => exact fun hk => .cons (ZhV h1 fun k hm => hk k (List.mem_append_left _ hm)) (ih fun k hm => hk k (List.mem_append_right _ hm))
theorem Zod {st' : St} {y : A} {d : DV} {ks : List Nat} (h : OutA st y d ks) (hk : ∀ k ∈ ks, st'.store k = st.store k) : OutA st' y d ks := by
  cases h with
  | c h => exact .c (ZhV h hk)
  | agg h => exact .agg (ZnA h hk)
theorem Znu {st' : St} {ys : List A} {ds : List DV} {ks : List Nat} (h : OutT st ys ds ks) : (∀ k ∈ ks, st'.store k = st.store k) → OutT st' ys ds ks := by
  induction h with
  | nil => exact fun _ => .nil
  | cons h1 _ ih => exact fun hk => .cons (Zod h1 fun k hm => hk k (List.mem_append_left _ hm)) (ih fun k hm => hk k (List.mem_append_right _ hm))
def allPlain (x : X) : List Nat → Prop → Prop
  | [], K => K
  | k :: ks, K => match Zar x.store k with
    | some (.sl _ _ rows) => cond (allV rows) (allPlain x ks K) False
    | some (.bx _ _ row) => match row.all C.flat with
      | true => allPlain x ks K
      | false => False
    | _ => False
theorem Zdm {K : Prop} : ∀ {ks : List Nat}, allPlain x ks K → K ∧ ∀ k ∈ ks, ∀ R, x.S.store k = some R → Zsw R
  | [], h => ⟨h, by simp⟩
  | k :: ks, h => by
    unfold allPlain at h
    split at h
    · rename_i tg wd rows hk
      obtain ⟨h1, h2⟩ := Zag h
      obtain ⟨i1, i2⟩ := Zdm h2
      refine ⟨i1, fun k' hm R hR => ?_⟩
      rcases List.mem_cons.1 hm with rfl | hm
      · rw [ZcJ hk] at hR
        cases hR
        intro r hr c hc
        obtain ⟨r0, h0, rfl⟩ := List.mem_map.1 hr
        obtain ⟨d, hd, rfl⟩ := List.mem_map.1 hc
        have := List.all_eq_true.1 (List.all_eq_true.1 h1 r0 h0) d hd
        cases d <;> simp [D.isV] at this
        rfl
      · exact i2 k' hm R hR
    · rename_i tg wd row hk
      split at h
      · rename_i hall
        obtain ⟨i1, i2⟩ := Zdm h
        refine ⟨i1, fun k' hm R hR => ?_⟩
        rcases List.mem_cons.1 hm with rfl | hm
        · rw [ZcJ hk] at hR
          cases hR
          intro r hr c hc
          rw [XRoot.root, List.mem_singleton] at hr
          subst hr
          exact List.all_eq_true.1 hall c hc
        · exact i2 k' hm R hR
      · exact h.elim
    · exact h.elim
def ZgP (H : Hooks) (o : Oper) (x : X) (f : FuncId) (args : Array Operand) (K : KO) : Prop :=
  outT x (args.toList.map (evA x.S)) fun ds ks => match ZfI ks with
    | true => allPlain x ks (H.call f ds fun res =>
        K (ks ++ (upV x.gen (x.freeC o) res).1.map (·.1)) ⟨(upV x.gen (x.freeC o) res).2, (upV x.gen (x.freeC o) res).1 ++ Zji x.gen ks⟩ x)
    | false => False
theorem ZgB {H : Hooks} (hH : Zam P H) {f : FuncId} {args : Array Operand} {tys : Array TypeId} (ho : o.op = .call { callee := .value (.func f), args := args, argTypes := tys }) : Za6 P o x (ZgP H o x f args) := fun K h hd => by
  have hops : o.op.operands.toList = .func f :: args.toList := by rw [ho]; simp [Op.operands, Call.operands]
  unfold ZgP at h
  obtain ⟨ds, ks, h1, h2⟩ := Zij _ _ h
  split at h2
  · rename_i hn
    have hn := Zbr _ hn
    obtain ⟨h3, hpl⟩ := Zdm h2
    obtain ⟨hg, r, hct, hp, hfit, hK⟩ := hH.2.2.2.1 _ _ _ h3
    refine ⟨_, _, hK, fun w0 own ops => ⟨rfl, fun i hi => ?_, fun st' hal => ?_⟩⟩
    · rw [XP.patch, Zcu, List.map_append] at hi
      rcases List.mem_append.1 hi with hi | hi
      · exact List.mem_append_right _ hi
      · refine List.mem_append_left _ ?_
        simpa [Zji] using hi
    · have hst : ∀ k ∈ ks, st'.store k = x.S.store k := fun k hk => hal.store k (List.mem_append_left _ hk)
      have hgen : ∀ k ∈ ks, st'.gen k = x.S.gen k := fun k hk => hal.gen k (List.mem_append_left _ hk)
      have e0 : args.toList.map (evA st') = args.toList.map (evA x.S) := List.map_congr_left fun y hy => hal.ev (by rw [hops]; exact List.mem_cons_of_mem _ hy)
      have e2 : upV st'.gen (x.freeC o) r = upV x.gen (x.freeC o) r := Zgt fun i hi => hal.gen i (List.mem_append_right _ hi)
      have e4 : Zji st'.gen ks = Zji x.gen ks := List.map_congr_left fun k hk => by rw [hgen k hk]; rfl
      have e3 := Zl9 (st'.dels ks) (x.freeC o) r hfit
      have e5 : (st'.dels ks).gen = st'.gen := rfl
      have := Znz (P := P) (w0 := w0) (own := own) (st := st') (o := o) (res := r) (ks := ks) (args := args.toList) (tys := tys) (ds := ds) (x.freeC o) (by
        rw [e3]
        have := Zaf hal hd
        cases h : o.dst <;> simp_all [St.fits, St.ups, St.patch, St.dels]) (by simpa using ho) (by rw [e0]; exact Znu h1 hst) hn (fun k hk R hR => hpl k hk R ((hst k hk).symm.trans hR)) hg hct hp
      rw [e3, e5, e2, Zq4, e4, Zll] at this
      exact this
  · exact h2.elim
end

section
open Go
variable {P : Program} {w0 : World} {own : Nat → Prop} {γ : Gh} {st : St} {a : Act} {w : World} {o : Oper} {x : X} {ops : Array Oper}
def ZeY (zs : List Value) (n : Nat) : List (List D) := List.replicate n (zs.map D.v)
theorem Zs1 {t e : TypeId} {yl yc : Operand} {i : TypeInfo} {z : Value} {n : Int} {sz : Nat} {zs : List Value} (k : Nat) (hd : st.fits o.dst = true) (ho : o.op = .makeSlice t yl yc) (ht : P.underlying t = some (.slice e)) (hi : P.info? e = some i) (hsz : i.size = sz) (hz : i.zero = some z) (hzs : z.cells.toList = zs) (hzl : zs.length = sz) (h0 : 0 < sz)
    (hp : zs.all plain = true) (hl : bnd st (some yl) 0 = some n) (hc : bnd st (some yc) 0 = some n) (hn : 0 ≤ n) (hb : (i.bytes : Int) * n ≤ 281474976710656) (h63 : n ≤ 9223372036854775807) :
    OpOK P w0 own o st ((st.root k false sz (emb (ZeY zs n.toNat))).put o.dst (.c (.rs k (st.gen k + 1) sz 0 n.toNat n.toNat))) :=
  .value (by cases h : o.dst <;> simp_all [St.fits, St.root]) fun γ a w hR => by
    obtain ⟨kl, el⟩ := Zcp hR hl
    obtain ⟨kc, ec⟩ := Zcp hR hc
    have hr := run_make (P := P) w t e i z ht hi hz kl kc n n hn (Int.le_refl _) hb h63
    have hzc : z.cells.size = sz := by rw [← Array.length_toList, hzs, hzl]
    have has : (madeCells z.cells (n.toNat * i.size)).size = n.toNat * sz := by rw [size_madeCells, hsz]
    have hrl : ∀ (q : Nat) r, (emb (ZeY zs n.toNat))[q]? = some r → q < n.toNat ∧ r = (zs.map D.v).map C.d := fun q r hq => by
      simp only [emb, ZeY, List.getElem?_map, List.getElem?_replicate] at hq
      split at hq
      · simp only [Option.map_some, Option.some.injEq] at hq
        exact ⟨‹_›, hq.symm⟩
      · cases hq
    refine ⟨_, _, _, by unfold execOp; rw [ho]; simp only [el, ec, Sem.run_bind, hr]; rfl, γ.fresh_le k (some w.heap.size), hR.alloc k false sz _ _ e (fun r hr => ?_) ?_ (fun i' j r c hr' hc' => ?_), ?_⟩
    · obtain ⟨q, hq⟩ := List.getElem?_of_mem hr
      rw [(hrl q r hq).2]; simp [hzl]
    · rw [has]; simp [emb, ZeY]
    · obtain ⟨q1, q2⟩ := hrl i' r hr'
      subst q2
      simp only [List.map_map, List.getElem?_map] at hc'
      obtain ⟨v, hv, rfl⟩ := Option.map_eq_some_iff.1 hc'
      have hj : j < sz := by have := (List.getElem?_eq_some_iff.1 hv).1; omega
      have hlt : i' * sz + j < n.toNat * sz := Zbc q1 hj
      have hm : (i' * sz + j) % sz = j := by rw [Nat.mul_comm, Nat.mul_add_mod]; exact Nat.mod_eq_of_lt hj
      have eg : (madeCells z.cells (n.toNat * i.size)).getD (i' * sz + j) undef = v := by
        rw [Array.getD_eq_getD_getElem?]
        simp only [madeCells, Array.getElem?_map, Array.getElem?_range, hsz, hlt, if_true, Option.map_some, Option.getD_some, hzc, hm]
        have hj' : j < z.cells.size := by omega
        rw [getElem!_pos z.cells _ hj']
        have : zs[j]? = some z.cells[j] := by rw [← hzs]; simp [hj']
        rw [hv] at this; cases this; rfl
      rw [eg]
      exact ⟨.d _ _ (.v _ (List.all_eq_true.1 hp v (List.mem_of_getElem? hv))), rfl⟩
    · have hg : γ.gen k = st.gen k := congrFun hR.gen k
      have := CR.rs (γ := γ.fresh k (some w.heap.size)) (w := w.alloc (.cells (madeCells z.cells (n.toNat * i.size)) e)) k (st.gen k + 1) sz 0 n.toNat n.toNat n.toNat w.heap.size e (n.toNat * sz) (by rw [Gh.fresh_gen, hg]; exact Nat.le_refl _) (by rw [← hg, Gh.fresh_new]) (by simp only [World.shape?, heap_alloc_new, has]) (by simp) (Nat.le_refl _) (Nat.le_refl _)
      simp at this
      exact .c _ _ this
def Zte (a b : Option Int) (K : Int → Prop) : Prop := match a, b with
  | some n, some m => cond (decide (n = m)) (K n) False
  | _, _ => False
theorem ZnN {a b : Option Int} {K : Int → Prop} (h : Zte a b K) : ∃ n, a = some n ∧ b = some n ∧ K n := by
  unfold Zte at h
  split at h
  · rename_i n m
    obtain ⟨h1, h2⟩ := Zag h
    have := of_decide_eq_true h1
    subst this
    exact ⟨_, rfl, rfl, h2⟩
  · exact h.elim
def ZoR (P : Program) (o : Oper) (x : X) (t : TypeId) (yl yc : Operand) (K : KO) : Prop :=
  match elT P t with
  | some e => match P.info? e with
    | some i => match i.zero with
      | some z => match Nat.beq z.cells.toList.length i.size && (Nat.ble 1 i.size && z.cells.toList.all plain) with
        | true => Zte (bnd x.S (some yl) 0) (bnd x.S (some yc) 0) fun n => cond (decide (0 ≤ n) && (decide ((i.bytes : Int) * n ≤ 281474976710656) && decide (n ≤ 9223372036854775807)))
            (K [x.freeO o] ⟨.c (.rs (x.freeO o) (x.gen (x.freeO o) + 1) i.size 0 n.toNat n.toNat), [(x.freeO o, some (.sl (x.gen (x.freeO o) + 1) i.size (ZeY z.cells.toList n.toNat)), x.gen (x.freeO o) + 1)]⟩ x) False
        | false => False
      | none => False
    | none => False
  | none => False
theorem Zjo {t : TypeId} {yl yc : Operand} (ho : o.op = .makeSlice t yl yc) : Za6 P o x (ZoR P o x t yl yc) := fun K h hd => by
  unfold ZoR at h
  split at h
  · rename_i e het
    have het := ZbD het
    split at h
    · rename_i i hi
      split at h
      · rename_i z hz
        split at h
        · rename_i hc
          simp only [Bool.and_eq_true] at hc
          obtain ⟨c1, c2, c3⟩ := hc
          obtain ⟨n, hl, hcp, h⟩ := ZnN h
          obtain ⟨hb, h⟩ := Zag h
          simp only [Bool.and_eq_true, decide_eq_true_eq] at hb
          refine ⟨_, _, h, fun w0 own ops => .one fun st' hal => ?_⟩
          have opl : ∀ z, some yl = some z → z ∈ o.op.operands.toList := fun z hz => by rw [ho]; simp [Op.operands]; cases hz; simp
          have opc : ∀ z, some yc = some z → z ∈ o.op.operands.toList := fun z hz => by rw [ho]; simp [Op.operands]; cases hz; simp
          have := Zs1 (P := P) (w0 := w0) (own := own) (st := st') (x.freeO o) (Zaf hal hd) ho het hi rfl hz rfl (Zaa c1) (Nat.le_of_ble_eq_true c2) c3
            (by rw [ZaY hal opl]; exact hl) (by rw [ZaY hal opc]; exact hcp) hb.1 hb.2.1 hb.2.2
          rw [Za8, hal.gen _ (by simp)] at this
          exact this
        · exact h.elim
      · exact h.elim
    · exact h.elim
  · exact h.elim
theorem ZmH {t e u : TypeId} {y z : Operand} {q : Bool} (hd : st.fits o.dst = true) (ho : o.op = .binOp .eql t y z u) (ht : P.underlying t = some (.slice e)) (hz : evA st z = .c (.d (.v (.slice none 0 0))))
    (hy : (∃ tg wd rows sp, evA st y = .c (.d (.s tg wd rows sp)) ∧ q = Nat.beq rows.length 0) ∨ (∃ k g wd lo len kn, evA st y = .c (.rs k g wd lo len kn) ∧ q = Nat.beq len 0)) : OpOK P w0 own o st (st.put o.dst (.bb q)) :=
  .value hd fun γ a w hR => by
    have hzv := hR.ev z
    rw [hz] at hzv
    have ez := (AR.sc_inv (show AR γ w (a.eval z) (sc (.slice none 0 0)) from hzv)).1
    have hv := hR.ev y
    have key : ∃ A len cap, a.eval y = .slice A len cap ∧ (A.isNone = true → q = true) := by
      rcases hy with ⟨tg, wd, rows, sp, h1, rfl⟩ | ⟨k, g, wd, lo, len, kn, h1, rfl⟩
      · rw [h1] at hv
        have hd := hv.d_inv
        generalize a.eval y = v at hd
        cases hd with
        | e A _ _ cap => exact ⟨A, 0, cap, rfl, fun _ => rfl⟩
        | s _ _ _ b off cap _ vs _ _ _ _ _ => exact ⟨_, _, cap, rfl, fun h => by cases h⟩
      · rw [h1] at hv
        rcases hv.rs_inv with ⟨cap, b, E, n, ev, _⟩ | ⟨⟨A, ev⟩, e1, e2, e3, _, _⟩
        · exact ⟨_, _, cap, ev, fun h => by cases h⟩
        · subst e2; exact ⟨A, 0, 0, ev, fun _ => rfl⟩
    obtain ⟨A, len, cap, ev, hq⟩ := key
    refine ⟨γ, w, .bool A.isNone, ?_, γ.le_refl, hR, .bb _ _ hq⟩
    unfold execOp
    rw [ho]
    simp only [ev, ez]
    have e2 : eqGuard .eql t y z (.slice A len cap) (.slice none 0 0) = .pure () := rfl
    have e3 : binOp .eql t (.slice A len cap) (.slice none 0 0) = (do pure (.bool (← Op.equal t (.slice A len cap) (.slice none 0 0)))) := rfl
    rw [e2, e3]
    simp [Sem.run_bind, Sem.run, run_equal_slice_nil w t e A len cap ht]
def Zl6 (P : Program) (x : X) (t : TypeId) (y z : Operand) (K : KO) : Prop :=
  match elT P t, evA x.S z with
  | some _, .c (.d (.v (.slice none 0 0))) => match evA x.S y with
    | .c (.d (.s _ _ rows _)) => K [] ⟨.bb (Nat.beq rows.length 0), []⟩ x
    | .c (.rs _ _ _ _ len _) => K [] ⟨.bb (Nat.beq len 0), []⟩ x
    | _ => Zot P x .eql t y z K
  | _, _ => Zot P x .eql t y z K
theorem ZiV {t u : TypeId} {y z : Operand} (ho : o.op = .binOp .eql t y z u) : Za6 P o x (Zl6 P x t y z) := fun K h hd => by
  have opy : y ∈ o.op.operands.toList := by rw [ho]; simp [Op.operands]
  have opz : z ∈ o.op.operands.toList := by rw [ho]; simp [Op.operands]
  unfold Zl6 at h
  split at h
  · rename_i e het hz
    have het := ZbD het
    split at h
    · rename_i tg wd rows sp hy
      exact ⟨_, _, h, fun w0 own ops => .plain fun st' hal => ZmH (Zaf hal hd) ho het (by rw [hal.ev opz]; exact hz) (.inl ⟨_, _, _, _, by rw [hal.ev opy]; exact hy, rfl⟩)⟩
    · rename_i k g wd lo len kn hy
      exact ⟨_, _, h, fun w0 own ops => .plain fun st' hal => ZmH (Zaf hal hd) ho het (by rw [hal.ev opz]; exact hz) (.inr ⟨_, _, _, _, _, _, by rw [hal.ev opy]; exact hy, rfl⟩)⟩
    · exact Zex ho K h hd
  · exact Zex ho K h hd
end

section
open Go
variable {P : Program} {w0 : World} {own : Nat → Prop} {γ : Gh} {st : St} {a : Act} {w : World} {o : Oper} {x : X} {ops : Array Oper}
theorem ZuB {y : Operand} {t e : TypeId} {k g wd lo len cap : Nat} (hd : st.fits o.dst = true) (ho : o.op = .call { callee := .builtin .cap, args := #[y], argTypes := #[t] }) (hy : evA st y = .rx k g wd lo len cap) (ht : P.underlying t = some (.slice e)) :
    OpOK P w0 own o st (st.put o.dst (sc (.int .i64 cap))) :=
  ZdQ hd rfl fun γ a w hR => by
    have hv := hR.ev y
    rw [hy] at hv
    generalize hev : a.eval y = v at hv
    cases hv with
    | rx _ _ _ _ _ _ b E n hg hβ hsh hcap hlc =>
      unfold execOp
      rw [ho]
      simp only [resolve, Sem.run_bind]
      have e3 : (#[y] : Array Operand).map a.eval = #[.slice (some ⟨b, lo * wd, none⟩) len cap] := by simp [hev]
      rw [e3]
      simp [Sem.run, invoke, builtin, Builtin.cap_, Sem.run_bind, Zbh ht, goInt]
def Zsh (P : Program) (x : X) (args : Array Operand) (tys : Array TypeId) (K : KO) : Prop :=
  match args.toList, tys.toList with
  | [y], [t] => match evA x.S y, elT P t with
    | .rx k g wd lo len cap, some e => K [] ⟨sc (.int .i64 cap), []⟩ x
    | _, _ => False
  | _, _ => False
theorem Zmp {args : Array Operand} {tys : Array TypeId} (ho : o.op = .call { callee := .builtin .cap, args := args, argTypes := tys }) : Za6 P o x (Zsh P x args tys) := fun K h hd => by
  unfold Zsh at h
  split at h
  · rename_i y t hy ht
    have e1 : args = #[y] := by apply Array.ext'; rw [hy]
    have e2 : tys = #[t] := by apply Array.ext'; rw [ht]
    subst e1 e2
    split at h
    · rename_i k g wd lo len cap e hev he
      exact ⟨_, _, h, fun w0 own ops => .plain fun st' hal => ZuB (Zaf hal hd) ho (by rw [hal.ev (x := y) (by rw [ho]; simp [Op.operands, Call.operands])]; exact hev) (ZbD he)⟩
    · exact h.elim
  · exact h.elim
theorem Rel.rewrite (h : Rel w0 own γ st a w) {k : Nat} {R : Root} {b : Nat} {arr arr' : Array Value} {E : TypeId} {rows : List (List C)} (hst : st.store k = some R) (hβ : γ.β k R.tag = some b)
    (harr : w.heap[b]? = some (.cells arr E (0, 0))) (hs : arr'.size = arr.size) (hw : ∀ r ∈ rows, r.length = R.wd) (hl : rows.length * R.wd ≤ arr.size)
    (hc : ∀ i j r c, rows[i]? = some r → r[j]? = some c → CR γ w (arr'.getD (i * R.wd + j) undef) c ∧ c.flat = true) :
    Rel w0 own γ (st.set k { R with rows := rows }) a (w.setRow b arr') := by
  obtain ⟨qF, qP, qo⟩ := h.rootF k R b hst hβ
  have hG : ¬ γ.G b := fun hG => hG.elim qF fun ⟨k', i, j, hf⟩ => qP k' i j hf
  have hS : Same γ.G w (w.setRow b arr') := .setRow hG
  have hz : Shapes w (w.setRow b arr') := .setRow harr hs
  have hsto : ∀ k' R', (st.set k { R with rows := rows }).store k' = some R' → (k' = k ∧ R' = { R with rows := rows }) ∨ (k' ≠ k ∧ st.store k' = some R') := fun k' R' hs' => by
    simp only [St.set] at hs'
    split at hs'
    · cases hs'; exact .inl ⟨‹_›, rfl⟩
    · exact .inr ⟨‹_›, hs'⟩
  have hold : ∀ k' R', (st.set k { R with rows := rows }).store k' = some R' → ∃ R0, st.store k' = some R0 ∧ R0.tag = R'.tag := fun k' R' hs' => by
    rcases hsto k' R' hs' with ⟨rfl, rfl⟩ | ⟨_, h2⟩
    · exact ⟨R, hst, rfl⟩
    · exact ⟨R', h2, rfl⟩
  refine { env := ?_, size := h.size, defers := h.defers, tmps := fun i => (h.tmps i).mono γ.le_refl hS hz, ghost := fun i => (h.ghost i).mono γ.le_refl hS hz, gen := h.gen, tag := ?_, mem := ?_, inj := ?_, rootF := ?_, fpF := h.fpF, fpD := h.fpD, fs := h.fs, lt := fun c hc => by simpa using h.lt c hc, ltβ := fun k' g c hg hb => by simpa using h.ltβ k' g c hg hb }
  · exact ⟨h.env.os, h.env.tape, h.env.output, by simpa using h.env.size, fun c hc hn => by
      have hcb : c ≠ b := fun e => by subst e; rcases qo with q | q; exact hn q; omega
      rw [setRow_other _ _ _ _ hcb]; exact h.env.block c hc hn, fun b s e => hz b s (h.env.shapes b s e)⟩
  · intro k' R' hs'
    obtain ⟨R0, h1, h2⟩ := hold k' R' hs'
    rw [← h2]; exact h.tag k' R0 h1
  · intro k' R' hs'
    rcases hsto k' R' hs' with ⟨rfl, rfl⟩ | ⟨hne, h2⟩
    · unfold RootOK
      simp only [hβ]
      refine ⟨arr', E, setRow_heap _ _ _ _ _ _ harr, hw, by rw [hs]; exact hl, fun i j r c hr hcc => ?_⟩
      obtain ⟨g1, g2⟩ := hc i j r c hr hcc
      exact SR.of_CR (g1.mono γ.le_refl hS hz) g2
    · refine (h.mem k' R' h2).mono γ.le_refl hS hz (by rw [h.gen]; exact h.tag k' R' h2) (fun c hβ' => setRow_other _ _ _ _ fun e => hne (h.inj k' R' k R b h2 hst (e ▸ hβ') hβ)) (fun _ _ _ _ _ _ _ => Iff.rfl)
  · intro k1 R1 k2 R2 c h1 h2 h3 h4
    obtain ⟨R1', g1, e1⟩ := hold k1 R1 h1
    obtain ⟨R2', g2, e2⟩ := hold k2 R2 h2
    exact h.inj k1 R1' k2 R2' c g1 g2 (e1 ▸ h3) (e2 ▸ h4)
  · intro k1 R1 c h1 h3
    obtain ⟨R1', g1, e1⟩ := hold k1 R1 h1
    exact h.rootF k1 R1' c g1 (e1 ▸ h3)
theorem Laid.first {wd : Nat} {v : Value} {rows : List (List D)} {vs : Nat → Nat → Value} (h : Laid w wd v rows vs) (hw : 0 < wd) {c : Nat} (hc : c ≤ rows.length) : (Builtin.firstCells wd c v).run P w = .ok (news wd c vs).toArray w := by
  obtain ⟨A, cap, rfl, hcell⟩ := h.val
  cases A with
  | none =>
    have h0 : rows.length = 0 := by
      rcases Nat.eq_zero_or_pos rows.length with h0 | h0
      · exact h0
      · obtain ⟨b, off, e, _⟩ := hcell 0 0 h0 hw
        cases e
    have : c = 0 := by omega
    subst this
    simp [Builtin.firstCells, news]
  | some A =>
    have hl := run_loadCells_list (P := P) w A (news wd c vs) (fun q u hq => by
      have hlt := (List.getElem?_eq_some_iff.1 hq).1
      rw [Za3] at hlt
      obtain ⟨a1, a2, a3⟩ := Zbx hw hlt
      have hg := ZbZ (vs := vs) a1 a2
      rw [a3, hq] at hg
      cases hg
      obtain ⟨b, off, e, hcell2⟩ := hcell _ _ (Nat.lt_of_lt_of_le a1 hc) a2
      cases e
      rw [addr_add]
      rw [a3] at hcell2
      exact hcell2)
    rw [Za3] at hl
    simpa [Builtin.firstCells] using hl
theorem Laid.news_one {wd : Nat} {v : Value} {rows : List (List D)} {vs : Nat → Nat → Value} (h : Laid w wd v rows vs) (hw : 0 < wd) {c : Nat} (hc : c ≤ rows.length) : ∀ u ∈ news wd c vs, u.oneCell' = true := fun u hu => by
  obtain ⟨q, hq⟩ := List.getElem?_of_mem hu
  have hlt := (List.getElem?_eq_some_iff.1 hq).1
  rw [Za3] at hlt
  obtain ⟨a1, a2, a3⟩ := Zbx hw hlt
  have hg := ZbZ (vs := vs) a1 a2
  rw [a3, hq] at hg
  cases hg
  have hr := List.getElem?_eq_getElem (Nat.lt_of_lt_of_le a1 hc)
  have hrl := h.wid _ (List.getElem_mem (Nat.lt_of_lt_of_le a1 hc))
  obtain ⟨_, hp⟩ := h.get (q / wd) (q % wd) _ _ hr (List.getElem?_eq_getElem (by omega))
  exact Zj6 hp
theorem ZkB (dT sT ty e : TypeId) (i : TypeInfo) (b o dLen dCap : Nat) (x : Value) (n : Nat) (nw : List Value) {arr : Array Value} {E : TypeId} (hu : P.underlying dT = some (.slice e)) (hi : P.info? e = some i)
    (hlen : (Builtin.lenOf x).run P w = .ok n w) (hcells : (Builtin.firstCells i.size (Nat.min n dLen) x).run P w = .ok nw.toArray w) (h1 : ∀ v ∈ nw, v.oneCell' = true) (harr : w.heap[b]? = some (.cells arr E (0, 0))) (hfit : o + nw.length ≤ arr.size) :
    (Builtin.copy_ #[dT, sT] ty #[.slice (some ⟨b, o, none⟩) dLen dCap, x]).run P w = .ok (goInt (Nat.min n dLen)) (w.setRow b (poke arr o nw)) := by
  have hst := run_storeCells_at P b o E nw 0 arr w harr (by simpa using hfit) h1
  simp only [Nat.add_zero] at hst
  have hst' : (storeCells ⟨b, o, none⟩ nw).run P w = .ok () (w.setRow b (poke arr o nw)) := hst
  simp [Builtin.copy_, run_underlying hu, hlen, hcells, Go.sizeOf, typeInfo, hi, hst']
theorem Zhr (dT sT ty e : TypeId) (i : TypeInfo) (A : Option Addr) (dCap : Nat) (x : Value) (n : Nat) (hu : P.underlying dT = some (.slice e)) (hi : P.info? e = some i)
    (hlen : (Builtin.lenOf x).run P w = .ok n w) (hcells : (Builtin.firstCells i.size 0 x).run P w = .ok #[] w) :
    (Builtin.copy_ #[dT, sT] ty #[.slice A 0 dCap, x]).run P w = .ok (goInt 0) w := by
  cases A <;> simp [Builtin.copy_, run_underlying hu, hlen, hcells, Go.sizeOf, typeInfo, hi, storeCells]
def overR (rows : List (List C)) (lo : Nat) (nr : List (List D)) : List (List C) := rows.take lo ++ emb nr ++ rows.drop (lo + nr.length)
theorem ZkA {rows : List (List C)} {lo : Nat} {nr : List (List D)} (hlo : lo ≤ rows.length) {i : Nat} {r : List C} (h : (overR rows lo nr)[i]? = some r) :
    ((i < lo ∨ lo + nr.length ≤ i) ∧ rows[i]? = some r) ∨ (lo ≤ i ∧ i < lo + nr.length ∧ ∃ r0, nr[i - lo]? = some r0 ∧ r = r0.map C.d) := by
  have htl : (rows.take lo).length = lo := by simp; omega
  have hel : (rows.take lo ++ emb nr).length = lo + nr.length := by rw [List.length_append, htl, Zfw]
  unfold overR at h
  by_cases h1 : i < lo
  · left
    rw [List.getElem?_append_left (by omega), List.getElem?_append_left (by omega), List.getElem?_take, if_pos h1] at h
    exact ⟨.inl h1, h⟩
  · by_cases h2 : i < lo + nr.length
    · right
      rw [List.getElem?_append_left (by omega), List.getElem?_append_right (by omega), htl] at h
      simp only [emb, List.getElem?_map] at h
      obtain ⟨r0, h0, rfl⟩ := Option.map_eq_some_iff.1 h
      exact ⟨by omega, h2, r0, h0, rfl⟩
    · left
      rw [List.getElem?_append_right (by omega), hel, List.getElem?_drop] at h
      have : lo + nr.length + (i - (lo + nr.length)) = i := by omega
      rw [this] at h
      exact ⟨.inr (by omega), h⟩
theorem ZpZ {rows : List (List C)} {lo : Nat} {nr : List (List D)} (hlo : lo ≤ rows.length) : (overR rows lo nr).length = max rows.length (lo + nr.length) := by
  simp only [overR, List.length_append, Zfw, List.length_take, List.length_drop]; omega
theorem Zsi {y z : Operand} {dT sT e : TypeId} {i : TypeInfo} {k g wd lo len kn : Nat} {R : Root} {nr : List (List D)} {n0 : Nat} (hd : st.fits o.dst = true) (ho : o.op = .call { callee := .builtin .copy, args := #[y, z], argTypes := #[dT, sT] })
    (hy : (evA st y).wk = .c (.rs k g wd lo len kn)) (hk : st.store k = some R) (hg : R.tag = g) (hw : R.wd = wd) (hlo : lo ≤ R.rows.length) (hpl : Zr2 R) (ht : P.underlying dT = some (.slice e)) (hi : P.info? e = some i) (hsz : i.size = wd) (h0 : 0 < wd)
    (hu : ∀ γ a w, Rel w0 own γ st a w → ∃ vs A cap m, a.eval z = .slice A n0 cap ∧ Laid w wd (.slice A m cap) nr vs) (hcn0 : Nat.min n0 len ≤ nr.length) :
    OpOK P w0 own o st ((st.set k { R with rows := overR R.rows lo (nr.take (Nat.min n0 len)) }).put o.dst (sc (.int .i64 (Nat.min n0 len : Nat)))) :=
  .value (by cases h : o.dst <;> simp_all [St.fits, St.set]) fun γ a w hR => by
    subst hg
    subst hsz
    have hv := (hR.ev y).wk
    rw [hy] at hv
    obtain ⟨vs, A1, cap1, m1, hz1, hL⟩ := hu γ a w hR
    have hmn : Nat.min n0 len ≤ nr.length := hcn0
    have hml : Nat.min n0 len ≤ len := Nat.min_le_right _ _
    have hlen1 : (Builtin.lenOf (a.eval z)).run P w = .ok n0 w := by rw [hz1]; rfl
    have hfc : ∀ c, (Builtin.firstCells i.size c (a.eval z)).run P w = (Builtin.firstCells i.size c (.slice A1 m1 cap1)).run P w := fun c => by rw [hz1]; cases A1 <;> rfl
    generalize hcn : Nat.min n0 len = cn at *
    have hnl := Za3 i.size cn vs
    have hcl : (nr.take cn).length = cn := by simp; omega
    have ex : ∀ v' w', (Builtin.copy_ #[dT, sT] o.type #[a.eval y, a.eval z]).run P w = .ok v' w' → (execOp a.eval o).run P w = .ok (.value v') w' := fun v' w' h1 => by
      unfold execOp
      rw [ho]
      simp only [resolve, Sem.run_bind]
      have e3 : (#[y, z] : Array Operand).map a.eval = #[a.eval y, a.eval z] := by simp
      rw [e3]
      simp only [Sem.run_pure, Result.andThen_ok, invoke, builtin, Sem.run_bind, h1]
    have hm := hR.mem k R hk
    unfold RootOK at hm
    rcases hv.rs_inv with ⟨cap, b, E, n, ev, hβ, hg, hsh, hcap, hlc, hkn⟩ | ⟨⟨A, ev⟩, e1, e2, e3, hβ, hg⟩
    · rw [hβ] at hm
      obtain ⟨arr, E', harr, hwd, hsz2, hcell⟩ := hm
      rw [hw] at hwd hsz2 hcell
      have hn : n = arr.size := by simp [World.shape?, harr] at hsh; exact hsh.2.symm
      subst hn
      have hfit : lo * i.size + (news i.size cn vs).length ≤ arr.size := by
        rw [hnl, ← Nat.add_mul]
        exact Nat.le_trans (Nat.mul_le_mul_right _ (by omega)) hcap
      have hrun := ZkB (P := P) (w := w) dT sT o.type e i b (lo * i.size) len cap (a.eval z) n0 (news i.size cn vs) ht hi hlen1 (by rw [hcn, hfc]; exact hL.first h0 hmn) (hL.news_one h0 hmn) harr hfit
      rw [← ev, hcn] at hrun
      refine ⟨γ, _, _, ex _ _ hrun, γ.le_refl, ?_, AR.sc_mk rfl⟩
      refine hR.rewrite hk hβ harr (Zco _ _ _ hfit) (fun r hr => ?_) ?_ fun i' j r c hr hc => ?_
      · rw [hw]
        obtain ⟨i', hi'⟩ := List.getElem?_of_mem hr
        rcases ZkA hlo hi' with ⟨_, h2⟩ | ⟨_, _, r0, h2, rfl⟩
        · exact hwd r (List.mem_of_getElem? h2)
        · have := hL.wid r0 (List.mem_of_mem_take (List.mem_of_getElem? h2))
          simpa using this
      · rw [ZpZ hlo, hw, hcl]
        rcases Nat.le_total R.rows.length (lo + cn) with h | h
        · rw [Nat.max_eq_right h]
          exact Nat.le_trans (Nat.mul_le_mul_right _ (by omega)) hcap
        · rw [Nat.max_eq_left h]; exact hsz2
      · rw [hw, ZfX _ _ _ hfit]
        rcases ZkA hlo hr with ⟨hor, h2⟩ | ⟨hge, hlt, r0, h2, rfl⟩
        · rw [hcl] at hor
          have hjl : j < i.size := by have := (List.getElem?_eq_some_iff.1 hc).1; rw [hwd r (List.mem_of_getElem? h2)] at this; exact this
          rw [if_neg (by
            rw [hnl]
            rintro ⟨q1, q2⟩
            rcases hor with hor | hor
            · have := Zbc hor hjl; omega
            · have : (lo + cn) * i.size ≤ i' * i.size := Nat.mul_le_mul_right _ hor
              rw [Nat.add_mul] at this; omega)]
          obtain ⟨v, rfl⟩ := hpl r (List.mem_of_getElem? h2) c (List.mem_of_getElem? hc)
          exact ⟨(show CR γ w _ (.d (.v v)) from hcell i' j r _ h2 hc), rfl⟩
        · rw [hcl] at hlt
          rw [List.getElem?_map] at hc
          obtain ⟨d, hd', rfl⟩ := Option.map_eq_some_iff.1 hc
          rw [List.getElem?_take, if_pos (by omega)] at h2
          have hjl : j < i.size := by have := (List.getElem?_eq_some_iff.1 hd').1; rw [hL.wid r0 (List.mem_of_getElem? h2)] at this; exact this
          obtain ⟨rfl, hp⟩ := hL.get _ _ _ _ h2 hd'
          have eq : i' * i.size + j = lo * i.size + ((i' - lo) * i.size + j) := by
            have : i' = lo + (i' - lo) := by omega
            rw [this, Nat.add_mul]; simp; omega
          have hq2 : (i' - lo) * i.size + j < cn * i.size := Zbc (by omega) hjl
          rw [if_pos (by rw [hnl]; omega)]
          have eg : (news i.size cn vs).getD (i' * i.size + j - lo * i.size) undef = vs (i' - lo) j := by
            have : i' * i.size + j - lo * i.size = (i' - lo) * i.size + j := by omega
            rw [List.getD_eq_getElem?_getD, this, ZbZ (by omega) hjl]; rfl
          rw [eg]
          exact ⟨.d _ _ (.v _ hp), rfl⟩
    · subst e1 e2 e3
      have hc0 : cn = 0 := by omega
      subst hc0
      rw [hβ] at hm
      simp only at hm
      have hrun := Zhr (P := P) (w := w) dT sT o.type e i A 0 (a.eval z) n0 ht hi hlen1 (by rw [hfc]; have := hL.first (P := P) h0 (c := 0) (Nat.zero_le _); simpa [news] using this)
      rw [← ev] at hrun
      refine ⟨γ, _, _, ex _ _ hrun, γ.le_refl, ?_, AR.sc_mk rfl⟩
      have : st.set k { R with rows := overR R.rows 0 (nr.take 0) } = st := by
        have e : ({ R with rows := overR R.rows 0 (nr.take 0) } : Root) = R := by simp [overR, emb]
        rw [e]
        simp only [St.set]
        congr 1
        funext j
        split
        · rename_i hj; subst hj; exact hk.symm
        · rfl
      rw [this]; exact hR
def ZpJ (y : A) (c : Nat) : A := match y with | .c (.rs k g wd lo _ kn) => .c (.rs k g wd lo c kn) | y => y
theorem Zn8 (hR : Rel w0 own γ st a w) {wd n c : Nat} {y : A} {v : Value} {nr : List (List D)} (hv : AR γ w v y) (hn : lenA y = some n) (hc : c ≤ n) (h : srcD st wd (ZpJ y c) = some nr) : ∃ vs A cap m, v = .slice A n cap ∧ Laid w wd (.slice A m cap) nr vs := by
  unfold ZpJ at h
  split at h
  · rename_i k g wd' lo len kn
    have hn : len = n := by simpa [lenA] using hn
    subst hn
    rcases hv.rs_inv with ⟨cap, b, E, n', ev, hβ, hg, hsh, hcap, hlc, hkn⟩ | ⟨⟨A, ev⟩, e1, e2, e3, hβ, hg⟩
    · obtain ⟨vs, hL⟩ := ZcX hR (v := .slice (some ⟨b, lo * wd', none⟩) c cap) (.c _ _ (.rs k g wd' lo c kn cap b E n' hg hβ hsh hcap (by omega) hkn)) h
      exact ⟨vs, _, cap, c, ev, hL⟩
    · subst e1 e2 e3
      have : c = 0 := by omega
      subst this
      obtain ⟨vs, hL⟩ := ZcX hR (v := .slice A 0 0) (.c _ _ (.rn A k g wd' hg hβ)) h
      exact ⟨vs, A, 0, 0, ev, hL⟩
  · obtain ⟨vs, hL⟩ := ZcX hR hv h
    obtain ⟨b, cap, e⟩ := hv.sliceLen (n := n) (by
      unfold lenA at hn
      split at hn
      · cases hn; exact .inl ⟨_, _, _, _, _, rfl⟩
      · cases hn; exact .inr (.inl ⟨_, _, _, _, rfl, rfl⟩)
      · cases hn; exact .inr (.inr ⟨rfl, rfl⟩)
      · cases hn)
    rw [e] at hL
    exact ⟨vs, b, cap, n, e, hL⟩
def ZpH (P : Program) (x : X) (args : Array Operand) (tys : Array TypeId) (K : KO) : Prop :=
  match args.toList, tys.toList with
  | [y, z], [t, _] => match elT P t with
    | some e => match ZgO P e with
      | some (0, _) => False
      | some (wd + 1, bytes) => match (evA x.S y).wk, lenA (evA x.S z).wk with
        | .c (.rs k g wd' lo len kn), some n => match Zar x.store k with
          | some (.sl tg wd2 rows) => match Nat.beq tg g && (Nat.beq wd2 (wd + 1) && Nat.beq wd' (wd + 1)) with
            | true => ∀ c : Nat, Nat.min n len = c → srcX x (wd + 1) (ZpJ (evA x.S z).wk c) fun Ks nr => cond (decide (lo ≤ rows.length) && (allV rows && decide (c ≤ nr.length)))
                (∀ (rs : List (List D)), rows.take lo ++ (nr.take c ++ rows.drop (lo + (nr.take c).length)) = rs → K (k :: Ks) ⟨sc (.int .i64 c), [(k, some (.sl tg (wd + 1) rs), x.gen k)]⟩ x) False
            | false => False
          | _ => False
        | _, _ => False
      | none => False
    | none => False
  | _, _ => False
theorem Zo5 {tg wd : Nat} {rows : List (List D)} (h : allV rows = true) : Zr2 (XRoot.sl tg wd rows).root := by
  intro r hr c hc
  obtain ⟨r0, h0, rfl⟩ := List.mem_map.1 hr
  obtain ⟨d, hd, rfl⟩ := List.mem_map.1 hc
  have := List.all_eq_true.1 (List.all_eq_true.1 h r0 h0) d hd
  cases d <;> simp [D.isV] at this
  exact ⟨_, rfl⟩
theorem ZjC {args : Array Operand} {tys : Array TypeId} (ho : o.op = .call { callee := .builtin .copy, args := args, argTypes := tys }) : Za6 P o x (ZpH P x args tys) := fun K h hd => by
  unfold ZpH at h
  split at h
  · rename_i y z t tx hy ht
    have e1 : args = #[y, z] := by apply Array.ext'; rw [hy]
    have e2 : tys = #[t, tx] := by apply Array.ext'; rw [ht]
    subst e1 e2
    split at h
    · rename_i e het
      have het := ZbD het
      split at h
      · exact h.elim
      · rename_i wd bytes hst
        obtain ⟨i, zv, i1, i2, i3, i4, i5⟩ := Zcs hst
        have hopy : y ∈ o.op.operands.toList := by rw [ho]; simp [Op.operands, Call.operands]
        have hopz : z ∈ o.op.operands.toList := by rw [ho]; simp [Op.operands, Call.operands]
        split at h
        · rename_i k g wd' lo len kn n hey hen
          split at h
          · rename_i tg wd2 rows hk
            split at h
            · rename_i hc
              simp only [Bool.and_eq_true] at hc
              obtain ⟨c1, c2, c3⟩ := hc
              have c1 := Zaa c1
              have c2 := Zaa c2
              have c3 := Zaa c3
              subst c1 c2 c3
              obtain ⟨Ks, nr, h, hsrc⟩ := Zhd (h _ rfl)
              obtain ⟨h1, h2⟩ := Zag h
              simp only [Bool.and_eq_true, decide_eq_true_eq] at h1
              refine ⟨_, _, h2 _ rfl, fun w0 own ops => ⟨rfl, by simp [XP.patch, toU, Zbo], fun st' hal => ?_⟩⟩
              have hst' : st'.store k = some (XRoot.sl tg (wd + 1) rows).root := (hal.store k (by simp)).trans (ZcJ hk)
              have := Zsi (P := P) (w0 := w0) (own := own) (st := st') (n0 := n) (Zaf hal hd) ho (by rw [hal.ev hopy]; exact hey) hst' rfl rfl (by simpa [XRoot.root, Zfw] using h1.1) (Zo5 h1.2.1) het i1 i2 (Nat.succ_pos _) (nr := nr)
                (fun γ a w hR => by
                  have hv := (hR.ev z).wk
                  rw [hal.ev hopz] at hv
                  exact Zn8 hR hv hen (Nat.min_le_left _ _) (hsrc st' fun q hq => hal.store q (List.mem_cons_of_mem _ hq))) h1.2.2
              rw [Zkj, hal.gen k (by simp)] at this
              have e9 : ({ (XRoot.sl tg (wd + 1) rows).root with rows := overR (XRoot.sl tg (wd + 1) rows).root.rows lo (nr.take (Nat.min n len)) } : Root) = (XRoot.sl tg (wd + 1) (rows.take lo ++ (nr.take (Nat.min n len) ++ rows.drop (lo + (nr.take (Nat.min n len)).length)))).root := by
                simp only [XRoot.root, overR]
                congr 1
                simp [emb, List.map_take, List.map_drop]
              rw [e9] at this
              exact this
            · exact h.elim
          · exact h.elim
        · exact h.elim
      · exact h.elim
    · exact h.elim
  · exact h.elim
theorem Zn5 {y z : Operand} {t tn e : TypeId} {i : TypeInfo} {zv : Value} {zs : List Value} {kn kq : IntKind} {k g wd lo len cap q : Nat} {nr : List (List D)} (k2 : Nat) (hd : st.fits o.dst = true) (ho : o.op = .call { callee := .builtin .append, args := #[y, z], argTypes := #[t, tn] })
    (hy : evA st y = .rx k g wd lo len cap) (hu : srcD st wd (evA st y).wk = some nr) (ht : P.underlying t = some (.slice e)) (htn : P.underlying tn = some (.int kn)) (hi : P.info? e = some i) (hsz : i.size = wd) (h0 : 0 < wd) (hz : i.zero = some zv) (hzs : zv.cells.toList = zs) (hzl : zs.length = wd) (hzp : zs.all plain = true)
    (hq : evA st z = sc (.int kq q)) (h1 : 0 < q) (hc : cap < len + q) (hb : (len + q) * i.bytes ≤ 140737488355328) (h63 : len + q ≤ 9223372036854775807) :
    OpOK P w0 own o st ((st.root k2 false wd (emb (nr ++ List.replicate q (zs.map D.v)))).put o.dst (.c (.rs k2 (st.gen k2 + 1) wd 0 (len + q) (len + q)))) :=
  .value (by cases h : o.dst <;> simp_all [St.fits, St.root]) fun γ a w hR => by
    subst hsz
    have hv := hR.ev y
    obtain ⟨vs, hL⟩ := ZcX hR hv.wk hu
    rw [hy] at hv
    generalize hev : a.eval y = v at hv hL
    cases hv with
    | rx _ _ _ _ _ _ b E n hg hβ hsh hcap hlc =>
    obtain ⟨A0, cap0, hA, hcl⟩ := hL.val
    have hlen : nr.length = len := by cases hA; rfl
    have hLd : Laid w.drew i.size (.slice (some ⟨b, lo * i.size, none⟩) len cap) nr vs := ⟨hL.val, hL.wid, hL.get⟩
    have hzc : zv.cells.size = i.size := by rw [← Array.length_toList, hzs, hzl]
    have hqv : a.eval z = .int kq q := by
      have := hR.ev z
      rw [hq] at this
      exact (AR.sc_inv this).1
    have hrun := Go.Lib.run_append_grow_zeros (P := P) w t tn o.type e i zv kq kn ht htn hi hz (some ⟨b, lo * i.size, none⟩) len cap (news i.size len vs) (hLd.first h0 (by omega)) q h1 h0 hc (by omega) (by
        have : q * i.bytes ≤ (len + q) * i.bytes := Nat.mul_le_mul_right _ (by omega)
        omega) (growslice_fits hc hb)
    have hge := grownCap_ge w (len + q) cap e
    generalize hgc : grownCap w (len + q) cap e = gc at hrun hge
    have hD := hR.drew
    have hol := Za3 i.size len vs
    generalize harr2 : ((news i.size len vs).toArray ++ Builtin.zeroCells zv.cells q ++ Builtin.zeroCells zv.cells (gc - (len + q))) = arr2 at hrun
    have hs2 : arr2.size = gc * i.size := by
      rw [← harr2, Array.size_append, Array.size_append, List.size_toArray, hol, size_zeroCells, size_zeroCells, hzc, ← Nat.add_mul, ← Nat.add_mul]
      congr 1; omega
    have hrl : (emb (nr ++ List.replicate q (zs.map D.v))).length = len + q := by rw [Zfw]; simp [hlen]
    refine ⟨γ.fresh k2 (some w.heap.size), w.drew.alloc (.cells arr2 e), .slice (some ⟨w.heap.size, 0, none⟩) (len + q) gc, ?_, γ.fresh_le k2 (some w.heap.size), hD.alloc k2 false i.size _ arr2 e ?_ ?_ ?_, ?_⟩
    · unfold execOp
      rw [ho]
      simp only [resolve, Sem.run_bind]
      have e3 : (#[y, z] : Array Operand).map a.eval = #[.slice (some ⟨b, lo * i.size, none⟩) len cap, .int kq q] := by simp [hev, hqv]
      rw [e3]
      simp only [Sem.run_pure, Result.andThen_ok, invoke, builtin, Sem.run_bind, hrun]
    · intro r hr
      obtain ⟨r0, h0', rfl⟩ := List.mem_map.1 hr
      rcases List.mem_append.1 h0' with h | h
      · simpa using hL.wid r0 h
      · have := (List.mem_replicate.1 h).2
        subst this
        simpa using hzl
    · rw [hrl, hs2]; exact Nat.mul_le_mul_right _ hge
    · intro i' j r c hr hcc
      simp only [emb, List.getElem?_map] at hr
      obtain ⟨r0, hr0, rfl⟩ := Option.map_eq_some_iff.1 hr
      rw [List.getElem?_map] at hcc
      obtain ⟨d, hd', rfl⟩ := Option.map_eq_some_iff.1 hcc
      by_cases hil : i' < len
      · rw [List.getElem?_append_left (by omega)] at hr0
        have hjl : j < i.size := by have := (List.getElem?_eq_some_iff.1 hd').1; rw [hL.wid r0 (List.mem_of_getElem? hr0)] at this; exact this
        obtain ⟨rfl, hp⟩ := hL.get _ _ _ _ hr0 hd'
        have hqq : i' * i.size + j < len * i.size := Zbc hil hjl
        have eg : arr2.getD (i' * i.size + j) undef = vs i' j := by
          rw [← harr2, Array.append_assoc, Array.getD_eq_getD_getElem?, Array.getElem?_append_left (by simpa [hol] using hqq), List.getElem?_toArray, ZbZ hil hjl]; rfl
        rw [eg]
        exact ⟨.d _ _ (.v _ hp), rfl⟩
      · rw [List.getElem?_append_right (by omega), hlen] at hr0
        have hlt := (List.getElem?_eq_some_iff.1 hr0).1
        rw [List.length_replicate] at hlt
        rw [List.getElem?_replicate, if_pos hlt] at hr0
        cases hr0
        rw [List.getElem?_map] at hd'
        obtain ⟨u, hu', rfl⟩ := Option.map_eq_some_iff.1 hd'
        have hjl : j < i.size := by have := (List.getElem?_eq_some_iff.1 hu').1; omega
        have eq : i' * i.size + j = len * i.size + ((i' - len) * i.size + j) := by
          have : i' = len + (i' - len) := by omega
          rw [this, Nat.add_mul]; simp; omega
        have hq2 : (i' - len) * i.size + j < q * i.size := Zbc hlt hjl
        have hmod : ((i' - len) * i.size + j) % i.size = j := by
          rw [Nat.mul_comm, Nat.mul_add_mod]; exact Nat.mod_eq_of_lt hjl
        have eg : arr2.getD (i' * i.size + j) undef = u := by
          rw [← harr2, Array.getD_eq_getD_getElem?, Array.getElem?_append_left (by rw [Array.size_append, List.size_toArray, hol, size_zeroCells, hzc]; omega), Array.getElem?_append_right (by simp [hol]; omega)]
          have e5 : i' * i.size + j - (news i.size len vs).toArray.size = (i' - len) * i.size + j := by simp [hol]; omega
          rw [e5]
          have hsz3 : (i' - len) * i.size + j < (Builtin.zeroCells zv.cells q).size := by rw [size_zeroCells, hzc]; exact hq2
          rw [Array.getElem?_eq_getElem hsz3, Option.getD_some]
          simp only [Builtin.zeroCells, Array.getElem_map, Array.getElem_range, hzc, hmod]
          have e6 : zv.cells[j]? = some u := by rw [← Array.getElem?_toList, hzs]; exact hu'
          rw [Array.getElem!_eq_getD, Array.getD_eq_getD_getElem?, e6]; rfl
        rw [eg]
        have hpu := List.all_eq_true.1 hzp u (List.mem_of_getElem? hu')
        exact ⟨.d _ _ (.v _ hpu), rfl⟩
    · have hgk : γ.gen k2 = st.gen k2 := congrFun hR.gen k2
      have := CR.rs (γ := γ.fresh k2 (some w.heap.size)) (w := w.drew.alloc (.cells arr2 e)) k2 (st.gen k2 + 1) i.size 0 (len + q) (len + q) gc w.heap.size e arr2.size (by rw [Gh.fresh_gen, hgk]; exact Nat.le_refl _) (by rw [← hgk, Gh.fresh_new])
        (by simp only [World.shape?]; rw [show (w.drew.alloc (.cells arr2 e)).heap[w.heap.size]? = some (.cells arr2 e (0, 0)) from heap_alloc_new w.drew _]) (by rw [hs2]; simp) hge hge
      exact .c _ _ (by simpa using this)
def ZrS (P : Program) (t : TypeId) : Bool := match P.underlying t with | some (.int _) => true | _ => false
def Zkc (P : Program) (o : Oper) (x : X) (args : Array Operand) (tys : Array TypeId) (K : KO) : Prop :=
  match args.toList, tys.toList with
  | [y, z], [t, _] => match elT P t with
    | some e => match ZgO P e, Zd3 P e with
      | some (wd + 1, bytes), some zs => match zs.all plain && Nat.beq zs.length (wd + 1) with
        | true => match evA x.S y, evA x.S z with
          | .rx k g wd' lo len cap, .c (.d (.v (.int _ q))) => match Nat.beq wd' (wd + 1) with
            | true => srcX x (wd + 1) (A.rx k g wd' lo len cap).wk fun Ks nr =>
                cond (decide (1 ≤ q) && (decide (cap < len + q.toNat) && (decide ((len + q.toNat) * bytes ≤ 140737488355328) && decide (len + q.toNat ≤ 9223372036854775807))))
                  (∀ (n : Nat) (rs : List (List D)), len + q.toNat = n → nr ++ List.replicate q.toNat (zs.map D.v) = rs → K (x.freeO o :: Ks) ⟨.c (.rs (x.freeO o) (x.gen (x.freeO o) + 1) (wd + 1) 0 n n), [(x.freeO o, some (.sl (x.gen (x.freeO o) + 1) (wd + 1) rs), x.gen (x.freeO o) + 1)]⟩ x) False
            | false => False
          | _, _ => False
        | false => False
      | _, _ => False
    | none => False
  | _, _ => False
def Zgq (P : Program) (o : Oper) (x : X) (args : Array Operand) (tys : Array TypeId) (K : KO) : Prop :=
  match tys.toList with
  | [_, tn] => match ZrS P tn with | true => Zkc P o x args tys K | false => Zi9 P o x args tys K
  | _ => False
theorem Zqt {e : TypeId} {zs : List Value} {i : TypeInfo} {zv : Value} (h : Zd3 P e = some zs) (hi : P.info? e = some i) (hz : i.zero = some zv) : zv.cells.toList = zs := by
  simp [Zd3, hi, hz] at h; exact h
theorem Zgy {args : Array Operand} {tys : Array TypeId} (ho : o.op = .call { callee := .builtin .append, args := args, argTypes := tys }) : Za6 P o x (Zgq P o x args tys) := fun K h hd => by
  unfold Zgq at h
  split at h
  · rename_i t0 tn hty
    split at h
    · rename_i htn
      unfold Zkc at h
      split at h
      · rename_i y z t tx hy ht
        have e1 : args = #[y, z] := by apply Array.ext'; rw [hy]
        have e2 : tys = #[t, tx] := by apply Array.ext'; rw [ht]
        rw [ht] at hty
        cases hty
        subst e1 e2
        obtain ⟨kn, htn⟩ : ∃ kn, P.underlying tn = some (.int kn) := by
          unfold ZrS at htn
          split at htn
          · exact ⟨_, ‹_›⟩
          · cases htn
        split at h
        · rename_i e het
          have het := ZbD het
          split at h
          · rename_i wd bytes zs hst hzt
            obtain ⟨i, zv, i1, i2, i3, i4, i5⟩ := Zcs hst
            split at h
            · rename_i hzp
              simp only [Bool.and_eq_true] at hzp
              obtain ⟨z1, z2⟩ := hzp
              have z2 := Zaa z2
              split at h
              · rename_i k g wd' lo len cap kq q hey hez
                split at h
                · rename_i hwd
                  have hwd := Zaa hwd
                  subst hwd
                  obtain ⟨Ks, nr, h, hsrc⟩ := Zhd h
                  obtain ⟨hc, h⟩ := Zag h
                  simp only [Bool.and_eq_true, decide_eq_true_eq] at hc
                  obtain ⟨c1, c2, c3, c4⟩ := hc
                  have hopy : y ∈ o.op.operands.toList := by rw [ho]; simp [Op.operands, Call.operands]
                  have hopz : z ∈ o.op.operands.toList := by rw [ho]; simp [Op.operands, Call.operands]
                  refine ⟨_, _, h _ _ rfl rfl, fun w0 own ops => .many (by simp) fun st' hal => ?_⟩
                  have := Zn5 (P := P) (w0 := w0) (own := own) (st := st') (q := q.toNat) (kq := kq) (nr := nr) (x.freeO o) (Zaf hal hd) ho (by rw [hal.ev hopy]; exact hey)
                    (by rw [hal.ev hopy, hey]; exact hsrc st' fun q hq => hal.store q (List.mem_cons_of_mem _ hq)) het htn i1 i2 (Nat.succ_pos _) i4 (Zqt hzt i1 i4) z2 z1
                    (by rw [hal.ev hopz, hez]; simp only [sc]; congr 4; omega) (by omega) c2 (by rw [i3]; exact c3) c4
                  rw [Za8, hal.gen _ (by simp)] at this
                  exact this
                · exact h.elim
              · exact h.elim
            · exact h.elim
          · exact h.elim
        · exact h.elim
      · exact h.elim
    · exact Zhk ho K h hd
  · exact h.elim
def Zsa (P : Program) (f : FuncId) : Prop := ∃ (tS tR e : TypeId) (size : Nat), P.underlying tS = some (.slice e) ∧ (∀ w, (Go.sizeOf e).run P w = .ok size w) ∧ ∀ args w, (callFunc f args).run P w = ((Extern.SlicesOverlaps.overlaps #[tS, tS] #[tR] args).run P w).andThen fun v w' => .ok (.value v) w'
theorem Zso {f : FuncId} {y z : Operand} {tys : Array TypeId} {k1 g1 wd1 lo1 len1 kn1 k2 g2 wd2 lo2 len2 kn2 : Nat} {R1 R2 : Root} (hd : st.fits o.dst = true) (ho : o.op = .call { callee := .value (.func f), args := #[y, z], argTypes := tys }) (hf : Zsa P f)
    (hy : (evA st y).wk = .c (.rs k1 g1 wd1 lo1 len1 kn1)) (hz : (evA st z).wk = .c (.rs k2 g2 wd2 lo2 len2 kn2)) (hk1 : st.store k1 = some R1) (hg1 : R1.tag = g1) (hk2 : st.store k2 = some R2) (hg2 : R2.tag = g2) (hne : k1 ≠ k2) (hl1 : 0 < len1) (hl : 0 < len2) (hw : 0 < wd2) :
    OpOK P w0 own o st (st.put o.dst (sc (.bool false))) :=
  ZdQ hd rfl fun γ a w hR => by
    subst hg1 hg2
    obtain ⟨tS, tR, e, size, o1, o2, o3⟩ := hf
    have hv := (hR.ev y).wk
    rw [hy] at hv
    have hu := (hR.ev z).wk
    rw [hz] at hu
    have key : (Extern.SlicesOverlaps.overlaps #[tS, tS] #[tR] #[a.eval y, a.eval z]).run P w = .ok (.bool false) w := by
      rcases hu.rs_inv with ⟨cap, b, E, n, ev, hβ, hg, hsh, hcap, hlc, hkn⟩ | ⟨_, _, h0, _⟩
      · rcases hv.rs_inv with ⟨cap1, b1, E1, n1, ev1, hβ1, hg1, hsh1, hcap1, hlc1, hkn1⟩ | ⟨⟨A, ev1⟩, _, h0, _⟩
        · rw [ev, ev1]
          have hb : b1 ≠ b := fun hb => hne (hR.inj _ _ _ _ b hk1 hk2 (hb ▸ hβ1) hβ)
          have hm1 := hR.mem k1 R1 hk1
          unfold RootOK at hm1
          rw [hβ1] at hm1
          obtain ⟨arr, E', harr, _⟩ := hm1
          have hpos : n ≠ 0 := by
            have : 1 * 1 ≤ (lo2 + cap) * wd2 := Nat.mul_le_mul (by omega) hw
            omega
          exact Go.Lib.run_overlaps_apart w tS tR e o1 size o2 ⟨b1, lo1 * wd1, none⟩ ⟨b, lo2 * wd2, none⟩ len1 cap1 len2 cap hb E1 E n1 n hsh1 hsh hpos (by simp [World.frozen?, harr]) (by simp [World.frozen?, harr])
        · omega
      · omega
    unfold execOp
    rw [ho]
    simp only [resolve, Act.eval, Deferred.ofValue, Sem.run_bind]
    have e3 : (#[y, z] : Array Operand).map a.eval = #[a.eval y, a.eval z] := by simp
    have hcf := o3 #[a.eval y, a.eval z] w
    rw [key] at hcf
    simp only [Result.andThen_ok] at hcf
    simp [Sem.run, invoke, hcf]
def Zpd (P : Program) (x : X) (f : FuncId) (args : Array Operand) (K : KO) : Prop :=
  match args.toList with
  | [y, z] => match (evA x.S y).wk, (evA x.S z).wk with
    | .c (.rs k1 g1 _ _ len1 _), .c (.rs k2 g2 wd2 _ len2 _) => match Zar x.store k1, Zar x.store k2 with
      | some R1, some R2 => match Nat.beq R1.root.tag g1 && (Nat.beq R2.root.tag g2 && (Nat.ble 1 wd2 && !Nat.beq k1 k2)) with
        | true => cond (decide (1 ≤ len1) && decide (1 ≤ len2)) (Zsa P f ∧ K [k1, k2] ⟨sc (.bool false), []⟩ x) False
        | false => False
      | _, _ => False
    | _, _ => False
  | _ => False
theorem Zjn {f : FuncId} {args : Array Operand} {tys : Array TypeId} (ho : o.op = .call { callee := .value (.func f), args := args, argTypes := tys }) : Za6 P o x (Zpd P x f args) := fun K h hd => by
  unfold Zpd at h
  split at h
  · rename_i y z hy
    have e1 : args = #[y, z] := by apply Array.ext'; rw [hy]
    subst e1
    have hopy : y ∈ o.op.operands.toList := by rw [ho]; simp [Op.operands, Call.operands]
    have hopz : z ∈ o.op.operands.toList := by rw [ho]; simp [Op.operands, Call.operands]
    split at h
    · rename_i k1 g1 wd1 lo1 len1 kn1 k2 g2 wd2 lo2 len2 kn2 hey hez
      split at h
      · rename_i R1 R2 hk1 hk2
        split at h
        · rename_i hc
          simp only [Bool.and_eq_true, Bool.not_eq_true'] at hc
          obtain ⟨c1, c2, c3, c4⟩ := hc
          have c1 := Zaa c1
          have c2 := Zaa c2
          have c3 := Nat.le_of_ble_eq_true c3
          have c4 := Zbi c4
          obtain ⟨hl, hf, h⟩ := Zag h
          simp only [Bool.and_eq_true, decide_eq_true_eq] at hl
          exact ⟨_, _, h, fun w0 own ops => .reads fun st' hal => Zso (Zaf hal hd) ho hf (by rw [hal.ev hopy]; exact hey) (by rw [hal.ev hopz]; exact hez) ((hal.store k1 (by simp)).trans (ZcJ hk1)) c1 ((hal.store k2 (by simp)).trans (ZcJ hk2)) c2 c4 hl.1 hl.2 c3⟩
        · exact h.elim
      · exact h.elim
    · exact h.elim
  · exact h.elim
end

section
open Go
variable {P : Program} {w0 : World} {own : Nat → Prop} {γ : Gh} {st : St} {a : Act} {w : World} {o : Oper} {x : X} {ops : Array Oper}
structure LaidC (γ : Gh) (w : World) (wd : Nat) (v : Value) (rows : List (List C)) (vs : Nat → Nat → Value) : Prop where
  val : ∃ A cap, v = .slice A rows.length cap ∧ ∀ i j, i < rows.length → j < wd → ∃ b off, A = some ⟨b, off, none⟩ ∧ w.cell? ⟨b, off + (i * wd + j), none⟩ = some (vs i j)
  wid : ∀ r ∈ rows, r.length = wd
  get : ∀ i j r c, rows[i]? = some r → r[j]? = some c → CR γ w (vs i j) c ∧ c.flat = true ∧ (vs i j).oneCell' = true
theorem LaidC.src {wd : Nat} {v : Value} {rows : List (List C)} {vs : Nat → Nat → Value} (h : LaidC γ w wd v rows vs) (hw : 0 < wd) {tx e' : TypeId} (hk : P.underlying tx = some (.slice e')) : Src P wd tx v rows.length (news wd rows.length vs) w := by
  obtain ⟨A, cap, rfl, hc⟩ := h.val
  have key : ∀ q u, (news wd rows.length vs)[q]? = some u → q < rows.length * wd ∧ u = vs (q / wd) (q % wd) := fun q u hq => by
    have hlt := (List.getElem?_eq_some_iff.1 hq).1
    rw [Za3] at hlt
    obtain ⟨a1, a2, a3⟩ := Zbx hw hlt
    have := ZbZ (vs := vs) a1 a2
    rw [a3, hq] at this
    cases this
    exact ⟨hlt, rfl⟩
  have hone : ∀ u ∈ news wd rows.length vs, u.oneCell' = true := fun u hu => by
    obtain ⟨q, hq⟩ := List.getElem?_of_mem hu
    obtain ⟨hlt, rfl⟩ := key q u hq
    obtain ⟨a1, a2, a3⟩ := Zbx hw hlt
    have hr := List.getElem?_eq_getElem a1
    have hrl := h.wid _ (List.getElem_mem a1)
    exact (h.get (q / wd) (q % wd) _ _ hr (List.getElem?_eq_getElem (by omega))).2.2
  cases A with
  | none =>
    have h0 : rows.length = 0 := by
      rcases Nat.eq_zero_or_pos rows.length with h0 | h0
      · exact h0
      · obtain ⟨b, off, e, _⟩ := hc 0 0 h0 hw
        cases e
    have hn : news wd rows.length vs = [] := by rw [h0]; simp [news]
    rw [hn, h0]
    exact .ofNil w hk cap
  | some A =>
    refine Src.ofSlice w hk A rows.length cap _ (Za3 _ _ _) (fun q u hq => ?_) hone
    obtain ⟨hlt, rfl⟩ := key q u hq
    obtain ⟨a1, a2, a3⟩ := Zbx hw hlt
    obtain ⟨b, off, e, hcell⟩ := hc _ _ a1 a2
    cases e
    rw [addr_add]
    rw [a3] at hcell
    exact hcell
theorem ZfL {rows nr : List (List C)} {len i : Nat} {r : List C} (hl : len ≤ rows.length) (h : (rows.take len ++ nr)[i]? = some r) : (i < len ∧ rows[i]? = some r) ∨ (len ≤ i ∧ nr[i - len]? = some r) := by
  have hlen : (rows.take len).length = len := by simp; omega
  by_cases hi : i < len
  · left
    rw [List.getElem?_append_left (by omega), List.getElem?_take, if_pos hi] at h
    exact ⟨hi, h⟩
  · right
    rw [List.getElem?_append_right (by omega), hlen] at h
    exact ⟨by omega, h⟩
theorem ZdI (hR : Rel w0 own γ st a w) {t tx ty e e' : TypeId} {k len kn wd : Nat} {R : Root} {i : TypeInfo} {z : Value} {v u : Value} {nr : List (List C)} {vs : Nat → Nat → Value} (hk : st.store k = some R) (hw : R.wd = wd) (hlen : len ≤ R.rows.length)
    (hv : CR γ w v (.rs k R.tag wd 0 len kn)) (ht : P.underlying t = some (.slice e)) (htx : P.underlying tx = some (.slice e')) (hi : P.info? e = some i) (hsz : i.size = wd) (h0 : 0 < wd) (hz : i.zero = some z) (hzs : z.cells.size = wd)
    (hu : LaidC γ w wd u nr vs) (hb : (len + nr.length) * i.bytes ≤ 140737488355328) (h63 : len + nr.length ≤ 9223372036854775807) :
    ∃ γ' w' v', (Builtin.append_ #[t, tx] ty #[v, u]).run P w = .ok v' w' ∧ γ.le γ' ∧ Rel w0 own γ' (st.root k false wd (R.rows.take len ++ nr)) a w' ∧ CR γ' w' v' (.rs k (st.gen k + 1) wd 0 (len + nr.length) (len + nr.length)) := by
  subst hsz
  have hgk : γ.gen k = st.gen k := congrFun hR.gen k
  have hsrc := hu.src h0 htx (P := P)
  have hnl := Za3 i.size nr.length vs
  have hm := hR.mem k R hk
  unfold RootOK at hm
  have htl : (R.rows.take len).length = len := by simp; omega
  have hrl : (R.rows.take len ++ nr).length = len + nr.length := by rw [List.length_append, htl]
  have hsub : ∀ (n : Nat) i' j c, (fun i' j c => i' < n ∧ γ.FP k i' j c) i' j c → γ.FP k i' j c := fun n i' j c h => h.2
  -- a new row
  have grow : ∀ (A : Option Addr) (cap : Nat) (olds : List Value), v = .slice A len cap → cap < len + nr.length → olds.length = len * i.size → (Builtin.firstCells i.size len (.slice A len cap)).run P w.drew = .ok olds.toArray w.drew →
      (∀ i' j r c, i' < len → R.rows[i']? = some r → r[j]? = some c → SR γ w (olds.getD (i' * i.size + j) undef) c (γ.FP k i' j)) → (∀ r ∈ R.rows, r.length = i.size) →
      ∃ γ' w' v', (Builtin.append_ #[t, tx] ty #[v, u]).run P w = .ok v' w' ∧ γ.le γ' ∧ Rel w0 own γ' (st.root k false i.size (R.rows.take len ++ nr)) a w' ∧ CR γ' w' v' (.rs k (st.gen k + 1) i.size 0 (len + nr.length) (len + nr.length)) := by
    intro A cap olds ev hg hol hold hcell hwd
    subst ev
    have hrun := run_append_grow_src (P := P) w t tx ty e i z ht hi hz A len cap olds hold u nr.length _ hsrc hg (by omega) (growslice_fits hg hb)
    have hge := grownCap_ge w (len + nr.length) cap e
    generalize hgc : grownCap w (len + nr.length) cap e = gc at hrun hge
    generalize harr2 : ((olds ++ news i.size nr.length vs).toArray ++ Builtin.zeroCells z.cells (gc - (len + nr.length))) = arr2 at hrun
    have hL : (olds ++ news i.size nr.length vs).length = (len + nr.length) * i.size := by rw [List.length_append, hol, hnl, Nat.add_mul]
    have hs2 : arr2.size = gc * i.size := by
      rw [← harr2, Array.size_append, List.size_toArray, hL, size_zeroCells, hzs, ← Nat.add_mul]
      congr 1; omega
    have hget : ∀ q, q < (len + nr.length) * i.size → arr2[q]? = (olds ++ news i.size nr.length vs)[q]? := fun q hq => by
      rw [← harr2, Array.getElem?_append_left (by simpa [hL] using hq), List.getElem?_toArray]
    refine ⟨_, _, _, hrun, γ.redo_le k (some w.heap.size) (fun i' j c => i' < len ∧ γ.FP k i' j c) (hsub len), ?_, ?_⟩
    · refine hR.redo hk false i.size _ (some w.heap.size) _ (hsub len) (fun c hc => .inr ?_) (fun c hc _ => RowKit.Below.heap_alloc w.drew _ c hc) (Shapes.alloc w.drew _) (by simp) rfl rfl rfl (fun hS => ?_)
      · cases hc; exact ⟨Nat.le_refl _, by simp⟩
      · unfold RootOK
        simp only [← hgk, Gh.redo_new]
        refine ⟨arr2, e, (by show (w.heap.push _)[w.heap.size]? = _; simp), ?_, ?_, ?_⟩
        · intro r hr
          rcases List.mem_append.1 hr with hr | hr
          · exact hwd r (List.mem_of_mem_take hr)
          · exact hu.wid r hr
        · rw [hrl, hs2]; exact Nat.mul_le_mul_right _ hge
        · intro i' j r c hr hc
          rcases ZfL hlen hr with ⟨hil, hr'⟩ | ⟨hil, hr0⟩
          · have hjl : j < i.size := by have := (List.getElem?_eq_some_iff.1 hc).1; rw [hwd r (List.mem_of_getElem? hr')] at this; exact this
            have hq : i' * i.size + j < len * i.size := Zbc hil hjl
            have hqL : i' * i.size + j < (len + nr.length) * i.size := by rw [Nat.add_mul]; omega
            have eg : arr2.getD (i' * i.size + j) undef = olds.getD (i' * i.size + j) undef := by
              rw [Array.getD_eq_getD_getElem?, hget _ hqL, List.getElem?_append_left (by omega), List.getD_eq_getElem?_getD]
            rw [eg]
            have e2 : (γ.redo k (some w.heap.size) (fun i' j c => i' < len ∧ γ.FP k i' j c)).FP k i' j = γ.FP k i' j := by
              funext c'; simp [Gh.redo, hil]
            rw [e2]
            exact (hcell i' j r c hil hr' hc).mono (γ.redo_le k _ _ (hsub len)) hS (Shapes.alloc w.drew _) (hS.mono fun b hb => .inr ⟨k, i', j, hb⟩)
          · have hi2 := (List.getElem?_eq_some_iff.1 hr0).1
            have hjl : j < i.size := by have := (List.getElem?_eq_some_iff.1 hc).1; rw [hu.wid r (List.mem_of_getElem? hr0)] at this; exact this
            obtain ⟨hp1, hp2, hp3⟩ := hu.get _ _ _ _ hr0 hc
            have eq : i' * i.size + j = len * i.size + ((i' - len) * i.size + j) := by
              have : i' = len + (i' - len) := by omega
              rw [this, Nat.add_mul]; simp; omega
            have hq2 : (i' - len) * i.size + j < nr.length * i.size := Zbc hi2 hjl
            have eg : arr2.getD (i' * i.size + j) undef = vs (i' - len) j := by
              rw [Array.getD_eq_getD_getElem?, hget _ (by rw [Nat.add_mul]; omega), List.getElem?_append_right (by omega), hol]
              have : i' * i.size + j - len * i.size = (i' - len) * i.size + j := by omega
              rw [this, ZbZ hi2 hjl]; rfl
            rw [eg]
            exact SR.of_CR (hp1.mono (γ.redo_le k _ _ (hsub len)) hS (Shapes.alloc w.drew _)) hp2
    · have := CR.rs (γ := γ.redo k (some w.heap.size) (fun i' j c => i' < len ∧ γ.FP k i' j c)) (w := w.drew.alloc (.cells arr2 e)) k (st.gen k + 1) i.size 0 (len + nr.length) (len + nr.length) gc w.heap.size e arr2.size (by rw [Gh.redo_gen, hgk]; exact Nat.le_refl _) (by rw [← hgk, Gh.redo_new])
        (by simp only [World.shape?]; rw [show (w.drew.alloc (.cells arr2 e)).heap[w.heap.size]? = some (.cells arr2 e (0, 0)) from heap_alloc_new w.drew _]) (by rw [hs2]; simp) hge hge
      simpa using this
  rcases (AR.c (γ := γ) _ _ hv).rs_inv with ⟨cap, b, E, n, ev, hβ, hg, hsh, hcap, hlc, hkn⟩ | ⟨⟨A, ev⟩, _, hl0, hk0, hβ, hg⟩
  · rw [hβ] at hm
    obtain ⟨arr, E', harr, hwd, hsz2, hcell⟩ := hm
    rw [hw] at hwd hsz2 hcell
    have hn : n = arr.size := by simp [World.shape?, harr] at hsh; exact hsh.2.symm
    have hE : E = E' := by simp [World.shape?, harr] at hsh; exact hsh.1.symm
    subst hn
    rw [Nat.zero_mul] at ev
    rw [Nat.zero_add] at hcap
    by_cases hroom : len + nr.length ≤ cap
    · subst ev
      have hfit : len * i.size + (news i.size nr.length vs).length ≤ arr.size := by
        rw [hnl, ← Nat.add_mul]
        exact Nat.le_trans (Nat.mul_le_mul_right _ hroom) hcap
      have hrun := ZdJ (P := P) (w := w) t tx ty e i ht hi b len cap u nr.length _ hsrc hroom harr hfit
      obtain ⟨p1, p2, p3⟩ := hR.rootF k R b hk hβ
      have hz2 : Shapes w (w.setRow b (poke arr (len * i.size) (news i.size nr.length vs))) := .setRow harr (Zco _ _ _ hfit)
      refine ⟨_, _, _, hrun, γ.redo_le k (some b) (fun i' j c => i' < len ∧ γ.FP k i' j c) (hsub len), ?_, ?_⟩
      · refine hR.redo hk false i.size _ (some b) _ (hsub len) (fun c hc => .inl ?_) (fun c hc hne => setRow_other _ _ _ _ fun ec => ?_) hz2 (by simp) (by simp) (by simp) (by simp) (fun hS => ?_)
        · cases hc; exact hβ
        · subst ec; exact hne hβ
        · unfold RootOK
          simp only [← hgk, Gh.redo_new]
          refine ⟨_, E', setRow_heap _ _ _ _ _ _ harr, ?_, ?_, ?_⟩
          · intro r hr
            rcases List.mem_append.1 hr with hr | hr
            · exact hwd r (List.mem_of_mem_take hr)
            · exact hu.wid r hr
          · rw [hrl, Zco _ _ _ hfit]
            exact Nat.le_trans (Nat.mul_le_mul_right _ hroom) hcap
          · intro i' j r c hr hc
            rw [ZfX _ _ _ hfit]
            rcases ZfL hlen hr with ⟨hil, hr'⟩ | ⟨hil, hr0⟩
            · have hjl : j < i.size := by have := (List.getElem?_eq_some_iff.1 hc).1; rw [hwd r (List.mem_of_getElem? hr')] at this; exact this
              have hq : i' * i.size + j < len * i.size := Zbc hil hjl
              rw [if_neg (by omega)]
              have e2 : (γ.redo k (some b) (fun i' j c => i' < len ∧ γ.FP k i' j c)).FP k i' j = γ.FP k i' j := by
                funext c'; simp [Gh.redo, hil]
              rw [e2]
              exact (hcell i' j r c hr' hc).mono (γ.redo_le k _ _ (hsub len)) hS hz2 (hS.mono fun b hb => .inr ⟨k, i', j, hb⟩)
            · have hi2 := (List.getElem?_eq_some_iff.1 hr0).1
              have hjl : j < i.size := by have := (List.getElem?_eq_some_iff.1 hc).1; rw [hu.wid r (List.mem_of_getElem? hr0)] at this; exact this
              obtain ⟨hp1, hp2, hp3⟩ := hu.get _ _ _ _ hr0 hc
              have eq : i' * i.size + j = len * i.size + ((i' - len) * i.size + j) := by
                have : i' = len + (i' - len) := by omega
                rw [this, Nat.add_mul]; simp; omega
              have hq2 : (i' - len) * i.size + j < nr.length * i.size := Zbc hi2 hjl
              rw [if_pos (by rw [hnl]; omega)]
              have eg : (news i.size nr.length vs).getD (i' * i.size + j - len * i.size) undef = vs (i' - len) j := by
                have : i' * i.size + j - len * i.size = (i' - len) * i.size + j := by omega
                rw [List.getD_eq_getElem?_getD, this, ZbZ hi2 hjl]; rfl
              rw [eg]
              exact SR.of_CR (hp1.mono (γ.redo_le k _ _ (hsub len)) hS hz2) hp2
      · have := CR.rs (γ := γ.redo k (some b) (fun i' j c => i' < len ∧ γ.FP k i' j c)) (w := w.setRow b (poke arr (len * i.size) (news i.size nr.length vs))) k (st.gen k + 1) i.size 0 (len + nr.length) (len + nr.length) cap b E arr.size (by rw [Gh.redo_gen, hgk]; exact Nat.le_refl _) (by rw [← hgk, Gh.redo_new])
          (hz2 _ _ hsh) (by simpa using hcap) hroom hroom
        simpa using this
    · have hlm : len * i.size ≤ arr.size := Nat.le_trans (Nat.mul_le_mul_right _ hlc) hcap
      refine grow (some ⟨b, 0, none⟩) cap (arr.toList.take (len * i.size)) ev (by omega) (by simp; omega) ?_ ?_ hwd
      · refine run_firstCells_some w.drew i.size len ⟨b, 0, none⟩ len cap _ (by simp; omega) fun q x hq => ?_
        rw [addr_add, Nat.zero_add]
        have hql : q < len * i.size := by have := (List.getElem?_eq_some_iff.1 hq).1; simp at this; omega
        rw [List.getElem?_take, if_pos hql] at hq
        have hh : (w.drew).heap[b]? = some (.cells arr E' (0, 0)) := harr
        simp only [World.cell?, hh]
        simpa using hq
      · intro i' j r c hil hr hc
        have hjl : j < i.size := by have := (List.getElem?_eq_some_iff.1 hc).1; rw [hwd r (List.mem_of_getElem? hr)] at this; exact this
        have hq : i' * i.size + j < len * i.size := Zbc hil hjl
        have e1 : (arr.toList.take (len * i.size)).getD (i' * i.size + j) undef = arr.getD (i' * i.size + j) undef := by
          rw [List.getD_eq_getElem?_getD, List.getElem?_take, if_pos hq, Array.getD_eq_getD_getElem?]; simp
        rw [e1]
        exact hcell i' j r c hr hc
  · rw [hβ] at hm
    simp only at hm
    subst hl0
    rcases Nat.eq_zero_or_pos nr.length with hn0 | hn0
    · have hnr : nr = [] := List.eq_nil_of_length_eq_zero hn0
      subst hnr
      subst ev
      have hrun := run_append_nothing (P := P) w t tx ty e i ht hi A 0 0 (Nat.le_refl _) u (by simpa [news] using hsrc)
      refine ⟨_, _, _, hrun, γ.redo_le k none (fun _ _ _ => False) (fun _ _ _ h => h.elim), ?_, ?_⟩
      · refine hR.redo hk false i.size _ none _ (fun _ _ _ h => h.elim) (fun c hc => by cases hc) (fun c _ _ => rfl) (Shapes.refl _) (Nat.le_refl _) rfl rfl rfl (fun hS => ?_)
        unfold RootOK
        simp only [← hgk, Gh.redo_new]
        simp
      · exact .rn A k _ _ (by rw [Gh.redo_gen, hgk]; exact Nat.le_refl _) (by rw [← hgk, Gh.redo_new])
    · refine grow A 0 [] ev (by omega) (by simp) ?_ (fun i' j r c hil => by omega) (by rw [hm]; simp)
      cases A with
      | none => exact run_firstCells_none w.drew _ 0 0 0
      | some A => exact run_firstCells_some w.drew i.size 0 A 0 0 [] (by simp) (by simp)
end

section
open Go
variable {P : Program} {w0 : World} {own : Nat → Prop} {γ : Gh} {st : St} {a : Act} {w : World} {o : Oper} {x : X} {ops : Array Oper}
def chk (wd : Nat) : Nat → List C → List (List C)
  | 0, _ => []
  | n + 1, l => l.take wd :: chk wd n (l.drop wd)
theorem Zbf (wd : Nat) : ∀ (n : Nat) (l : List C), (chk wd n l).length = n
  | 0, _ => rfl
  | n + 1, l => by simp [chk, Zbf wd n]
theorem ZgF (wd : Nat) : ∀ (n : Nat) (l : List C) (i : Nat), i < n → (chk wd n l)[i]? = some ((l.drop (i * wd)).take wd)
  | 0, _, _, h => by omega
  | n + 1, l, 0, _ => by simp [chk]
  | n + 1, l, i + 1, h => by
    simp only [chk, List.getElem?_cons_succ]
    rw [ZgF wd n _ i (by omega), List.drop_drop]
    congr 3
    rw [Nat.succ_mul]; omega
theorem Zi6 {wd n : Nat} {l : List C} {i j : Nat} {r : List C} {c : C} (h1 : (chk wd n l)[i]? = some r) (h2 : r[j]? = some c) : i < n ∧ j < wd ∧ l[i * wd + j]? = some c := by
  have hi : i < n := by have := (List.getElem?_eq_some_iff.1 h1).1; rwa [Zbf] at this
  rw [ZgF wd n l i hi] at h1
  cases h1
  rw [List.getElem?_take] at h2
  split at h2
  · rename_i hj
    rw [List.getElem?_drop] at h2
    exact ⟨hi, hj, h2⟩
  · cases h2
theorem Zmi {wd n : Nat} {l : List C} (h : n * wd ≤ l.length) : ∀ r ∈ chk wd n l, r.length = wd := by
  intro r hr
  obtain ⟨i, hi⟩ := List.getElem?_of_mem hr
  have hin : i < n := by have := (List.getElem?_eq_some_iff.1 hi).1; rwa [Zbf] at this
  rw [ZgF wd n l i hin] at hi
  cases hi
  have : (i + 1) * wd ≤ n * wd := Nat.mul_le_mul_right _ hin
  rw [Nat.succ_mul] at this
  simp; omega
theorem Zc4 {α : Type} {wd : Nat} : ∀ (rows : List (List α)), (∀ r ∈ rows, r.length = wd) → rows.flatten.length = rows.length * wd ∧ ∀ i j, i < rows.length → j < wd → rows.flatten[i * wd + j]? = (rows[i]?).bind fun r => r[j]?
  | [], _ => by simp
  | r :: l, h => by
    obtain ⟨h1, h2⟩ := Zc4 l fun r hr => h r (List.mem_cons_of_mem _ hr)
    have hr := h r (by simp)
    refine ⟨by simp [h1, hr, Nat.succ_mul]; omega, fun i j hi hj => ?_⟩
    cases i with
    | zero =>
      simp only [Nat.zero_mul, Nat.zero_add, List.flatten_cons, List.getElem?_cons_zero, Option.bind_some]
      rw [List.getElem?_append_left (by omega)]
    | succ i =>
      simp only [List.flatten_cons, List.getElem?_cons_succ]
      rw [List.getElem?_append_right (by rw [hr, Nat.succ_mul]; omega), hr]
      have e : (i + 1) * wd + j - wd = i * wd + j := by rw [Nat.succ_mul]; omega
      rw [e]
      exact h2 i j (by simpa using hi) hj
theorem Rel.rechunk (h : Rel w0 own γ st a w) {k : Nat} {R R' : Root} (hk : st.store k = some R) (ht : R'.tag = R.tag) (h0 : R.rows = [] → R'.rows = []) (hw : (∀ r ∈ R.rows, r.length = R.wd) → ∀ r ∈ R'.rows, r.length = R'.wd) (hl : (∀ r ∈ R.rows, r.length = R.wd) → R'.rows.length * R'.wd ≤ R.rows.length * R.wd)
    (hc : (∀ r ∈ R.rows, r.length = R.wd) → ∀ (i j : Nat) r c, R'.rows[i]? = some r → r[j]? = some c → c.flat = true ∧ ∃ i0 j0 r0, R.rows[i0]? = some r0 ∧ r0[j0]? = some c ∧ i0 * R.wd + j0 = i * R'.wd + j) :
    Rel w0 own γ { st with store := fun i => if i = k then some R' else st.store i } a w := by
  have hst : ∀ k' R0, (if k' = k then some R' else st.store k') = some R0 → ∃ R1, st.store k' = some R1 ∧ R0.tag = R1.tag := by
    intro k' R0 h'
    split at h'
    · rename_i e; subst e; cases h'; exact ⟨R, hk, ht⟩
    · exact ⟨R0, h', rfl⟩
  refine { env := h.env, size := h.size, defers := h.defers, tmps := h.tmps, ghost := h.ghost, gen := h.gen, tag := fun k' R0 h' => ?_, mem := fun k' R0 h' => ?_, inj := fun k1 R1 k2 R2 b h1 h2 h3 h4 => ?_, rootF := fun k' R0 b h1 h2 => ?_, fpF := h.fpF, fpD := h.fpD, fs := h.fs, lt := h.lt, ltβ := h.ltβ }
  · obtain ⟨R1, g, e⟩ := hst k' R0 h'
    rw [e]; exact h.tag k' R1 g
  · simp only at h'
    split at h'
    · rename_i e; subst e; cases h'
      have hm := h.mem k' R hk
      unfold RootOK at hm ⊢
      rw [ht]
      cases hb : γ.β k' R.tag with
      | none => rw [hb] at hm; exact h0 hm
      | some b =>
        rw [hb] at hm
        obtain ⟨arr, E, q1, q2, q3, q4⟩ := hm
        refine ⟨arr, E, q1, hw q2, Nat.le_trans (hl q2) q3, fun i j r c hr hcc => ?_⟩
        obtain ⟨hf, i0, j0, r0, g1, g2, g3⟩ := hc q2 i j r c hr hcc
        have := q4 i0 j0 r0 c g1 g2
        rw [g3] at this
        have hcr : CR γ w (arr.getD (i * R'.wd + j) undef) c := by
          unfold SR at this
          split at this
          · simp [C.flat] at hf
          · exact this
        exact SR.of_CR hcr hf
    · exact h.mem k' R0 h'
  · obtain ⟨Ra, g1, e1⟩ := hst k1 R1 h1
    obtain ⟨Rb, g2, e2⟩ := hst k2 R2 h2
    rw [e1] at h3; rw [e2] at h4
    exact h.inj k1 Ra k2 Rb b g1 g2 h3 h4
  · obtain ⟨R1, g0, e⟩ := hst k' R0 h1
    rw [e] at h2
    exact h.rootF k' R1 b g0 h2
theorem SR.flat {v : Value} {c : C} {S : Nat → Prop} (h : SR γ w v c S) (hf : c.flat = true) : CR γ w v c := by
  unfold SR at h
  split at h
  · simp [C.flat] at hf
  · exact h
def srcC (st : St) (wd : Nat) (y : A) : Option (Nat × List C) :=
  match y with
  | .c (.d (.s t z rows _)) => if z = wd then some (rows.length, (rows.map fun r => r.map (D.under t)).flatten) else none
  | .c (.d (.v (.slice none 0 0))) => some (0, [])
  | .c (.rs k g wd' 0 len _) => (st.store k).bind fun R => match R.rows with
    | [row] => if R.tag = g ∧ wd' = wd ∧ len * wd ≤ row.length then some (len, row.take (len * wd)) else none
    | _ => none
  | _ => none
theorem ZeS (hR : Rel w0 own γ st a w) {wd : Nat} {y : A} {v : Value} {m : Nat} {cs : List C} (hv : AR γ w v y) (h : srcC st wd y = some (m, cs)) (hok : ZbB cs = true) : cs.length = m * wd ∧ ∃ vs, LaidC γ w wd v (chk wd m cs) vs := by
  unfold srcC at h
  split at h
  · rename_i t z rows sp
    split at h
    · rename_i hz
      subst hz
      simp only [Option.some.injEq, Prod.mk.injEq] at h
      obtain ⟨rfl, rfl⟩ := h
      have hd := hv.d_inv
      cases hd with
      | e A _ _ cap => exact ⟨by simp, fun _ _ => undef, ⟨⟨A, cap, rfl, fun i j hi => by simp [chk] at hi⟩, by simp [chk], by simp [chk]⟩⟩
      | s _ _ _ b off cap _ vs hb hr hl hc hd =>
        have hr' : ∀ r ∈ rows.map fun r => r.map (D.under t), r.length = z := fun r hrm => by
          obtain ⟨r0, h0, rfl⟩ := List.mem_map.1 hrm
          simpa using hr r0 (List.mem_append_left _ h0)
        obtain ⟨f1, f2⟩ := Zc4 _ hr'
        rw [List.length_map] at f1
        refine ⟨f1, vs, ⟨⟨_, cap, by rw [Zbf], fun i j hi hj => ⟨b, off, rfl, hc i j (by rw [Zbf] at hi; omega) hj⟩⟩, Zmi (by omega), fun i j r c h1 h2 => ?_⟩⟩
        obtain ⟨hi, hj, hcc⟩ := Zi6 h1 h2
        obtain ⟨c1, c2⟩ := Zbv hok hcc
        rw [f2 i j (by simpa using hi) hj, List.getElem?_map, List.getElem?_eq_getElem hi] at hcc
        simp only [Option.map_some, Option.bind_some, List.getElem?_map] at hcc
        obtain ⟨d, hd1, rfl⟩ := Option.map_eq_some_iff.1 hcc
        have hi' : (rows ++ sp)[i]? = some rows[i] := by rw [List.getElem?_append_left hi, List.getElem?_eq_getElem hi]
        have h9 : CR γ w (vs i j) (d.under t) := DR.under (hd i j _ d hi' hd1)
        exact ⟨h9, c1, (h9.one c2).2⟩
    · cases h
  · simp only [Option.some.injEq, Prod.mk.injEq] at h
    obtain ⟨rfl, rfl⟩ := h
    have hd := (AR.sc_inv (show AR γ w v (sc (.slice none 0 0)) from hv)).1
    subst hd
    exact ⟨by simp, fun _ _ => undef, ⟨⟨none, 0, rfl, fun i j hi => by simp [chk] at hi⟩, by simp [chk], by simp [chk]⟩⟩
  · rename_i k g wd' len kn
    obtain ⟨R, hk, h9⟩ := Option.bind_eq_some_iff.1 h
    clear h
    split at h9
    · rename_i row hrow
      split at h9
      · rename_i hc
        obtain ⟨e1, e2, hle⟩ := hc
        subst e1 e2
        simp only [Option.some.injEq, Prod.mk.injEq] at h9
        obtain ⟨rfl, rfl⟩ := h9
        have hlen : (row.take (len * wd')).length = len * wd' := by simp; omega
        refine ⟨hlen, ?_⟩
        have hm := hR.mem k R hk
        unfold RootOK at hm
        rcases hv.rs_inv with ⟨cap, b, E, n, rfl, hβ, hg, hsh, hcap, hlc, hkn⟩ | ⟨⟨A, rfl⟩, _, rfl, rfl, hβ, hg⟩
        · rw [hβ] at hm
          obtain ⟨arr, E', harr, hw, hsz, hcell⟩ := hm
          have hrl : row.length = R.wd := hw row (by rw [hrow]; simp)
          rw [hrow] at hsz hcell
          simp only [List.length_singleton, Nat.one_mul] at hsz
          refine ⟨fun i j => arr.getD (i * wd' + j) undef, ⟨⟨some ⟨b, 0 * wd', none⟩, cap, by rw [Zbf], fun i j hi hj => ⟨b, _, rfl, ?_⟩⟩, Zmi (by omega), fun i j r c h1 h2 => ?_⟩⟩
          · rw [Zbf] at hi
            have hpos : i * wd' + j < arr.size := Nat.lt_of_lt_of_le (Zbc hi hj) (by omega)
            simp [World.cell?, harr, hpos]
          · obtain ⟨hi, hj, hcc⟩ := Zi6 h1 h2
            obtain ⟨c1, c2⟩ := Zbv hok hcc
            rw [List.getElem?_take, if_pos (Zbc hi hj)] at hcc
            have := (hcell 0 (i * wd' + j) row c rfl hcc).flat c1
            rw [Nat.zero_mul, Nat.zero_add] at this
            exact ⟨this, c1, (this.one c2).2⟩
        · exact ⟨fun _ _ => undef, ⟨⟨A, 0, by rw [Zbf], fun i j hi => by simp [chk] at hi⟩, by simp [chk], by simp [chk]⟩⟩
      · cases h9
    · cases h9
  · cases h
end

section
open Go
variable {P : Program} {w0 : World} {own : Nat → Prop} {γ : Gh} {st : St} {a : Act} {w : World} {o : Oper} {x : X} {ops : Array Oper}
def Zth (R : Root) (wd len : Nat) (bs : List C) : Prop := (len = 0 ∧ bs = []) ∨ ∃ row, R.rows = [row] ∧ len * wd ≤ row.length ∧ bs = row.take (len * wd)
theorem Zhv (hR : Rel w0 own γ st a w) {t tx ty e e' : TypeId} {k len kn wd m : Nat} {R : Root} {i : TypeInfo} {z : Value} {v u : Value} {bs cs : List C} {vs : Nat → Nat → Value} (hk : st.store k = some R) (hb0 : Zth R wd len bs) (hbok : bs.all C.flat = true) (hcok : cs.all C.flat = true)
    (hv : CR γ w v (.rs k R.tag wd 0 len kn)) (ht : P.underlying t = some (.slice e)) (htx : P.underlying tx = some (.slice e')) (hi : P.info? e = some i) (hsz : i.size = wd) (h0 : 0 < wd) (hz : i.zero = some z) (hzs : z.cells.size = wd)
    (hcl : cs.length = m * wd) (hu : LaidC γ w wd u (chk wd m cs) vs) (hb : (len + m) * i.bytes ≤ 140737488355328) (h63 : len + m ≤ 9223372036854775807) :
    ∃ γ' w' v', (Builtin.append_ #[t, tx] ty #[v, u]).run P w = .ok v' w' ∧ γ.le γ' ∧ Rel w0 own γ' (match len + m with | 0 => st.root k false wd [] | _ + 1 => st.root k true ((len + m) * wd) [bs ++ cs]) a w' ∧ CR γ' w' v' (.rs k (st.gen k + 1) wd 0 (len + m) (len + m)) := by
  have hbl : bs.length = len * wd := by
    rcases hb0 with ⟨rfl, rfl⟩ | ⟨row, _, h1, rfl⟩
    · simp
    · simp; omega
  have hR1 := hR.rechunk (R' := ⟨R.tag, false, wd, chk wd len bs⟩) hk rfl (fun e0 => by
      rcases hb0 with ⟨rfl, rfl⟩ | ⟨row, h1, _, _⟩
      · rfl
      · rw [h1] at e0; cases e0) (fun _ => Zmi (by omega)) (fun hw => by
      simp only [Zbf]
      rcases hb0 with ⟨rfl, rfl⟩ | ⟨row, h1, h2, _⟩
      · simp
      · have := hw row (by rw [h1]; simp)
        rw [h1]; simp; omega) (fun hw i' j r c h1 h2 => by
      obtain ⟨q1, q2, q3⟩ := Zi6 h1 h2
      refine ⟨List.all_eq_true.1 hbok c (List.mem_of_getElem? q3), ?_⟩
      rcases hb0 with ⟨rfl, rfl⟩ | ⟨row, h3, h4, rfl⟩
      · omega
      · refine ⟨0, i' * wd + j, row, by rw [h3]; rfl, ?_, by simp⟩
        rw [List.getElem?_take, if_pos (Zbc q1 q2)] at q3
        exact q3)
  obtain ⟨γ', w', v', h1, h2, h3, h4⟩ := ZdI (P := P) (ty := ty) (k := k) (len := len) (kn := kn) (R := ⟨R.tag, false, wd, chk wd len bs⟩) hR1 (by simp) rfl (by rw [Zbf]; exact Nat.le_refl _) hv ht htx hi hsz h0 hz hzs hu (by rw [Zbf]; exact hb) (by rw [Zbf]; exact h63)
  rw [Zbf] at h4
  have hrows : (chk wd len bs).take len = chk wd len bs := List.take_of_length_le (by rw [Zbf]; exact Nat.le_refl _)
  simp only [hrows] at h3
  refine ⟨γ', w', v', h1, h2, ?_, h4⟩
  have h5 := h3.rechunk (k := k) (R := ⟨st.gen k + 1, false, wd, chk wd len bs ++ chk wd m cs⟩) (R' := ⟨st.gen k + 1, true, (len + m) * wd, [bs ++ cs]⟩) (by simp [St.root]) rfl
  have hlen : (bs ++ cs).length = (len + m) * wd := by rw [List.length_append, hbl, hcl, Nat.add_mul]
  rcases Nat.eq_zero_or_pos (len + m) with hz0 | hpos
  · have e1 : len = 0 := by omega
    have e2 : m = 0 := by omega
    subst e1 e2
    have e : (St.root { st with store := fun i' => if i' = k then some ⟨R.tag, false, wd, chk wd 0 bs⟩ else st.store i' } k false wd (chk wd 0 bs ++ chk wd 0 cs)) = st.root k false wd [] := by
      simp only [St.root]
      congr 1
      funext i'
      by_cases hi : i' = k <;> simp [hi, chk]
    rw [e] at h3
    exact h3
  · have h6 := h5 (fun e0 => by
        have := congrArg List.length e0
        simp only [List.length_append, Zbf, List.length_nil] at this
        omega) (fun _ r hr => by
        rw [List.mem_singleton.1 hr]; exact hlen) (fun _ => by
        simp only [List.length_append, Zbf, List.length_singleton, Nat.one_mul]; exact Nat.le_refl _) (fun _ i' j r c g1 g2 => by
        cases i' with
        | succ i' => simp at g1
        | zero =>
          simp only [List.getElem?_cons_zero, Option.some.injEq] at g1
          subst g1
          have hj : j < (len + m) * wd := by rw [← hlen]; exact (List.getElem?_eq_some_iff.1 g2).1
          obtain ⟨a1, a2, a3⟩ := Zbx h0 hj
          refine ⟨?_, j / wd, j % wd, ?_⟩
          · rcases List.mem_append.1 (List.mem_of_getElem? g2) with hm | hm
            · exact List.all_eq_true.1 hbok c hm
            · exact List.all_eq_true.1 hcok c hm
          · by_cases hq : j / wd < len
            · have hjl : j < len * wd := (Nat.div_lt_iff_lt_mul h0).1 hq
              refine ⟨_, by rw [List.getElem?_append_left (by rw [Zbf]; exact hq), ZgF wd len bs _ hq], ?_, by simp [a3]⟩
              rw [List.getElem?_take, if_pos a2, List.getElem?_drop, a3]
              rw [List.getElem?_append_left (by omega)] at g2
              exact g2
            · have hjl : len * wd ≤ j := by
                rcases Nat.lt_or_ge j (len * wd) with h' | h'
                · exact (hq ((Nat.div_lt_iff_lt_mul h0).2 h')).elim
                · exact h'
              refine ⟨_, by rw [List.getElem?_append_right (by rw [Zbf]; omega), Zbf, ZgF wd m cs _ (by omega)], ?_, by simp [a3]⟩
              rw [List.getElem?_take, if_pos a2, List.getElem?_drop]
              have e9 : (j / wd - len) * wd + j % wd = j - len * wd := by
                rw [Nat.sub_mul]
                have : len * wd ≤ j / wd * wd := Nat.mul_le_mul_right _ (by omega)
                omega
              rw [e9]
              rw [List.getElem?_append_right (by omega), hbl] at g2
              exact g2)
    have e : ({ (St.root { st with store := fun i' => if i' = k then some ⟨R.tag, false, wd, chk wd len bs⟩ else st.store i' } k false wd (chk wd len bs ++ chk wd m cs)) with store := fun i' => if i' = k then some ⟨st.gen k + 1, true, (len + m) * wd, [bs ++ cs]⟩ else (St.root { st with store := fun i' => if i' = k then some ⟨R.tag, false, wd, chk wd len bs⟩ else st.store i' } k false wd (chk wd len bs ++ chk wd m cs)).store i' } : St) = st.root k true ((len + m) * wd) [bs ++ cs] := by
      simp only [St.root]
      congr 1
      funext i'
      by_cases hi : i' = k <;> simp [hi]
    rw [e] at h6
    obtain ⟨q, hq⟩ := Nat.exists_eq_succ_of_ne_zero (Nat.pos_iff_ne_zero.1 hpos)
    rw [hq] at h6 ⊢
    exact h6
end

section
open Go
variable {P : Program} {w0 : World} {own : Nat → Prop} {γ : Gh} {st : St} {a : Act} {w : World} {o : Oper} {x : X} {ops : Array Oper}
def ZeN (g wd n : Nat) (cells : List C) : XRoot := match n with | 0 => .sl g wd [] | _ + 1 => .bx g (n * wd) cells
theorem ZhH (st : St) (k wd n : Nat) (cells : List C) : (match n with | 0 => st.root k false wd [] | _ + 1 => st.root k true (n * wd) [cells]) = st.patch ⟨none, .dead, [(k, some (ZeN (st.gen k + 1) wd n cells).root, st.gen k + 1)]⟩ := by
  cases n with
  | zero =>
    simp only [St.root, St.patch, Za4, ZeN, XRoot.root, emb]
    congr 1
    · funext i; by_cases hi : i = k <;> simp [hi]
    · funext i; by_cases hi : i = k <;> simp [hi]
  | succ n =>
    simp only [St.root, St.patch, Za4, ZeN, XRoot.root]
    congr 1
    · funext i; by_cases hi : i = k <;> simp [hi]
    · funext i; by_cases hi : i = k <;> simp [hi]
theorem ZnF {y z : Operand} {t tx e e' : TypeId} {k g len kn wd m : Nat} {R : Root} {i : TypeInfo} {zv : Value} {bs cs : List C} (hd : st.fits o.dst = true) (ho : o.op = .call { callee := .builtin .append, args := #[y, z], argTypes := #[t, tx] })
    (hy : (evA st y).wk = .c (.rs k g wd 0 len kn)) (hk : st.store k = some R) (hg : R.tag = g) (hb0 : Zth R wd len bs) (hbok : bs.all C.flat = true) (hcok : ZbB cs = true) (ht : P.underlying t = some (.slice e)) (htx : P.underlying tx = some (.slice e')) (hi : P.info? e = some i) (hsz : i.size = wd) (h0 : 0 < wd) (hz : i.zero = some zv) (hzs : zv.cells.size = wd)
    (hu : srcC st wd (evA st z) = some (m, cs)) (hb : (len + m) * i.bytes ≤ 140737488355328) (h63 : len + m ≤ 9223372036854775807) :
    OpOK P w0 own o st (st.patch ⟨o.dst, .c (.rs k (st.gen k + 1) wd 0 (len + m) (len + m)), [(k, some (ZeN (st.gen k + 1) wd (len + m) (bs ++ cs)).root, st.gen k + 1)]⟩) := by
  have e : (st.patch ⟨none, .dead, [(k, some (ZeN (st.gen k + 1) wd (len + m) (bs ++ cs)).root, st.gen k + 1)]⟩).put o.dst (.c (.rs k (st.gen k + 1) wd 0 (len + m) (len + m))) = st.patch ⟨o.dst, .c (.rs k (st.gen k + 1) wd 0 (len + m) (len + m)), [(k, some (ZeN (st.gen k + 1) wd (len + m) (bs ++ cs)).root, st.gen k + 1)]⟩ := by
    rw [ZbC]
    simp only [St.patch, Za4]
    congr 1
  rw [← e, ← ZhH]
  refine .value (by generalize len + m = q; cases q <;> cases h : o.dst <;> simp_all [St.fits, St.root]) fun γ a w hR => ?_
  subst hg
  have hv := (hR.ev y).wk
  rw [hy] at hv
  obtain ⟨hcl, vs, hL⟩ := ZeS hR (hR.ev z) hu hcok
  have hv' : CR γ w (a.eval y) (.rs k R.tag wd 0 len kn) := hv.one rfl
  have hcf : cs.all C.flat = true := by
    rw [List.all_eq_true]
    intro c hc
    obtain ⟨q, hq⟩ := List.getElem?_of_mem hc
    exact (Zbv hcok hq).1
  obtain ⟨γ', w', v', h1, h2, h3, h4⟩ := Zhv (P := P) (ty := o.type) hR hk hb0 hbok hcf hv' ht htx hi hsz h0 hz hzs hcl hL hb h63
  refine ⟨γ', w', v', ?_, h2, h3, .c _ _ h4⟩
  unfold execOp
  rw [ho]
  simp only [resolve, Sem.run_bind]
  have e3 : (#[y, z] : Array Operand).map a.eval = #[a.eval y, a.eval z] := by simp
  rw [e3]
  simp only [Sem.run_pure, Result.andThen_ok, invoke, builtin, Sem.run_bind, h1]
theorem ZiD {y z : Operand} {t tx e e' : TypeId} (k : Nat) {wd m : Nat} {i : TypeInfo} {zv : Value} {cs : List C} (hd : st.fits o.dst = true) (ho : o.op = .call { callee := .builtin .append, args := #[y, z], argTypes := #[t, tx] })
    (hy : (evA st y).wk = .c (.d (.v (.slice none 0 0)))) (hcok : ZbB cs = true) (ht : P.underlying t = some (.slice e)) (htx : P.underlying tx = some (.slice e')) (hi : P.info? e = some i) (hsz : i.size = wd) (h0 : 0 < wd) (hz : i.zero = some zv) (hzs : zv.cells.size = wd)
    (hu : srcC st wd (evA st z) = some (m, cs)) (hb : m * i.bytes ≤ 140737488355328) (h63 : m ≤ 9223372036854775807) :
    OpOK P w0 own o st (st.patch ⟨o.dst, .c (.rs k (st.gen k + 2) wd 0 m m), [(k, some (ZeN (st.gen k + 2) wd m cs).root, st.gen k + 2)]⟩) := by
  have e : (st.patch ⟨none, .dead, [(k, some (ZeN (st.gen k + 2) wd m cs).root, st.gen k + 2)]⟩).put o.dst (.c (.rs k (st.gen k + 2) wd 0 m m)) = st.patch ⟨o.dst, .c (.rs k (st.gen k + 2) wd 0 m m), [(k, some (ZeN (st.gen k + 2) wd m cs).root, st.gen k + 2)]⟩ := by
    rw [ZbC]
    simp only [St.patch, Za4]
    congr 1
  rw [← e]
  refine .value (by cases h : o.dst <;> simp_all [St.fits, St.patch]) fun γ a w hR => ?_
  have hv := (hR.ev y).wk
  rw [hy] at hv
  have en := (AR.sc_inv (show AR γ w (a.eval y) (sc (.slice none 0 0)) from by
    generalize evA st y = yy at hy hv
    exact hv)).1
  obtain ⟨hcl, vs, hL⟩ := ZeS hR (hR.ev z) hu hcok
  obtain ⟨γ1, g1, g2, g3⟩ := hR.empty k wd
  have hL' : LaidC γ1 w wd (a.eval z) (chk wd m cs) vs := ⟨hL.val, hL.wid, fun i j r c h1 h2 => by
    obtain ⟨q1, q2, q3⟩ := hL.get i j r c h1 h2
    exact ⟨q1.mono g1 (Same.refl _ _) (.refl _), q2, q3⟩⟩
  have hk : (st.root k false wd []).store k = some ⟨st.gen k + 1, false, wd, []⟩ := by simp [St.root]
  have hcf : cs.all C.flat = true := by
    rw [List.all_eq_true]
    intro c hc
    obtain ⟨q, hq⟩ := List.getElem?_of_mem hc
    exact (Zbv hcok hq).1
  obtain ⟨γ', w', v', h1, h2, h3, h4⟩ := Zhv (P := P) (ty := o.type) (k := k) (len := 0) (kn := 0) (bs := []) g2 hk (.inl ⟨rfl, rfl⟩) rfl hcf (g3 none) ht htx hi hsz h0 hz hzs hcl hL' (by simpa using hb) (by simpa using h63)
  have h3 : Rel w0 own γ' ((st.root k false wd []).patch ⟨none, .dead, [(k, some (ZeN ((st.root k false wd []).gen k + 1) wd (0 + m) ([] ++ cs)).root, (st.root k false wd []).gen k + 1)]⟩) a w' := by
    rw [← ZhH]; exact h3
  simp only [Nat.zero_add, List.nil_append] at h3 h4
  refine ⟨γ', w', v', ?_, Gh.le_trans g1 h2, ?_, .c _ _ (by simpa [St.root] using h4)⟩
  · unfold execOp
    rw [ho]
    simp only [resolve, Sem.run_bind]
    have e3 : (#[y, z] : Array Operand).map a.eval = #[.slice none 0 0, a.eval z] := by simp [en]
    rw [e3]
    simp only [Sem.run_pure, Result.andThen_ok, invoke, builtin, Sem.run_bind, h1]
  · have eg : (st.root k false wd []).gen k = st.gen k + 1 := by simp [St.root]
    rw [eg] at h3
    have e2 : (st.root k false wd []).patch ⟨none, .dead, [(k, some (ZeN (st.gen k + 1 + 1) wd m cs).root, st.gen k + 1 + 1)]⟩ = st.patch ⟨none, .dead, [(k, some (ZeN (st.gen k + 2) wd m cs).root, st.gen k + 2)]⟩ := by
      simp only [St.root, St.patch, Za4]
      congr 1
      · funext j; by_cases hj : j = k <;> simp [hj]
      · funext j; by_cases hj : j = k <;> simp [hj]
    rw [e2] at h3
    exact h3
end

section
open Go
variable {P : Program} {w0 : World} {own : Nat → Prop} {γ : Gh} {st : St} {a : Act} {w : World} {o : Oper} {x : X} {ops : Array Oper}
def undA (t : Nat) (tl : List C) : List D → (List C → Prop) → Prop
  | [], K => K tl
  | d :: l, K => undA t tl l fun r => match d with
    | .v v => K (.d (.v v) :: r)
    | .s q z rows sp => K (D.under t (.s q z rows sp) :: r)
    | d => K (D.under t d :: r)
theorem ZkE {t : Nat} {tl : List C} : ∀ (l : List D) (K : List C → Prop), undA t tl l K → K (l.map (D.under t) ++ tl)
  | [], K, h => h
  | d :: l, K, h => by
    unfold undA at h
    have := ZkE l _ h
    cases d <;> exact this
def Zsr (t : Nat) : List (List D) → (List C → Prop) → Prop
  | [], K => K []
  | r :: l, K => Zsr t l fun tl => undA t tl r K
theorem Zhu {t : Nat} : ∀ (l : List (List D)) (K : List C → Prop), Zsr t l K → K (l.map fun r => r.map (D.under t)).flatten
  | [], K, h => h
  | r :: l, K, h => ZkE r _ (Zhu l _ h)
def appK (tl : List C) : List C → (List C → Prop) → Prop
  | [], K => K tl
  | c :: l, K => appK tl l fun r => K (c :: r)
theorem ZkW {tl : List C} : ∀ (l : List C) (K : List C → Prop), appK tl l K → K (l ++ tl)
  | [], K, h => h
  | c :: l, K, h => ZkW l _ h
def Zn6 : Nat → List C → (List C → Prop) → Prop
  | 0, _, K => K []
  | _ + 1, [], K => K []
  | n + 1, c :: l, K => Zn6 n l fun r => K (c :: r)
theorem Zfd : ∀ (n : Nat) (l : List C) (K : List C → Prop), Zn6 n l K → K (l.take n)
  | 0, _, _, h => by simpa [Zn6] using h
  | _ + 1, [], _, h => by simpa [Zn6] using h
  | n + 1, c :: l, K, h => by simpa using Zfd n l _ h
def ZqY (x : X) (wd : Nat) (y : A) (K : List Nat → Nat → List C → Prop) : Prop :=
  match y with
  | .c (.d (.s t z rows _)) => match Nat.beq z wd with
    | true => Zsr t rows fun cs => K [] rows.length cs
    | false => False
  | .c (.d (.v (.slice none 0 0))) => K [] 0 []
  | .c (.rs k g wd' lo len _) => match Zar x.store k with
    | some (.bx tg _ row) => match Nat.beq lo 0 && (Nat.beq tg g && (Nat.beq wd' wd && Nat.ble (len * wd) row.length)) with
      | true => Zn6 (len * wd) row fun cs => K [k] len cs
      | false => False
    | _ => False
  | _ => False
theorem ZhG {wd : Nat} {y : A} {K : List Nat → Nat → List C → Prop} (h : ZqY x wd y K) : ∃ Ks m cs, K Ks m cs ∧ ∀ st', (∀ k ∈ Ks, st'.store k = x.S.store k) → srcC st' wd y = some (m, cs) := by
  unfold ZqY at h
  split at h
  · split at h
    · rename_i hz
      have := Zaa hz; subst this
      exact ⟨_, _, _, Zhu _ _ h, fun st' _ => by simp [srcC]⟩
    · exact h.elim
  · exact ⟨_, _, _, h, fun st' _ => rfl⟩
  · rename_i k g wd' lo len kn
    split at h
    · rename_i tg wb row hk
      split at h
      · rename_i hc
        simp only [Bool.and_eq_true] at hc
        obtain ⟨c0, c1, c2, c3⟩ := hc
        have c0 := Zaa c0
        have c1 := Zaa c1
        have c2 := Zaa c2
        have c3 := Nat.le_of_ble_eq_true c3
        subst c0 c1 c2
        refine ⟨_, _, _, Zfd _ _ _ h, fun st' hst => ?_⟩
        have := (hst k (by simp)).trans (ZcJ hk)
        simp only [srcC, this, XRoot.root, Option.bind_some]
        simp [c3]
      · exact h.elim
    · exact h.elim
  · exact h.elim
def Zs2 (R : XRoot) (g wd len : Nat) (K : List C → Prop) : Prop :=
  match R with
  | .bx tg _ row => match Nat.beq tg g && Nat.ble (len * wd) row.length with
    | true => Zn6 (len * wd) row K
    | false => False
  | .sl tg _ _ => match Nat.beq tg g && Nat.beq len 0 with | true => K [] | false => False
  | .fo _ _ _ _ _ => False
theorem ZnV {R : XRoot} {g wd len : Nat} {K : List C → Prop} (h : Zs2 R g wd len K) : R.root.tag = g ∧ ∃ bs, Zth R.root wd len bs ∧ K bs := by
  unfold Zs2 at h
  split at h
  · rename_i tg wb row
    split at h
    · rename_i hc
      simp only [Bool.and_eq_true] at hc
      exact ⟨Zaa hc.1, _, .inr ⟨row, rfl, Nat.le_of_ble_eq_true hc.2, rfl⟩, Zfd _ _ _ h⟩
    · exact h.elim
  · split at h
    · rename_i hc
      simp only [Bool.and_eq_true] at hc
      exact ⟨Zaa hc.1, [], .inl ⟨Zaa hc.2, rfl⟩, h⟩
    · exact h.elim
  · exact h.elim
def ZgD (P : Program) (o : Oper) (x : X) (args : Array Operand) (tys : Array TypeId) (K : KO) : Prop :=
  match args.toList, tys.toList with
  | [y, z], [t, tx] => match elT P t, elT P tx with
    | some e, some _ => match ZgO P e with
      | some (0, _) => False
      | some (wd + 1, bytes) => ZqY x (wd + 1) (evA x.S z) fun Ks m cs => match ZbB cs with
        | true => match (evA x.S y).wk with
          | .c (.rs k g wd' lo len kn) => match Zar x.store k with
            | some R => match Nat.beq lo 0 && Nat.beq wd' (wd + 1) with
              | true => Zs2 R g (wd + 1) len fun bs => match bs.all C.flat && (Nat.ble ((len + m) * bytes) 140737488355328 && Nat.ble (len + m) 9223372036854775807) with
                | true => appK cs bs fun r => K (k :: Ks) ⟨.c (.rs k (x.gen k + 1) (wd + 1) 0 (len + m) (len + m)), [(k, some (ZeN (x.gen k + 1) (wd + 1) (len + m) r), x.gen k + 1)]⟩ x
                | false => False
              | false => False
            | none => False
          | .c (.d (.v (.slice none 0 0))) => match Nat.ble (m * bytes) 140737488355328 && Nat.ble m 9223372036854775807 with
            | true => K (x.freeO o :: Ks) ⟨.c (.rs (x.freeO o) (x.gen (x.freeO o) + 2) (wd + 1) 0 m m), [(x.freeO o, some (ZeN (x.gen (x.freeO o) + 2) (wd + 1) m cs), x.gen (x.freeO o) + 2)]⟩ x
            | false => False
          | _ => False
        | false => False
      | none => False
    | _, _ => False
  | _, _ => False
theorem Zgo {args : Array Operand} {tys : Array TypeId} (ho : o.op = .call { callee := .builtin .append, args := args, argTypes := tys }) : Za6 P o x (ZgD P o x args tys) := fun K h hd => by
  unfold ZgD at h
  split at h
  · rename_i y z t tx hy ht
    have e1 : args = #[y, z] := by apply Array.ext'; rw [hy]
    have e2 : tys = #[t, tx] := by apply Array.ext'; rw [ht]
    subst e1 e2
    split at h
    · rename_i e e' het hetx
      have het := ZbD het
      have hetx := ZbD hetx
      split at h
      · exact h.elim
      · rename_i wd bytes hst
        obtain ⟨i, zv, i1, i2, i3, i4, i5⟩ := Zcs hst
        obtain ⟨Ks, m, cs, h, hsrc⟩ := ZhG h
        have hopy : y ∈ o.op.operands.toList := by rw [ho]; simp [Op.operands, Call.operands]
        have hopz : z ∈ o.op.operands.toList := by rw [ho]; simp [Op.operands, Call.operands]
        split at h
        · rename_i hcok
          split at h
          · rename_i k g wd' lo len kn hey
            split at h
            · rename_i R hk
              split at h
              · rename_i hc
                simp only [Bool.and_eq_true] at hc
                obtain ⟨c0, c1⟩ := hc
                have c0 := Zaa c0
                have c1 := Zaa c1
                subst c0 c1
                obtain ⟨hg, bs, hbs, h⟩ := ZnV h
                split at h
                · rename_i hcc
                  simp only [Bool.and_eq_true] at hcc
                  obtain ⟨b1, b2, b3⟩ := hcc
                  have b2 := Nat.le_of_ble_eq_true b2
                  have b3 := Nat.le_of_ble_eq_true b3
                  have h := ZkW _ _ h
                  refine ⟨_, _, h, fun w0 own ops => .many (by simp) fun st' hal => ?_⟩
                  have hroot := (hal.store k (by simp)).trans (ZcJ hk)
                  have := ZnF (P := P) (w0 := w0) (own := own) (st := st') (R := R.root) (Zaf hal hd) ho (by rw [hal.ev hopy]; exact hey) hroot hg hbs b1 hcok het hetx i1 i2 (Nat.succ_pos _) i4 i5
                    (by rw [hal.ev hopz]; exact hsrc st' fun k' hk' => hal.store k' (by simp [hk'])) (by rw [i3]; exact b2) b3
                  rw [hal.gen k (by simp)] at this
                  exact this
                · exact h.elim
              · exact h.elim
            · exact h.elim
          · rename_i hey
            split at h
            · rename_i hcc
              simp only [Bool.and_eq_true] at hcc
              obtain ⟨b2, b3⟩ := hcc
              have b2 := Nat.le_of_ble_eq_true b2
              have b3 := Nat.le_of_ble_eq_true b3
              refine ⟨_, _, h, fun w0 own ops => .many (by simp) fun st' hal => ?_⟩
              have := ZiD (P := P) (w0 := w0) (own := own) (st := st') (x.freeO o) (Zaf hal hd) ho (by rw [hal.ev hopy]; exact hey) hcok het hetx i1 i2 (Nat.succ_pos _) i4 i5
                (by rw [hal.ev hopz]; exact hsrc st' fun k' hk' => hal.store k' (by simp [hk'])) (by rw [i3]; exact b2) b3
              rw [hal.gen (x.freeO o) (by simp)] at this
              exact this
            · exact h.elim
          · exact h.elim
        · exact h.elim
      · exact h.elim
    · exact h.elim
  · exact h.elim
def Zu7 (P : Program) (tys : Array TypeId) : Bool := match tys.toList with
  | t :: _ => match elT P t with
    | some e => (cellW P 9 e).any Option.isSome
    | none => false
  | [] => false
def Zgd (P : Program) (o : Oper) (x : X) (args : Array Operand) (tys : Array TypeId) (K : KO) : Prop :=
  match Zu7 P tys with
  | true => ZgD P o x args tys K
  | false => Zgq P o x args tys K
theorem Zhi {args : Array Operand} {tys : Array TypeId} (ho : o.op = .call { callee := .builtin .append, args := args, argTypes := tys }) : Za6 P o x (Zgd P o x args tys) := fun K h hd => by
  unfold Zgd at h
  split at h
  · exact Zgo ho K h hd
  · exact Zgy ho K h hd
end

section
open Go
variable {P : Program} {w0 : World} {own : Nat → Prop} {γ : Gh} {st : St} {a : Act} {w : World}
def frcN (n : Nat) (K : Nat → Prop) : Prop := match n with | 0 => K 0 | m + 1 => K (m + 1)
theorem Zbj {n : Nat} {K : Nat → Prop} (h : frcN n K) : K n := by unfold frcN at h; split at h <;> exact h
def D.isOwn : D → Bool
  | .s t _ _ _ => Nat.beq t 1
  | _ => false
def Zm2 (rows : List (List D)) : List C := rows.flatten.map C.d
def XRoot.unp : XRoot → XRoot
  | .bx t wd row => .bx t wd row
  | .sl t wd rows => match Nat.beq wd 17 with
    | true => match rows with
      | [] => .sl t wd []
      | r :: l => match (r :: l).all fun r => r.all fun d => !d.isOwn with
        | true => .bx t ((r :: l).length * wd) (Zm2 (r :: l))
        | false => .sl t wd (r :: l)
    | false => .sl t wd rows
  | .fo t wd rows i row => .fo t wd rows i row
def unpS : List (Nat × XRoot) → List (Nat × XRoot)
  | [] => []
  | (k, R) :: l => (k, R.unp) :: unpS l
def X.unp (x : X) : X := { x with store := unpS x.store }
theorem Zke : ∀ (l : List (Nat × XRoot)) (k : Nat), Zar (unpS l) k = (Zar l k).map XRoot.unp
  | [], k => rfl
  | (k', R0) :: l, k => by
    simp only [unpS, Zar]
    split
    · rfl
    · exact Zke l k
theorem Zmo (R : XRoot) : R.unp.root.tag = R.root.tag := by
  unfold XRoot.unp
  split
  · rfl
  · split
    · split
      · rfl
      · split <;> rfl
    · rfl
  · rfl
theorem Zn0 {d : D} (h : d.isOwn = false) : (C.d d).flat = true := by
  cases d with
  | s t z rows sp =>
    simp only [D.isOwn] at h
    have := Zbi h
    match t, this with
    | 0, _ => rfl
    | 1, h => exact (h rfl).elim
    | t + 2, _ => rfl
  | _ => rfl
theorem Zui {k : Nat} {R : XRoot} (h : RootOK γ w k R.root) : RootOK γ w k R.unp.root := by
  cases R with
  | bx t wd row => exact h
  | fo t wd rows i row => exact h
  | sl t wd rows =>
    simp only [XRoot.unp]
    split
    · split
      · exact h
      · rename_i r l
        split
        · rename_i hall
          unfold RootOK at h ⊢
          simp only [XRoot.root] at h ⊢
          split
          · rename_i e; rw [e] at h; simp [emb] at h
          · rename_i b e
            rw [e] at h
            obtain ⟨arr, E, q1, q2, q3, q4⟩ := h
            have hw : ∀ r' ∈ r :: l, r'.length = wd := fun r' hr' => by
              have := q2 (r'.map C.d) (List.mem_map.2 ⟨r', hr', rfl⟩)
              simpa using this
            obtain ⟨f1, f2⟩ := Zc4 _ hw
            have hlen : (Zm2 (r :: l)).length = (r :: l).length * wd := by simp only [Zm2, List.length_map]; exact f1
            refine ⟨arr, E, q1, ?_, ?_, ?_⟩
            · intro r' hr'
              rw [List.mem_singleton] at hr'
              rw [hr']; exact hlen
            · have : (emb (r :: l)).length = (r :: l).length := by simp [emb]
              rw [this] at q3
              simpa using q3
            · intro i j r' c hr' hc
              match i, hr' with
              | 0, hr' =>
                simp only [List.getElem?_cons_zero, Option.some.injEq] at hr'
                subst hr'
                have hj : j < (r :: l).length * wd := by rw [← hlen]; exact (List.getElem?_eq_some_iff.1 hc).1
                have hw0 : 0 < wd := by
                  rcases Nat.eq_zero_or_pos wd with e | e
                  · subst e; simp at hj
                  · exact e
                have hi : j / wd < (r :: l).length := Nat.div_lt_of_lt_mul (by rw [Nat.mul_comm]; exact hj)
                have hm : j % wd < wd := Nat.mod_lt _ hw0
                have hdm : j / wd * wd + j % wd = j := by rw [Nat.mul_comm]; exact Nat.div_add_mod j wd
                have hg := f2 (j / wd) (j % wd) hi hm
                rw [hdm] at hg
                simp only [Zm2, List.getElem?_map] at hc
                obtain ⟨d, hd, rfl⟩ := Option.map_eq_some_iff.1 hc
                rw [hg, Option.bind_eq_some_iff] at hd
                obtain ⟨r0, g1, g2⟩ := hd
                have h9 := q4 (j / wd) (j % wd) (r0.map C.d) (.d d) (by simp only [emb, List.getElem?_map, g1, Option.map_some]) (by simp only [List.getElem?_map, g2, Option.map_some])
                rw [hdm] at h9
                have hown : d.isOwn = false := by
                  have := List.all_eq_true.1 (List.all_eq_true.1 hall r0 (List.mem_of_getElem? g1)) d (List.mem_of_getElem? g2)
                  simpa using this
                have hfl := Zn0 hown
                rw [Nat.zero_mul, Nat.zero_add]
                exact SR.of_CR (h9.flat hfl) hfl
              | i + 1, hr' => simp at hr'
        · exact h
    · exact h
theorem Rel.unp {x : X} (h : Rel w0 own γ x.S a w) : Rel w0 own γ x.unp.S a w := by
  have old : ∀ k R, (x.unp.S).store k = some R → ∃ R0 : XRoot, x.S.store k = some R0.root ∧ R = R0.unp.root := by
    intro k R hk
    simp only [X.S, X.unp, Zke] at hk
    cases hl : Zar x.store k with
    | none => rw [hl] at hk; cases hk
    | some R0 =>
      rw [hl] at hk
      cases hk
      exact ⟨R0, by simp [X.S, hl], rfl⟩
  refine { env := h.env, size := h.size, defers := h.defers, tmps := h.tmps, ghost := h.ghost, gen := h.gen, tag := fun k R hk => ?_, mem := fun k R hk => ?_, inj := fun k R k' R' b hk hk' h1 h2 => ?_, rootF := fun k R b hk h1 => ?_, fpF := h.fpF, fpD := h.fpD, fs := h.fs, lt := h.lt, ltβ := h.ltβ }
  · obtain ⟨R0, h0, rfl⟩ := old k R hk
    rw [Zmo]; exact h.tag k _ h0
  · obtain ⟨R0, h0, rfl⟩ := old k R hk
    exact Zui (h.mem k _ h0)
  · obtain ⟨R0, h0, rfl⟩ := old k R hk
    obtain ⟨R0', h0', rfl⟩ := old k' R' hk'
    rw [Zmo] at h1 h2
    exact h.inj k _ k' _ b h0 h0' h1 h2
  · obtain ⟨R0, h0, rfl⟩ := old k R hk
    rw [Zmo] at h1
    exact h.rootF k _ b h0 h1
end

section
open Go
variable {P : Program} {w0 : World} {own : Nat → Prop} {γ : Gh} {st : St} {a : Act} {w : World}
structure SesD where
  id : Int
  lb : Int
  cl : Int
  pg : List (List D)
  st : Int
  pc : Int
  r0 : Int
  r1 : Int
  r2 : Int
  r3 : Int
  rd : List (List D)
  wt : List (List D)
  at' : Int
  sp : Int
  tr : Int
  rs : Int
  to : Int
structure StD where
  id : Int
  lb : Int
  cl : Int
  pg : List (List D)
abbrev vN (n : Int) : D := .v (.int .i64 n)
def sesL (t : Nat) (s : SesD) : List D := [vN s.id, vN s.lb, vN s.cl, .s t 4 s.pg [], vN s.st, vN s.pc, vN s.r0, vN s.r1, vN s.r2, vN s.r3, .s t 3 s.rd [], .s t 3 s.wt [], vN s.at', vN s.sp, vN s.tr, vN s.rs, vN s.to]
def staL (t : Nat) (s : StD) : List D := [vN s.id, vN s.lb, vN s.cl, .s t 4 s.pg []]
def Ze2 (rows : List (List D)) (i t : Nat) (s : SesD) : Prop := rows[i]? = some (sesL t s)
def Zd6 (rows : List (List D)) (i t : Nat) (s : StD) : Prop := rows[i]? = some (staL t s)
def rowF (sz : Nat) (rows : List (List D)) (i : Nat) (K : List D → Prop) : Prop :=
  match Nat.beq sz 17 with
  | true => ∃ s : SesD, Ze2 rows i 0 s ∧ K (sesL 0 s)
  | false => match Nat.beq sz 4 with
    | true => ∃ s : StD, Zd6 rows i 0 s ∧ K (staL 0 s)
    | false => False
theorem Zpk {sz : Nat} {rows : List (List D)} {i : Nat} {K : List D → Prop} (h : rowF sz rows i K) : ∃ r, rows[i]? = some r ∧ K r := by
  unfold rowF at h
  split at h
  · obtain ⟨s, h1, h2⟩ := h; exact ⟨_, h1, h2⟩
  · split at h
    · obtain ⟨s, h1, h2⟩ := h; exact ⟨_, h1, h2⟩
    · exact h.elim
def rsAt : List C → Nat → Option (Nat × Nat × Nat × Nat × Nat × Nat)
  | [], _ => none
  | .rs k g wd 0 len kn :: _, j => some (j, k, g, wd, len, kn)
  | _ :: l, j => rsAt l (j + 1)
theorem ZkJ : ∀ (l : List C) (j0 j k g wd len kn : Nat), rsAt l j0 = some (j, k, g, wd, len, kn) → j0 ≤ j ∧ l[j - j0]? = some (.rs k g wd 0 len kn)
  | [], _, _, _, _, _, _, _, h => by simp [rsAt] at h
  | c :: l, j0, j, k, g, wd, len, kn, h => by
    by_cases hc : ∃ k g wd len kn, c = .rs k g wd 0 len kn
    · obtain ⟨k', g', wd', len', kn', rfl⟩ := hc
      simp only [rsAt, Option.some.injEq, Prod.mk.injEq] at h
      obtain ⟨rfl, rfl, rfl, rfl, rfl, rfl⟩ := h
      simp
    · rw [rsAt.eq_3 _ _ _ (fun k g wd len kn e => hc ⟨k, g, wd, len, kn, e⟩)] at h
      obtain ⟨h1, h2⟩ := ZkJ l (j0 + 1) j k g wd len kn h
      refine ⟨by omega, ?_⟩
      have e : j - j0 = (j - (j0 + 1)) + 1 := by omega
      rw [e]; simpa using h2
def foIn : List (Nat × XRoot) → Option (Nat × XRoot)
  | [] => none
  | (k, .fo t wd rows i row) :: l => match rsAt row 0 with
    | some _ => some (k, .fo t wd rows i row)
    | none => foIn l
  | _ :: l => foIn l
def allK (rows : List (List D)) : Bool := rows.all fun r => r.all D.keeps
def whole (n : Nat) (rows : List (List D)) : Prop := n = rows.length ∧ allK rows = true
def X.settle (x : X) (K : X → Prop) : Prop :=
  match foIn x.store with
  | some (k, _) => match Zar x.store k with
    | some (.fo tag wd rows i row) => match rsAt row 0 with
      | some (j, k2, g2, wd2, len, kn) => match Zar x.store k2 with
        | some (.sl t2 w2 rows2) => match Nat.beq t2 g2 && (Nat.beq w2 wd2 && !Nat.beq k2 k) with
          | true => foAt i i rows.length ∧ whole len rows2 ∧ K { x with store := setN (delN x.store k2) k (.fo tag wd rows i (row.set j (.d (.s 1 wd2 rows2 [])))) }
          | false => K x
        | _ => K x
      | none => K x
    | _ => K x
  | none => K x
theorem Zdk {x : X} (hR : Rel w0 own γ x.S a w) {K : X → Prop} (h : x.settle K) : ∃ γ' x', γ'.F0 = γ.F0 ∧ Rel w0 own γ' x'.S a w ∧ K x' := by
  have stay : K x → ∃ γ' x', γ'.F0 = γ.F0 ∧ Rel w0 own γ' x'.S a w ∧ K x' := fun h => ⟨γ, x, rfl, hR, h⟩
  unfold X.settle at h
  split at h
  · rename_i k _ _
    split at h
    · rename_i tag wd rows i row hk
      split at h
      · rename_i j k2 g2 wd2 len kn hrs
        split at h
        · rename_i t2 w2 rows2 hk2
          split at h
          · rename_i hb
            simp only [Bool.and_eq_true, Bool.not_eq_true'] at hb
            obtain ⟨b1, b2, b3⟩ := hb
            have b1 := Zaa b1; have b2 := Zaa b2; have b3 := Zbi b3
            subst b1 b2
            obtain ⟨⟨_, c1⟩, ⟨c2, c3⟩, h⟩ := h
            obtain ⟨_, hj⟩ := ZkJ _ _ _ _ _ _ _ _ hrs
            have hm := hR.movein (i := i) (j := j) (Za5 hk) (Zqe c1) (R2 := (XRoot.sl t2 w2 rows2).root) (by simpa [XRoot.root] using hj) b3 (Za5 hk2) (by simp [XRoot.root, emb, c2]) (rowsD := rows2) rfl c3
            rw [c2, List.take_length] at hm
            refine ⟨γ.move k i j k2 t2 rows2.length, _, rfl, ?_, h⟩
            · have e : ({ x with store := setN (delN x.store k2) k (.fo tag wd rows i (row.set j (.d (.s 1 w2 rows2 [])))) } : X).S = (x.S.del k2).set k { (XRoot.fo tag wd rows i row).root with rows := ((emb rows).set i row).set i (row.set j (.d (.s 1 w2 rows2 []))) } := by
                simp only [X.S, St.del, St.set]
                congr 1
                funext q
                simp only [Zci, ZhK]
                split
                · simp [XRoot.root, List.set_set]
                · split
                  · rfl
                  · rfl
              rw [e]; exact hm
          · exact stay h
        · exact stay h
      · exact stay h
    · exact stay h
  · exact stay h
end

section
open Go
variable {P : Program} {w0 : World} {own : Nat → Prop} {γ : Gh} {st : St} {a : Act} {w : World} {o : Oper} {x : X} {ops : Array Oper}
theorem Zmh (st : St) (k wd : Nat) (R : List (List C)) : st.root k false wd R = st.patch ⟨none, .dead, [(k, some ⟨st.gen k + 1, false, wd, R⟩, st.gen k + 1)]⟩ := by
  simp only [St.root, St.patch, Za4]
  congr 1
  · funext i; by_cases hi : i = k <;> simp [hi]
  · funext i; by_cases hi : i = k <;> simp [hi]
theorem Zoy (g wd : Nat) (rows : List (List D)) (cs : List C) : (XRoot.fo g wd (rows ++ [[]]) rows.length cs).root = ⟨g, false, wd, emb rows ++ [cs]⟩ := by
  simp [XRoot.root, emb]
theorem Zn9 {y z : Operand} {t tx e e' : TypeId} {k g kn wd : Nat} {rows : List (List D)} {i : TypeInfo} {zv : Value} {cs : List C} (hd : st.fits o.dst = true) (ho : o.op = .call { callee := .builtin .append, args := #[y, z], argTypes := #[t, tx] })
    (hy : (evA st y).wk = .c (.rs k g wd 0 rows.length kn)) (hk : st.store k = some (XRoot.sl g wd rows).root) (hcok : ZbB cs = true) (ht : P.underlying t = some (.slice e)) (htx : P.underlying tx = some (.slice e')) (hi : P.info? e = some i) (hsz : i.size = wd) (h0 : 0 < wd) (hz : i.zero = some zv) (hzs : zv.cells.size = wd)
    (hu : srcC st wd (evA st z) = some (1, cs)) (hb : (rows.length + 1) * i.bytes ≤ 140737488355328) (h63 : rows.length + 1 ≤ 9223372036854775807) :
    OpOK P w0 own o st (st.patch ⟨o.dst, .c (.rs k (st.gen k + 1) wd 0 (rows.length + 1) (rows.length + 1)), [(k, some (XRoot.fo (st.gen k + 1) wd (rows ++ [[]]) rows.length cs).root, st.gen k + 1)]⟩) := by
  have e : (st.patch ⟨none, .dead, [(k, some (XRoot.fo (st.gen k + 1) wd (rows ++ [[]]) rows.length cs).root, st.gen k + 1)]⟩).put o.dst (.c (.rs k (st.gen k + 1) wd 0 (rows.length + 1) (rows.length + 1))) = st.patch ⟨o.dst, .c (.rs k (st.gen k + 1) wd 0 (rows.length + 1) (rows.length + 1)), [(k, some (XRoot.fo (st.gen k + 1) wd (rows ++ [[]]) rows.length cs).root, st.gen k + 1)]⟩ := by
    rw [ZbC]
    simp only [St.patch, Za4]
    congr 1
  rw [← e]
  refine .value (by cases h : o.dst <;> simp_all [St.fits, St.patch]) fun γ a w hR => ?_
  have hv := (hR.ev y).wk
  rw [hy] at hv
  obtain ⟨hcl, vs, hL⟩ := ZeS hR (hR.ev z) hu hcok
  have hv' : CR γ w (a.eval y) (.rs k g wd 0 rows.length kn) := hv.one rfl
  have hch : chk wd 1 cs = [cs] := by
    simp only [chk]
    rw [List.take_of_length_le (by omega)]
  rw [hch] at hL
  obtain ⟨γ', w', v', h1, h2, h3, h4⟩ := ZdI (P := P) (ty := o.type) (k := k) (len := rows.length) (kn := kn) (R := (XRoot.sl g wd rows).root) hR hk rfl (by simp [XRoot.root, emb]) hv' ht htx hi hsz h0 hz hzs hL (by simpa using hb) (by simpa using h63)
  have er : (XRoot.sl g wd rows).root.rows.take rows.length = emb rows := by
    simp only [XRoot.root]
    exact List.take_of_length_le (by simp [emb])
  rw [er, show (XRoot.sl g wd rows).root.wd = wd from rfl, Zmh, ← Zoy] at h3
  refine ⟨γ', w', v', ?_, h2, h3, .c _ _ h4⟩
  unfold execOp
  rw [ho]
  simp only [resolve, Sem.run_bind]
  have e3 : (#[y, z] : Array Operand).map a.eval = #[a.eval y, a.eval z] := by simp
  rw [e3]
  simp only [Sem.run_pure, Result.andThen_ok, invoke, builtin, Sem.run_bind, h1]
theorem ZiC {y z : Operand} {t tx e e' : TypeId} (k : Nat) {wd : Nat} {i : TypeInfo} {zv : Value} {cs : List C} (hd : st.fits o.dst = true) (ho : o.op = .call { callee := .builtin .append, args := #[y, z], argTypes := #[t, tx] })
    (hy : (evA st y).wk = .c (.d (.v (.slice none 0 0)))) (hcok : ZbB cs = true) (ht : P.underlying t = some (.slice e)) (htx : P.underlying tx = some (.slice e')) (hi : P.info? e = some i) (hsz : i.size = wd) (h0 : 0 < wd) (hz : i.zero = some zv) (hzs : zv.cells.size = wd)
    (hu : srcC st wd (evA st z) = some (1, cs)) (hb : i.bytes ≤ 140737488355328) :
    OpOK P w0 own o st (st.patch ⟨o.dst, .c (.rs k (st.gen k + 2) wd 0 1 1), [(k, some (XRoot.fo (st.gen k + 2) wd [[]] 0 cs).root, st.gen k + 2)]⟩) := by
  have e : (st.patch ⟨none, .dead, [(k, some (XRoot.fo (st.gen k + 2) wd [[]] 0 cs).root, st.gen k + 2)]⟩).put o.dst (.c (.rs k (st.gen k + 2) wd 0 1 1)) = st.patch ⟨o.dst, .c (.rs k (st.gen k + 2) wd 0 1 1), [(k, some (XRoot.fo (st.gen k + 2) wd [[]] 0 cs).root, st.gen k + 2)]⟩ := by
    rw [ZbC]
    simp only [St.patch, Za4]
    congr 1
  rw [← e]
  refine .value (by cases h : o.dst <;> simp_all [St.fits, St.patch]) fun γ a w hR => ?_
  have hv := (hR.ev y).wk
  rw [hy] at hv
  have en := (AR.sc_inv (show AR γ w (a.eval y) (sc (.slice none 0 0)) from by
    generalize evA st y = yy at hy hv
    exact hv)).1
  obtain ⟨hcl, vs, hL⟩ := ZeS hR (hR.ev z) hu hcok
  obtain ⟨γ1, g1, g2, g3⟩ := hR.empty k wd
  have hch : chk wd 1 cs = [cs] := by
    simp only [chk]
    rw [List.take_of_length_le (by omega)]
  rw [hch] at hL
  have hL' : LaidC γ1 w wd (a.eval z) [cs] vs := ⟨hL.val, hL.wid, fun i j r c h1 h2 => by
    obtain ⟨q1, q2, q3⟩ := hL.get i j r c h1 h2
    exact ⟨q1.mono g1 (Same.refl _ _) (.refl _), q2, q3⟩⟩
  have hk : (st.root k false wd []).store k = some ⟨st.gen k + 1, false, wd, []⟩ := by simp [St.root]
  obtain ⟨γ', w', v', h1, h2, h3, h4⟩ := ZdI (P := P) (ty := o.type) (k := k) (len := 0) (kn := 0) (R := ⟨st.gen k + 1, false, wd, []⟩) g2 hk rfl (Nat.le_refl _) (g3 none) ht htx hi hsz h0 hz hzs hL' (by simpa using hb) (by simp)
  have eg : (st.root k false wd []).gen k = st.gen k + 1 := by simp [St.root]
  rw [eg] at h4
  refine ⟨γ', w', v', ?_, Gh.le_trans g1 h2, ?_, .c _ _ (by simpa using h4)⟩
  · unfold execOp
    rw [ho]
    simp only [resolve, Sem.run_bind]
    have e3 : (#[y, z] : Array Operand).map a.eval = #[.slice none 0 0, a.eval z] := by simp [en]
    rw [e3]
    simp only [Sem.run_pure, Result.andThen_ok, invoke, builtin, Sem.run_bind, h1]
  · have e2 : (st.root k false wd []).root k false wd (List.take 0 ([] : List (List C)) ++ [cs]) = st.patch ⟨none, .dead, [(k, some (XRoot.fo (st.gen k + 2) wd [[]] 0 cs).root, st.gen k + 2)]⟩ := by
      have := Zoy (st.gen k + 2) wd [] cs
      simp only [List.nil_append, List.length_nil, emb, List.map_nil] at this
      rw [this]
      simp only [St.root, St.patch, Za4, List.take_nil, List.nil_append]
      congr 1
      · funext j; by_cases hj : j = k <;> simp [hj]
      · funext j; by_cases hj : j = k <;> simp [hj]
    have h3 : Rel w0 own γ' ((st.root k false wd []).root k false wd (List.take 0 ([] : List (List C)) ++ [cs])) a w' := h3
    rw [e2] at h3
    exact h3
def Zha (P : Program) (o : Oper) (x : X) (args : Array Operand) (tys : Array TypeId) (K : KO) : Prop :=
  match args.toList, tys.toList with
  | [y, z], [t, tx] => match elT P t, elT P tx with
    | some e, some _ => match ZgO P e with
      | some (0, _) => False
      | some (wd + 1, bytes) => ZqY x (wd + 1) (evA x.S z) fun Ks m cs => match ZbB cs && Nat.beq m 1 with
        | true => match (evA x.S y).wk with
          | .c (.rs k g wd' lo len kn) => match Zar x.store k with
            | some (.sl tg wd2 rows) => match Nat.beq tg g && (Nat.beq lo 0 && (Nat.beq wd' (wd + 1) && Nat.beq wd2 (wd + 1))) with
              | true => len = rows.length ∧ cond (decide ((len + 1) * bytes ≤ 140737488355328) && decide (len + 1 ≤ 9223372036854775807))
                  (K (k :: Ks) ⟨.c (.rs k (x.gen k + 1) (wd + 1) 0 (len + 1) (len + 1)), [(k, some (.fo (x.gen k + 1) (wd + 1) (rows ++ [[]]) len cs), x.gen k + 1)]⟩ x) False
              | false => False
            | _ => False
          | .c (.d (.v (.slice none 0 0))) => match Nat.ble bytes 140737488355328 with
            | true => K (x.freeO o :: Ks) ⟨.c (.rs (x.freeO o) (x.gen (x.freeO o) + 2) (wd + 1) 0 1 1), [(x.freeO o, some (.fo (x.gen (x.freeO o) + 2) (wd + 1) [[]] 0 cs), x.gen (x.freeO o) + 2)]⟩ x
            | false => False
          | _ => False
        | false => False
      | none => False
    | _, _ => False
  | _, _ => False
theorem Zgr {args : Array Operand} {tys : Array TypeId} (ho : o.op = .call { callee := .builtin .append, args := args, argTypes := tys }) : Za6 P o x (Zha P o x args tys) := fun K h hd => by
  unfold Zha at h
  split at h
  · rename_i y z t tx hy ht
    have e1 : args = #[y, z] := by apply Array.ext'; rw [hy]
    have e2 : tys = #[t, tx] := by apply Array.ext'; rw [ht]
    subst e1 e2
    split at h
    · rename_i e e' het hetx
      have het := ZbD het
      have hetx := ZbD hetx
      split at h
      · exact h.elim
      · rename_i wd bytes hst
        obtain ⟨i, zv, i1, i2, i3, i4, i5⟩ := Zcs hst
        obtain ⟨Ks, m, cs, h, hsrc⟩ := ZhG h
        have hopy : y ∈ o.op.operands.toList := by rw [ho]; simp [Op.operands, Call.operands]
        have hopz : z ∈ o.op.operands.toList := by rw [ho]; simp [Op.operands, Call.operands]
        split at h
        · rename_i hcm
          rw [Bool.and_eq_true] at hcm
          obtain ⟨hcok, hm1⟩ := hcm
          have hm1 := Zaa hm1
          subst hm1
          split at h
          · rename_i k g wd' lo len kn hey
            split at h
            · rename_i tg wd2 rows hk
              split at h
              · rename_i hc
                simp only [Bool.and_eq_true] at hc
                obtain ⟨c0, c1, c2, c3⟩ := hc
                have c0 := Zaa c0
                have c1 := Zaa c1
                have c2 := Zaa c2
                have c3 := Zaa c3
                subst c0 c1 c2 c3
                obtain ⟨rfl, h⟩ := h
                cases hcc : decide ((rows.length + 1) * bytes ≤ 140737488355328) && decide (rows.length + 1 ≤ 9223372036854775807)
                · rw [hcc] at h; exact h.elim
                · rw [hcc] at h
                  simp only [Bool.and_eq_true, decide_eq_true_eq] at hcc
                  refine ⟨_, _, h, fun w0 own ops => .many (by simp) fun st' hal => ?_⟩
                  have hroot := (hal.store k (by simp)).trans (ZcJ hk)
                  have := Zn9 (P := P) (w0 := w0) (own := own) (st := st') (Zaf hal hd) ho (by rw [hal.ev hopy]; exact hey) hroot hcok het hetx i1 i2 (Nat.succ_pos _) i4 i5
                    (by rw [hal.ev hopz]; exact hsrc st' fun k' hk' => hal.store k' (by simp [hk'])) (by rw [i3]; exact hcc.1) hcc.2
                  rw [hal.gen k (by simp)] at this
                  exact this
              · exact h.elim
            · exact h.elim
          · rename_i hey
            split at h
            · rename_i hb
              have hb := Nat.le_of_ble_eq_true hb
              refine ⟨_, _, h, fun w0 own ops => .many (by simp) fun st' hal => ?_⟩
              have := ZiC (P := P) (w0 := w0) (own := own) (st := st') (x.freeO o) (Zaf hal hd) ho (by rw [hal.ev hopy]; exact hey) hcok het hetx i1 i2 (Nat.succ_pos _) i4 i5
                (by rw [hal.ev hopz]; exact hsrc st' fun k' hk' => hal.store k' (by simp [hk'])) (by rw [i3]; exact hb)
              rw [hal.gen (x.freeO o) (by simp)] at this
              exact this
            · exact h.elim
          · exact h.elim
        · exact h.elim
      · exact h.elim
    · exact h.elim
  · exact h.elim
def XRoot.refit : XRoot → XRoot
  | .fo t wd rows i row => match strip.stripRow row with
    | some ds => .sl t wd (rows.set i ds)
    | none => .fo t wd rows i row
  | R => R
theorem Zof (R : XRoot) : R.refit.root = R.root := by
  cases R with
  | fo t wd rows i row =>
    unfold XRoot.refit
    split
    · rename_i heq
      cases heq
      split
      · rename_i ds hds
        have := Za0 _ _ hds
        subst this
        simp [XRoot.root, emb, List.map_set]
      · rfl
    · rename_i h; exact (h _ _ _ _ _ rfl).elim
  | _ => rfl
def Znf : List (Nat × XRoot) → List (Nat × XRoot)
  | [] => []
  | (k, R) :: l => (k, R.refit) :: Znf l
theorem Zgb : ∀ (l : List (Nat × XRoot)) (k : Nat), Zar (Znf l) k = (Zar l k).map XRoot.refit
  | [], k => rfl
  | (k', R0) :: l, k => by
    simp only [Znf, Zar]
    split
    · rfl
    · exact Zgb l k
def X.refit (x : X) : X := { x with store := Znf x.store }
theorem Zs5 (x : X) : x.refit.S = x.S := by
  simp only [X.S, X.refit]
  congr 1
  funext k
  rw [Zgb]
  cases Zar x.store k with
  | none => rfl
  | some R => simp [Zof]
def X.grow (x : X) (K : X → Prop) : Prop := x.settle fun y => y.settle fun z => z.settle fun u => K u.refit
theorem ZpA {w0 : World} {own : Nat → Prop} {γ : Gh} {a : Act} {w : World} {x : X} (hR : Rel w0 own γ x.S a w) {K : X → Prop} (h : x.grow K) : ∃ γ' x', γ'.F0 = γ.F0 ∧ Rel w0 own γ' x'.S a w ∧ K x' := by
  obtain ⟨γ1, x1, a1, a2, h⟩ := Zdk hR h
  obtain ⟨γ2, x2, b1, b2, h⟩ := Zdk a2 h
  obtain ⟨γ3, x3, c1, c2, h⟩ := Zdk b2 h
  exact ⟨γ3, _, c1.trans (b1.trans a1), by rw [Zs5]; exact c2, h⟩
end

end Vm
