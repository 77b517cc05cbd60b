/- An interpreter for Go's texts over plain data, its proof, and what it says of the functions that the law reaches. My own work. -/
import Derived.Test.YtnhodnfnlnccaaaGreatMs2
set_option linter.unusedSimpArgs false
set_option linter.unusedVariables false
set_option maxRecDepth 100000
set_option maxHeartbeats 2000000
namespace Vm
section
open Go
variable {P : Program} {w0 : World} {own : Nat → Prop} {γ : Gh} {st : St} {a : Act} {w : World} {o : Oper} {x : X} {ops : Array Oper}
def ZoY (v : Int) (K : Int → Prop) : Prop := cond (v == 0) (K 0) (cond (v == 1) (K 1) (cond (v == 2) (K 2) (cond (v == 3) (K 3) False)))
theorem ZlK {v : Int} {K : Int → Prop} (h : ZoY v K) : K v := by
  unfold ZoY at h
  cases h0 : (v == 0) with
  | true => rw [h0] at h; have : v = 0 := by simpa using h0
            subst this; exact h
  | false =>
    rw [h0] at h
    cases h1 : (v == 1) with
    | true => rw [h1] at h; have : v = 1 := by simpa using h1
              subst this; exact h
    | false =>
      rw [h1] at h
      cases h2 : (v == 2) with
      | true => rw [h2] at h; have : v = 2 := by simpa using h2
                subst this; exact h
      | false =>
        rw [h2] at h
        obtain ⟨h3, h⟩ := Zag h
        have : v = 3 := by simpa using h3
        subst this; exact h
def Zts (z : Operand) : Bool := match z with | .const (.int .i64 n) => decide (n = 3) | _ => false
def Zl5 (P : Program) (H : Hooks) (k : Nat) (x : X) (b : BinOp) (t : TypeId) (y z : Operand) (K : KO) : Prop :=
  match evA x.S y, evA x.S z, b with
  | .agg cs, .agg ds, .eql => evEq P x false t cs ds K
  | .agg cs, .agg ds, .neq => evEq P x true t cs ds K
  | .c (.d (.v (.int .i64 p))), .c (.d (.v (.int .i64 q))), .and => match H.pick k with
    | some g => H.and p q = g ∧ K [] ⟨sc (.int .i64 g), []⟩ x
    | none => match H.split && Zts z with
    | true => ZoY (H.and p q) fun v => K [] ⟨sc (.int .i64 v), []⟩ x
    | false => K [] ⟨sc (.int .i64 (H.and p q)), []⟩ x
  | .c (.d (.v (.int .i64 p))), .c (.d (.v (.int .i64 q))), .or => K [] ⟨sc (.int .i64 (H.or p q)), []⟩ x
  | .c (.d (.v (.int .i64 p))), .c (.d (.v (.int .i64 q))), .xor => K [] ⟨sc (.int .i64 (bxor p q)), []⟩ x
  | .c (.d (.v (.int k p))), .c (.d (.v (.int k' q))), .rem => match decide (k = k') with
    | true => cond (decide (q = 0)) False (K [] ⟨sc (.int k (Int.tmod p q)), []⟩ x)
    | false => False
  | _, _, .eql => Zl6 P x t y z K
  | _, _, _ => Zot P x b t y z K
theorem Zix {H : Hooks} (hH : Zam P H) {b : BinOp} {t u : TypeId} {y z : Operand} (ho : o.op = .binOp b t y z u) : Za6 P o x (Zl5 P H (keyO o) x b t y z) := fun K h hd => by
  unfold Zl5 at h
  split at h
  · rename_i h1 h2; exact Zh4 (neg := false) (.inl ⟨rfl, rfl⟩) ho h1 h2 K h hd
  · rename_i h1 h2; exact Zh4 (neg := true) (.inr ⟨rfl, rfl⟩) ho h1 h2 K h hd
  · rename_i p q h1 h2
    have h : K [] ⟨sc (.int .i64 (band p q)), []⟩ x := by
      rw [← hH.1]
      split at h
      · obtain ⟨h1, h2⟩ := h
        rw [h1]; exact h2
      · split at h
        · exact ZlK h
        · exact h
    exact ⟨_, _, h, fun w0 own ops => Zjt hd ho (p := .int .i64 p) (q := .int .i64 q) (by rw [h1]; rfl) (by rw [h2]; rfl) rfl rfl⟩
  · rename_i p q h1 h2
    rw [hH.2.1] at h
    exact ⟨_, _, h, fun w0 own ops => Zjt hd ho (p := .int .i64 p) (q := .int .i64 q) (by rw [h1]; rfl) (by rw [h2]; rfl) rfl rfl⟩
  · rename_i p q h1 h2
    exact ⟨_, _, h, fun w0 own ops => Zjt hd ho (p := .int .i64 p) (q := .int .i64 q) (by rw [h1]; rfl) (by rw [h2]; rfl) rfl rfl⟩
  · rename_i k p k' q h1 h2
    split at h
    · rename_i hk
      have hk := of_decide_eq_true hk
      subst hk
      cases hq : decide (q = 0) with
      | true => rw [hq] at h; exact h.elim
      | false =>
        rw [hq] at h
        have hq := of_decide_eq_false hq
        exact ⟨_, _, h, fun w0 own ops => Zjt hd ho (p := .int k p) (q := .int k q) (by rw [h1]; rfl) (by rw [h2]; rfl) (by
          have e : binOp .rem t (.int k p) (.int k q) = .pure (.int k (Int.tmod p q)) := by
            simp only [binOp, ne_eq, not_true_eq_false, if_false, Op.intDiv, if_neg hq]; rfl
          have e2 : eqGuard .rem t y z (.int k p) (.int k q) = .pure () := rfl
          rw [e, e2]; rfl) rfl⟩
    · exact h.elim
  · exact ZiV ho K h hd
  · exact Zex ho K h hd
theorem ZbG {α β : Type} (P : Program) {a : α} (f : α → Sem β) : ∀ (s : Sem α), ZaU P s = some a → ZaU P (s >>= f) = ZaU P (f a)
  | .pure b, h => by simp [ZaU] at h; subst h; rfl
  | .program k, h => by
    simp only [ZaU] at h
    exact ZbG P f (k P) h
  | .load .., h | .store .., h | .new .., h | .shape .., h | .freeze .., h | .frozen .., h | .getObj .., h | .setObj .., h | .choose .., h | .sys .., h | .mark .., h | .halt .., h => by simp [ZaU] at h
theorem Zca {t : TypeId} {d : TypeDesc} (h : P.underlying t = some d) : ZaU P (underlying t) = some d := by
  unfold underlying
  rw [ZbG P (a := P) _ program rfl]
  simp [h, ZaU]
  rfl
def ZlI (P : Program) (H : Hooks) (x : X) (t u : TypeId) (y : Operand) (K : KO) : Prop :=
  match evA x.S y, P.underlying t, P.underlying u with
  | .c (.d (.v (.int .i64 n))), some (.int _), some (.float .f64) => K [] ⟨sc (.float .f64 (H.i2f n)), []⟩ x
  | .c (.d (.v (.float .f64 b))), some (.float _), some (.int .i64) => cond (H.fok b) (K [] ⟨sc (.int .i64 (H.f2i b)), []⟩ x) False
  | _, _, _ => Zo8 P x t u y K
theorem ZiE {H : Hooks} (hH : Zam P H) {t u : TypeId} {y : Operand} (ho : o.op = .convert t u y) : Za6 P o x (ZlI P H x t u y) := fun K h hd => by
  unfold ZlI at h
  split at h
  · rename_i n k h1 h2 h3
    rw [hH.2.2.1.1] at h
    refine ⟨_, _, h, fun w0 own ops => Zli hd ho (p := .int .i64 n) (by rw [h1]; rfl) ?_ rfl⟩
    unfold convert
    rw [ZbG P _ _ (Zca h2), ZbG P _ _ (Zca h3)]
    rfl
  · rename_i b k h1 h2 h3
    obtain ⟨hc, h⟩ := Zag h
    rw [hH.2.2.1.2.1] at h
    rw [hH.2.2.1.2.2] at hc
    refine ⟨_, _, h, fun w0 own ops => Zli hd ho (p := .float .f64 b) (by rw [h1]; rfl) ?_ rfl⟩
    unfold convert
    rw [ZbG P _ _ (Zca h2), ZbG P _ _ (Zca h3)]
    exact Ztx hc
  · exact Zkm ho K h hd
def Zl1 (P : Program) (H : Hooks) (o : Oper) (x : X) (c : Call) (K : KO) : Prop :=
  match c.callee with
  | .value f => match f with
    | .func n => match H.give n with
      | true => ZgP H o x n c.args K
      | false => match H.over n with
        | true => Zpd P x n c.args K
        | false => match H.free n with
          | true => Zfp P H o x n c.args c.argTypes K
          | false => ZmX P H o x f c.args c.argTypes K
    | _ => ZmX P H o x f c.args c.argTypes K
  | .builtin .len => ZsM P o x c.args c.argTypes K
  | .builtin .append => match H.cpy && Zu7 P c.argTypes with
    | true => Zha P o x c.args c.argTypes K
    | false => Zgd P o x c.args c.argTypes K
  | .builtin .copy => ZpH P x c.args c.argTypes K
  | .builtin .cap => Zsh P x c.args c.argTypes K
  | .builtin b => ZmK P o x b c.args c.argTypes K
  | _ => False
theorem Zi2 {H : Hooks} (hH : Zam P H) {c : Call} (ho : o.op = .call c) : Za6 P o x (Zl1 P H o x c) := fun K h hd => by
  obtain ⟨cal, args, tys⟩ := c
  unfold Zl1 at h
  split at h
  · rename_i f hf
    simp only at hf
    subst hf
    split at h
    · split at h
      · exact ZgB hH ho K h hd
      · split at h
        · exact Zjn ho K h hd
        · split at h
          · exact ZfR hH ho K h hd
          · exact ZfH hH ho K h hd
    · exact ZfH hH ho K h hd
  · rename_i hf; simp only at hf; subst hf; exact Zk4 ho K h hd
  · rename_i hf; simp only at hf; subst hf
    split at h
    · exact Zgr ho K h hd
    · exact Zhi ho K h hd
  · rename_i hf; simp only at hf; subst hf; exact ZjC ho K h hd
  · rename_i hf; simp only at hf; subst hf; exact Zmp ho K h hd
  · rename_i b _ hf; simp only at hf; subst hf; exact ZfJ ho K h hd
  · exact h.elim
def ZcG (P : Program) (x : X) (t : TypeId) (y ix : Operand) (K : KO) : Prop :=
  match evA x.S ix, evA x.S y with
  | .c (.d (.v (.int _ i))), .c (.d (.s tg sz rows sp)) => match Nat.beq sz 17 with
    | true => match elT P t with
      | some e => match szT P e with
        | some sz' => match Nat.beq sz' sz with
          | true => ZfK i (fun q => K [] ⟨.c (.d (.p tg (rows.getD q []) 0)), []⟩ x) 0 rows.length
          | false => False
        | none => False
      | none => False
    | false => ZbE P x t y ix K
  | .c (.d (.v (.int _ i))), .c (.rp k g wd i0 j) => match arT P t with
    | some (n, e) => match szT P e with
      | some sz => ZfK i (fun q => K [] ⟨.c (.rp k g wd i0 (addN j (q * sz))), []⟩ x) 0 n
      | none => False
    | none => ZbE P x t y ix K
  | _, _ => ZbE P x t y ix K
theorem ZcH {t : TypeId} {y ix : Operand} (ho : o.op = .indexAddr t y ix) : Za6 P o x (ZcG P x t y ix) := fun K h hd => by
  unfold ZcG at h
  split at h
  · rename_i kd i tg sz rows sp hix hy
    split at h
    · split at h
      · rename_i e ht
        split at h
        · rename_i sz' hs
          split at h
          · rename_i hb
            have := Zaa hb; subst this
            obtain ⟨q, hi, hq, h⟩ := ZbX _ _ h
            have hi' : (decide (0 ≤ i) && decide (i < (rows.length : Nat))) = true := by simp; omega
            refine ⟨_, _, h, fun w0 own ops => Zhe hd ho hy hix ht hs (Zea hi') ?_⟩
            have e : i.toNat = q := by omega
            have hq' : q < rows.length := by omega
            rw [e]
            simp [List.getD_eq_getElem?_getD, hq']
          · exact h.elim
        · exact h.elim
      · exact h.elim
    · exact Zba ho K h hd
  · rename_i kd i k g wd i0 j hix hy
    split at h
    · rename_i n e ht
      split at h
      · rename_i sz hs
        obtain ⟨q, hi, hq, h⟩ := ZbX _ _ h
        have hi' : (decide (0 ≤ i) && decide (i < (n : Nat))) = true := by simp; omega
        have e : i.toNat = q := by omega
        refine ⟨_, _, h, fun w0 own ops => Zer hd ho rfl hix ht hs (Zea hi') ?_⟩
        rw [hy, e]
        simp [A.ptrAdd, Zey]
      · exact h.elim
    · exact Zba ho K h hd
  · exact Zba ho K h hd
def ZdE (P : Program) (x : X) (t : TypeId) (y ix : Operand) (K : KO) : Prop :=
  match evA x.S ix, evA x.S y with
  | .c (.d (.v (.int _ i))), .c (.d (.s tg sz rows sp)) => match elT P t with
    | some e => match Zg4 P e with
      | some _ => ZbE P x t y ix K
      | none => match szT P e with
        | some sz' => match Nat.beq sz' sz with
          | true => cond (decide (0 ≤ i) && decide (i < rows.length)) (rowF sz rows i.toNat fun r => K [] ⟨.c (.d (.p tg r 0)), []⟩ x) False
          | false => False
        | none => False
    | none => False
  | _, _ => ZcG P x t y ix K
theorem ZeZ {t : TypeId} {y ix : Operand} (ho : o.op = .indexAddr t y ix) : Za6 P o x (ZdE P x t y ix) := fun K h hd => by
  unfold ZdE at h
  split at h
  · rename_i kd i tg sz rows sp hix hy
    split at h
    · rename_i e ht
      split at h
      · exact Zba ho K h hd
      · split at h
        · rename_i sz' hs
          split at h
          · rename_i hb
            have := Zaa hb; subst this
            obtain ⟨hi, h⟩ := Zag h
            obtain ⟨r, hr, h⟩ := Zpk h
            exact ⟨_, _, h, fun w0 own ops => Zhe hd ho hy hix ht hs (Zea hi) hr⟩
          · exact h.elim
        · exact h.elim
    · exact h.elim
  · exact ZcH ho K h hd
def evOp (P : Program) (H : Hooks) (o : Oper) (x : X) (K : KO) : Prop :=
  match o.op with
  | .move y => ZoO x y K
  | .assign y => ZiG P o x y K
  | .pick c y z => Zsb x c y z K
  | .alloc t => Zlo P o x t K
  | .box _ y => Zs9 o x y K
  | .load t y => Zpl P x t y K
  | .store t y z => ZlT P x t y z K
  | .nilCheck y => ZsK x y K
  | .binOp b t y z _ => Zl5 P H (keyO o) x b t y z K
  | .unOp b _ y => evUn P x b y K
  | .convert t u y => ZlI P H x t u y K
  | .makeFunc (.func f) fst cap => Zft x f fst cap K
  | .fieldAddr t y f => Zej P x t y f K
  | .field t y f => Zlh P x t y f K
  | .indexAddr t y i => match H.foc with | true => ZdE P x t y i K | false => match H.spl with | true => ZcG P x t y i K | false => ZbE P x t y i K
  | .index t y i => Zk5 P x t y i K
  | .extract y i => Zgj x y i K
  | .build t ps => Zlc P x t ps K
  | .buildSlice t n ps => Zdv P o x t n ps K
  | .slice t y lo hi mx => Zla P o x t y lo hi mx K
  | .makeSlice t l c => ZoR P o x t l c K
  | .call c => Zl1 P H o x c K
  | _ => False
theorem ZhI {H : Hooks} (hH : Zam P H) : Za6 P o x (evOp P H o x) := fun K h hd => by
  unfold evOp at h
  split at h
  · exact ZfB (.inl ‹_›) K h hd
  · exact Zhn ‹_› K h hd
  · exact Zjz ‹_› K h hd
  · exact Zik ‹_› K h hd
  · exact Zmf ‹_› K h hd
  · exact ZjH ‹_› K h hd
  · exact Zir ‹_› K h hd
  · exact Zmm ‹_› K h hd
  · exact Zix hH ‹_› K h hd
  · exact ZnI ‹_› K h hd
  · exact ZiE hH ‹_› K h hd
  · exact ZfU ‹_› K h hd
  · exact Zfs ‹_› K h hd
  · exact ZiL ‹_› K h hd
  · split at h
    · exact ZeZ ‹_› K h hd
    · split at h
      · exact ZcH ‹_› K h hd
      · exact Zba ‹_› K h hd
  · exact ZiJ ‹_› K h hd
  · exact Zgk ‹_› K h hd
  · exact ZiK ‹_› K h hd
  · exact ZeH ‹_› K h hd
  · exact Zis ‹_› K h hd
  · exact Zjo ‹_› K h hd
  · exact Zi2 hH ‹_› K h hd
  · exact h.elim
def X.fits (x : X) (d : Option Nat) : Bool := match d with | none => true | some d => Nat.ble (d + 1) x.tmps.length
theorem ZmL (d : Option Nat) : x.fits d = x.S.fits d := by
  cases d with
  | none => rfl
  | some d =>
    show Nat.ble (d + 1) x.tmps.length = decide (d < x.tmps.length)
    by_cases h : d < x.tmps.length
    · rw [decide_eq_true h]; exact Nat.ble_eq_true_of_le h
    · rw [decide_eq_false h]
      cases e : Nat.ble (d + 1) x.tmps.length
      · rfl
      · exact (h (Nat.le_of_ble_eq_true e)).elim
abbrev Foot := List (List Nat × List Nat)
def Zio (ops : Array Oper) (o : Oper) (x : X) (K : Bool → X → Prop) : Prop :=
  match o.guard with
  | none => K true x
  | some (j, want) => match (ops[j]?).bind (·.dst) with
    | some d => match x.tmps.getD d .dead with
      | .tup [] => K false x
      | _ => evB x (.tmp d) fun b x' => match b, want with
        | true, true => K true x'
        | false, false => K true x'
        | _, _ => K false x'
    | none => False
theorem ZfC {K : Bool → X → Prop} (h : Zio ops o x K) : ∃ b, ZcT ops x.S o = some b ∧ K b x := by
  unfold Zio at h
  unfold ZcT
  split at h
  · rename_i hg; rw [hg]; exact ⟨true, rfl, h⟩
  · rename_i j want hg
    rw [hg]
    simp only
    split at h
    · rename_i d hd
      rw [hd]
      split at h
      · rename_i ht
        have ht' : x.S.tmps d = .tup [] := ht
        have hlt : d < x.S.n := by
          simp only [X.S, List.getD_eq_getElem?_getD] at ht' ⊢
          rcases Nat.lt_or_ge d x.tmps.length with h' | h'
          · exact h'
          · rw [List.getElem?_eq_none h'] at ht'; simp at ht'
        simp only [ht', hlt, if_true]
        exact ⟨false, rfl, h⟩
      obtain ⟨b, hb, h⟩ := Ziu h
      have hb' : x.S.tmps d = .c (.d (.v (.bool b))) := hb
      have hlt : d < x.S.n := by
        simp only [X.S, List.getD_eq_getElem?_getD] at hb' ⊢
        rcases Nat.lt_or_ge d x.tmps.length with h' | h'
        · exact h'
        · rw [List.getElem?_eq_none h'] at hb'; simp at hb'
      simp only [hb', hlt, if_true]
      cases b <;> cases want <;> exact ⟨_, rfl, h⟩
    · exact h.elim
def ZiR (P : Program) (H : Hooks) (ops : Array Oper) (K : Foot → X → Prop) : List Oper → Foot → X → Prop
  | [], acc, x => K acc x
  | o :: l, acc, x => match x.fits o.dst with
    | true => Zio ops o x fun b x => match b with
      | true => evOp P H o x fun Ks p x => ZiR P H ops K l ((Ks, p.ups.map (·.1)) :: acc) (x.patch o.dst p)
      | false => ZiR P H ops K l (([], []) :: acc) (x.patch o.dst ⟨.tup [], []⟩)
    | false => False
theorem Zcq {H : Hooks} (hH : Zam P H) (K : Foot → X → Prop) : ∀ (l : List Oper) (acc : Foot) (x : X), ZiR P H ops K l acc x → ALex P w0 own ops (fun acc st => ∃ x', st = x'.S ∧ K acc x') l acc x.S
  | [], acc, x, h => ⟨x, rfl, h⟩
  | o :: l, acc, x, h => by
    unfold ZiR at h
    split at h
    · rename_i hf
      rw [ZmL] at hf
      obtain ⟨b, hb, h⟩ := ZfC h
      cases b with
      | true =>
        obtain ⟨Ks, p, h1, h2⟩ := ZhI hH _ h hf
        have ih := Zcq hH K l _ _ h1
        rw [Zk8 _ _ _ hf, ← Zcu] at ih
        exact Zpi hb (h2 w0 own ops) ih
      | false =>
        have ih := Zcq hH K l _ _ h
        rw [Zk8 _ _ _ hf] at ih
        exact ZuI hb hf ih
    · exact h.elim
def ZoI (H : Hooks) (o : Oper) : Option (X → (X → Prop) → Prop) :=
  match o.op with
  | .call c => match c.callee with
    | .value v => match v with
      | .func f => match H.inl f with | some F => some (F c.args.toList o.dst) | none => none
      | _ => none
    | _ => none
  | _ => none
theorem Zhy {H : Hooks} {F : X → (X → Prop) → Prop} (hI : ZpT P H) (h : ZoI H o = some F) {K : X → Prop} (hF : F x K) :
    Rel w0 own γ x.S a w → ∀ (next : Act → World → Prop) (Q : Exit → Act → World → Prop), (∀ γ' a' w' (x' : X), γ'.F0 = γ.F0 → Rel w0 own γ' x'.S a' w' → K x' → next a' w') → o.wp P a w next Q := by
  unfold ZoI at h
  split at h
  · rename_i c ho
    obtain ⟨cal, args, tys⟩ := c
    split at h
    · rename_i v hv
      simp only at hv
      subst hv
      split at h
      · rename_i f
        split at h
        · rename_i F' hF'
          cases h
          exact fun hR next Q hn => hI.1 f F' hF' o args tys ho x K hF w0 own γ a w hR next Q hn
        · cases h
      · cases h
    · cases h
  · cases h
def Zfz (P : Program) (H : Hooks) (ops : Array Oper) (K : X → Prop) : List Oper → X → Prop
  | [], x => K x
  | o :: l, x => match x.fits o.dst with
    | true => Zio ops o x fun b x => match b with
      | true => match ZoI H o with
        | some F => F x fun x' => Zfz P H ops K l x'
        | none => evOp P H o x fun _ p x => Zfz P H ops K l (x.patch o.dst p)
      | false => Zfz P H ops K l (x.patch o.dst ⟨.tup [], []⟩)
    | false => False
theorem ZdA {H : Hooks} (hH : Zam P H) {F0 : Fx} {Q : Exit → Act → World → Prop} {K : X → Prop} (hQ : ∀ γ a w (x : X), γ.F0 = F0 → Rel w0 own γ x.S a w → K x → Q .normal a w) : ∀ (l : List Oper) (k : Nat) (x : X) (γ : Gh) (a : Act) (w : World), (∀ j, l[j]? = ops[k + j]?) → γ.F0 = F0 → Rel w0 own γ x.S a w →
    Zfz P H ops K l x → wpList P ops Q l a w
  | [], k, x, γ, a, w, _, hF, hR, h => hQ γ a w x hF hR h
  | o :: l, k, x, γ, a, w, hl, hF, hR, h => by
    have ho : ops[k]? = some o := by simpa using (hl 0).symm
    have hl' : ∀ j, l[j]? = ops[k + 1 + j]? := fun j => by have := hl (j + 1); simpa [Nat.add_assoc, Nat.add_comm 1 j] using this
    have patched : ∀ {Ks : List Nat} {p : XP}, StepA P w0 own ops o Ks x.S (p.patch o.dst) → x.S.fits o.dst = true → Zfz P H ops K l (x.patch o.dst p) → wpList P ops Q (o :: l) a w := fun {Ks p} hs hf h1 => by
      have := hR.stepA ho hs (next := Go.wpList P ops Q l) (Q := Q) fun γ' a' w' g1 g2 => ZdA hH hQ l (k + 1) (x.patch o.dst p) γ' a' w' hl' (g1.F0.trans hF) (by rw [Zk8 _ _ _ hf]; exact g2) h1
      unfold wpOp at this
      simp only [ho] at this
      unfold Go.wpList
      exact this
    unfold Zfz at h
    split at h
    · rename_i hf
      rw [ZmL] at hf
      obtain ⟨b, hb, h⟩ := ZfC h
      cases b with
      | true =>
        simp only at h
        split at h
        · rename_i F hF'
          unfold Go.wpList
          rw [if_pos (ZgA hR hb)]
          refine .inl (Zhy hH.2.2.2.2 hF' h hR _ _ fun γ' a' w' x' g1 g2 g3 => ?_)
          exact ZdA hH hQ l (k + 1) x' γ' a' w' hl' (g1.trans hF) g2 g3
        · obtain ⟨Ks, p, h1, h2⟩ := ZhI hH _ h hf
          exact patched (.inl ⟨hb, h2 w0 own ops⟩) hf h1
      | false => exact patched (Ks := []) (.inr ⟨hb, rfl, hf⟩) hf h
    · exact h.elim
def frcD (d : D) (K : D → Prop) : Prop :=
  match d with
  | .v v => match v with
    | .int k n => K (.v (.int k n))
    | .bool b => K (.v (.bool b))
    | v => K (.v v)
  | .s t z rows sp => K (.s t z rows sp)
  | .p t cells off => K (.p t cells off)
  | .f fn a b => K (.f fn a b)
def frcC (c : C) (K : C → Prop) : Prop :=
  match c with
  | .d d => frcD d fun d => K (.d d)
  | .rs k g wd lo len kn => frcN k fun k => K (.rs k g wd lo len kn)
  | .rp k g wd i j => frcN k fun k => K (.rp k g wd i j)
  | .cf fn a b => K (.cf fn a b)
  | .non => K .non
def frcL : List C → (List C → Prop) → Prop
  | [], K => K []
  | c :: l, K => frcC c fun c => frcL l fun l => K (c :: l)
def frcA (a : A) (K : A → Prop) : Prop :=
  match a with
  | .dead => K .dead
  | .c c => frcC c fun c => K (.c c)
  | .agg cs => frcL cs fun cs => K (.agg cs)
  | .tup xs => K (.tup xs)
  | .bb q => K (.bb q)
  | .rx k g wd lo len cap => K (.rx k g wd lo len cap)
def frcT : List A → (List A → Prop) → Prop
  | [], K => K []
  | a :: l, K => frcA a fun a => frcT l fun l => K (a :: l)
def frcS : List (Nat × XRoot) → (List (Nat × XRoot) → Prop) → Prop
  | [], K => K []
  | (k, .bx t wd row) :: l, K => frcN k fun k => frcS l fun l => K ((k, .bx t wd row) :: l)
  | (k, .sl t wd rows) :: l, K => frcN k fun k => frcS l fun l => K ((k, .sl t wd rows) :: l)
  | (k, .fo t wd rows i row) :: l, K => frcN k fun k => frcL row fun row => frcS l fun l => K ((k, .fo t wd rows i row) :: l)
def X.force (x : X) (K : X → Prop) : Prop := frcT x.tmps fun ts => frcS x.store fun ss => frcT x.gs fun gs => K ⟨ts, ss, x.gens, gs⟩
theorem Zp7 {d : D} {K : D → Prop} (h : frcD d K) : K d := by
  unfold frcD at h; split at h
  · split at h <;> exact h
  all_goals exact h
theorem Zkw {c : C} {K : C → Prop} (h : frcC c K) : K c := by
  unfold frcC at h; split at h
  · exact Zp7 h
  · exact Zbj h
  · exact Zbj h
  all_goals exact h
theorem Zgx : ∀ {l : List C} {K : List C → Prop}, frcL l K → K l
  | [], _, h => h
  | c :: l, K, h => Zgx (l := l) (K := fun l => K (c :: l)) (Zkw (K := fun c => frcL l fun l => K (c :: l)) h)
theorem ZpD {a : A} {K : A → Prop} (h : frcA a K) : K a := by
  unfold frcA at h; split at h
  · exact h
  · exact Zkw h
  · exact Zgx h
  · exact h
  · exact h
  · exact h
theorem ZgW : ∀ {l : List A} {K : List A → Prop}, frcT l K → K l
  | [], _, h => h
  | c :: l, K, h => ZgW (l := l) (K := fun l => K (c :: l)) (ZpD (K := fun c => frcT l fun l => K (c :: l)) h)
theorem ZeE : ∀ {l : List (Nat × XRoot)} {K : List (Nat × XRoot) → Prop}, frcS l K → K l
  | [], _, h => h
  | (k, .bx t wd row) :: l, K, h => ZeE (l := l) (K := fun l => K ((k, .bx t wd row) :: l)) (Zbj (K := fun k => frcS l fun l => K ((k, .bx t wd row) :: l)) h)
  | (k, .sl t wd rows) :: l, K, h => ZeE (l := l) (K := fun l => K ((k, .sl t wd rows) :: l)) (Zbj (K := fun k => frcS l fun l => K ((k, .sl t wd rows) :: l)) h)
  | (k, .fo t wd rows i row) :: l, K, h => ZeE (l := l) (K := fun l => K ((k, .fo t wd rows i row) :: l)) (Zgx (l := row) (K := fun row => frcS l fun l => K ((k, .fo t wd rows i row) :: l)) (Zbj (K := fun k => frcL row fun row => frcS l fun l => K ((k, .fo t wd rows i row) :: l)) h))
theorem Ze7 {x : X} {K : X → Prop} (h : x.force K) : K x :=
  ZgW (l := x.gs) (K := fun gs => K ⟨x.tmps, x.store, x.gens, gs⟩) (ZeE (l := x.store) (K := fun ss => frcT x.gs fun gs => K ⟨x.tmps, ss, x.gens, gs⟩) (ZgW (l := x.tmps) (K := fun ts => frcS x.store fun ss => frcT x.gs fun gs => K ⟨ts, ss, x.gens, gs⟩) h))
def X.forceS (x : X) (K : X → Prop) : Prop := x.settle fun y => y.force K
theorem ZlS {w0 : World} {own : Nat → Prop} {γ : Gh} {a : Act} {w : World} {x : X} (hR : Rel w0 own γ x.S a w) {K : X → Prop} (h : x.forceS K) : ∃ γ' x', γ'.F0 = γ.F0 ∧ Rel w0 own γ' x'.S a w ∧ K x' := by
  obtain ⟨γ', x', h1, h2, h3⟩ := Zdk hR h
  exact ⟨γ', x', h1, h2, Ze7 h3⟩
def X.close (H : Hooks) (x : X) (K : X → Prop) : Prop := match H.cpy with
  | true => x.norm.grow fun y => y.force K
  | false => x.norm.unp.forceS K
theorem Zfj {w0 : World} {own : Nat → Prop} {γ : Gh} {a : Act} {w : World} {x : X} {H : Hooks} (hR : Rel w0 own γ x.S a w) {K : X → Prop} (h : x.close H K) : ∃ γ' x', γ'.F0 = γ.F0 ∧ Rel w0 own γ' x'.S a w ∧ K x' := by
  obtain ⟨γ2, g1, g2⟩ := hR.norm
  unfold X.close at h
  split at h
  · obtain ⟨γ3, x3, k1, k2, k3⟩ := ZpA g2 h
    exact ⟨γ3, x3, k1.trans g1, k2, Ze7 k3⟩
  · obtain ⟨γ3, x3, k1, k2, k3⟩ := ZlS g2.unp h
    exact ⟨γ3, x3, k1.trans g1, k2, k3⟩
def ZtO (w0 : World) (own : Nat → Prop) (F0 : Fx) (Q : Exit → X → Prop) (e : Exit) (a : Act) (w : World) : Prop := ∃ γ x, γ.F0 = F0 ∧ Rel w0 own γ x.S a w ∧ Q e x
def XWP (P : Program) (c : Code) (Q : Exit → X → Prop) (x : X) : Prop := ∀ w0 own γ a w, Rel w0 own γ x.S a w → c.wp P (ZtO w0 own γ.F0 Q) a w
theorem ZpE {c d : Code} {Q : Exit → X → Prop} (h : XWP P c (fun e x' => match e with | .normal => XWP P d Q x' | e => Q e x') x) : XWP P (.seq c d) Q x := fun w0 own γ a w hR => by
  refine wp_seq (Code.wp_mono (fun e a' w' hp => ?_) (h w0 own γ a w hR))
  obtain ⟨γ', x', h1, h2, h3⟩ := hp
  cases e with
  | normal => have := h3 w0 own γ' a' w' h2; rw [h1] at this; exact this
  | _ => exact ⟨γ', x', h1, h2, h3⟩
theorem Zoz {id : Nat} {c : Code} {Q : Exit → X → Prop} (h : XWP P c (fun e x' => match e with | .exit i => (match Nat.beq i id with | true => Q .normal x' | false => Q (.exit i) x') | e => Q e x') x) : XWP P (.block id c) Q x := fun w0 own γ a w hR => by
  refine wp_block (Code.wp_mono (fun e a' w' hp => ?_) (h w0 own γ a w hR))
  obtain ⟨γ', x', h1, h2, h3⟩ := hp
  cases e with
  | exit i =>
    simp only [Exit.inBlock]
    simp only at h3
    split at h3
    · rename_i hb; have := Zaa hb; subst this; simp only [if_true]; exact ⟨γ', x', h1, h2, h3⟩
    · rename_i hb; rw [if_neg (Zbi hb)]; exact ⟨γ', x', h1, h2, h3⟩
  | _ => exact ⟨γ', x', h1, h2, h3⟩
theorem ZfW {ι : Type} {c : Code} {Q : Exit → X → Prop} (I : ι → X → Prop) (μ : ι → Nat) (i0 : ι) (h0 : I i0 x) (round : ∀ i x, I i x → XWP P c (fun e x' => match e with | .normal => ∃ i', μ i' < μ i ∧ I i' x' | e => Q e x') x) : XWP P (.loop c) Q x := fun w0 own γ a w hR => by
  refine wp_loop_ghost (fun n a w => ∃ γ' x' i, γ'.F0 = γ.F0 ∧ Rel w0 own γ' x'.S a w ∧ I i x' ∧ μ i = n) (μ i0) ⟨γ, x, i0, rfl, hR, h0, rfl⟩ ?_
  rintro n a w ⟨γ1, x1, i, g1, g2, g3, rfl⟩
  refine Code.wp_mono (fun e a' w' hp => ?_) (round i x1 g3 w0 own γ1 a w g2)
  obtain ⟨γ', x', h1, h2, h3⟩ := hp
  cases e with
  | normal => obtain ⟨i', hn, hI⟩ := h3; exact ⟨μ i', hn, γ', x', i', h1.trans g1, h2, hI, rfl⟩
  | _ => exact ⟨γ', x', h1.trans g1, h2, h3⟩
theorem Zcc {c : Code} {Q Q' : Exit → X → Prop} (h : XWP P c Q x) (hq : ∀ e x, Q e x → Q' e x) : XWP P c Q' x := fun w0 own γ a w hR =>
  Code.wp_mono (fun e a' w' ⟨γ', x', h1, h2, h3⟩ => ⟨γ', x', h1, h2, hq _ _ h3⟩) (h w0 own γ a w hR)
def rnds (f : (Exit → X → Prop) → X → Prop) (Q : Exit → X → Prop) : Nat → X → Prop
  | 0, _ => False
  | m + 1, x => f (fun e x' => match e with | .normal => rnds f Q m x' | e => Q e x') x
theorem ZqP {c : Code} {f : (Exit → X → Prop) → X → Prop} (hf : ∀ Q x, f Q x → XWP P c Q x) {Q : Exit → X → Prop} (n : Nat) (h : rnds f Q n x) : XWP P (.loop c) Q x := by
  refine ZfW (ι := Nat) (fun n x => rnds f Q n x) id n h fun i x hi => ?_
  cases i with
  | zero => exact hi.elim
  | succ i =>
    refine Zcc (hf _ _ hi) fun e x' he => ?_
    cases e with
    | normal => exact ⟨i, Nat.lt_succ_self _, he⟩
    | _ => exact he
theorem ALex.mono {ops : Array Oper} {Q Q' : List (List Nat × List Nat) → St → Prop} (hq : ∀ acc st, Q acc st → Q' acc st) : ∀ (l : List Oper) (acc : List (List Nat × List Nat)) (st : St), ALex P w0 own ops Q l acc st → ALex P w0 own ops Q' l acc st
  | [], acc, st, h => hq _ _ h
  | o :: l, acc, st, ⟨K, p, h1, h2, h3, h4⟩ => ⟨K, p, h1, h2, h3, ALex.mono hq l _ _ h4⟩
theorem Znv {id : Nat} {os : Array Oper} {H : Hooks} (hH : Zam P H) (hm : P.follows .mixedOrders = true) {Q : Exit → X → Prop}
    (h : ZiR P H os (fun acc x' => cond (ZeA os acc.reverse os.toList.length 0) (x'.close H (Q .normal)) False) os.toList [] x) : XWP P (.region id os true) Q x := fun w0 own γ a w hR => by
  have hA := Zcq (w0 := w0) (own := own) hH _ _ _ _ h
  have hAWP : AWP P w0 own (.region id os true) (fun e st => ∃ x' : X, st = x'.S ∧ e = .normal ∧ x'.close H (Q .normal)) x.S := by
    have := Zg7 (P := P) (w0 := w0) (own := own) (id := id) (l := os.toList) (st := x.S) (Q := fun e st => ∃ x' : X, st = x'.S ∧ e = .normal ∧ x'.close H (Q .normal)) hm
    simp only [Array.toArray_toList] at this
    refine this (ALex.mono ?_ _ _ _ hA)
    rintro acc st ⟨x', rfl, h12⟩
    obtain ⟨h1, h2⟩ := Zag h12
    exact ⟨h1, x', rfl, trivial, h2⟩
  refine Code.wp_mono (fun e a' w' hp => ?_) (hAWP γ a w hR)
  obtain ⟨γ', st', h1, h2, x', rfl, rfl, h3⟩ := hp
  obtain ⟨γ3, x3, k1, k2, k3⟩ := Zfj h2 h3
  exact ⟨γ3, x3, k1.trans h1.F0, k2, k3⟩
theorem Zld {id : Nat} {os : Array Oper} {H : Hooks} (hH : Zam P H) {Q : Exit → X → Prop}
    (h : Zfz P H os (fun x' => x'.close H (Q .normal)) os.toList x) : XWP P (.region id os false) Q x := fun w0 own γ a w hR => by
  have := wp_region_lit (P := P) (id := id) (l := os.toList) (Q := ZtO w0 own γ.F0 Q) (a := a) (w := w)
  simp only [Array.toArray_toList] at this
  refine this (ZdA (F0 := γ.F0) hH (fun γ' a' w' x' g1 g2 g3 => ?_) os.toList 0 x γ a w (by simp) rfl hR h)
  obtain ⟨γ3, x3, k1, k2, k3⟩ := Zfj g2 g3
  exact ⟨γ3, x3, k1.trans g1, k2, k3⟩
theorem Zm3 {Q : Exit → Act → World → Prop} : ∀ (f : Nat) (l : Array Bool) (a : Act) (w : World), wpAny P .any ops Q f l a w → wpAny P .any ops Q (f + 1) l a w
  | 0, l, a, w, h => ⟨fun _ => h.2, fun i hi => by rw [h.1] at hi; cases hi⟩
  | f + 1, l, a, w, h => ⟨h.1, fun i hi => wpOp_mono (fun a w => Zm3 f _ a w) (h.2 i hi)⟩
theorem Zru {Q : Exit → Act → World → Prop} {f g : Nat} (hfg : f ≤ g) {l : Array Bool} {a : Act} {w : World} (h : wpAny P .any ops Q f l a w) : wpAny P .any ops Q g l a w := by
  induction hfg with
  | refl => exact h
  | step _ ih => exact Zm3 _ _ _ _ ih
theorem AAny.sound' {K : Nat → List Nat} {pat : Nat → Patch} {Q : St → Prop} {Qw : Exit → Act → World → Prop} {γ0 : Gh} (hq : ∀ γ a w st, γ0.le γ → Rel w0 own γ st a w → Q st → Qw .normal a w) : ∀ (fuel : Nat) (listed : Array Bool) (st : St) (γ : Gh) (a : Act) (w : World), γ0.le γ → Rel w0 own γ st a w → AAny ops K pat P w0 own Q fuel listed st → wpAny P .any ops Qw fuel listed a w
  | 0, listed, st, γ, a, w, hle, hR, h => ⟨h.1, hq γ a w st hle hR h.2⟩
  | fuel + 1, listed, st, γ, a, w, hle, hR, h => ⟨fun hr => hq γ a w st hle hR (h.1 hr), fun i hi => by
      obtain ⟨_, _, o, ho, _⟩ := ZaW.1 hi
      obtain ⟨s1, s2⟩ := h.2 i hi o ho
      exact hR.stepA ho s1 fun γ' a' w' h1 h2 => AAny.sound' hq fuel _ _ γ' a' w' (Gh.le_trans hle h1) h2 s2⟩
theorem ZiM {l : Array Bool} {i : Nat} (h : i < l.size) (d d' : Bool) : l.getD i d = l.getD i d' := by
  simp [Array.getD_eq_getD_getElem?, h]
theorem Znm {l : List Oper} {acc : List (List Nat × List Nat)} (hl : ∀ j, l[j]? = ops[acc.length + j]?) (hsz : acc.length + l.length = ops.size) {Q : St → Prop} {st : St}
    (h : ALex P w0 own ops (fun acc' st' => ZeA ops acc'.reverse l.length acc.length = true ∧ Q st') l acc st) {listed : Array Bool} (hls : listed.size = ops.size) (hlisted : ∀ j, j < ops.size → listed.getD j true = decide (j < acc.length)) :
    ∃ K pat, AAny ops K pat P w0 own Q l.length listed st := by
  obtain ⟨add, pat, sts, e1, e2, ⟨e3, e3'⟩, e4⟩ := ALex.run l acc st hl h
  rw [List.reverse_append, List.reverse_reverse] at e3
  generalize hF : acc.reverse ++ add = F at e3
  have hget : ∀ j, j < l.length → F[acc.length + j]? = add[j]? := fun j hj => by
    rw [← hF, List.getElem?_append_right (by simp), List.length_reverse, Nat.add_sub_cancel_left]
  generalize hp : (fun j => if j < acc.length then (⟨(ops[j]?).bind (·.dst), .dead, []⟩ : Patch) else pat j) = pat'
  have hpat : ∀ j, acc.length ≤ j → pat' j = pat j := fun j hj => by rw [← hp]; simp only; rw [if_neg (by omega)]
  have e5 : ∀ j, acc.length ≤ j → j < ops.size → ∀ o, ops[j]? = some o → ZkQ F j = Zbo (pat' j).ups ∧ (pat' j).dst = o.dst ∧ (∀ q, q ∈ Zbo (pat' j).ups → q ∈ ZdK F j) ∧ StepA P w0 own ops o (ZdK F j) (sts j) (pat' j) ∧ sts (j + 1) = (sts j).patch (pat' j) := fun j h1 h2 o ho => by
    obtain ⟨i, rfl⟩ : ∃ i, j = acc.length + i := ⟨j - acc.length, by omega⟩
    have hi : i < l.length := by omega
    obtain ⟨f, g1, g2, g3, g4, g5, g6⟩ := e4 i hi o ((hl i).trans ho)
    rw [hpat _ h1]
    have hf : F[acc.length + i]? = some f := (hget i hi).trans g1
    have f1 : ZdK F (acc.length + i) = f.1 := by simp [ZdK, List.getD, hf]
    have f2 : ZkQ F (acc.length + i) = f.2 := by simp [ZkQ, List.getD, hf]
    rw [f1, f2]
    exact ⟨g2, g3, fun q hq => g4 q (by rw [g2]; exact hq), g5, g6⟩
  have hfoot : ∀ j, acc.length ≤ j → j < ops.size → ZkQ F j = Zbo (pat' j).ups := fun j h1 h2 => (e5 j h1 h2 _ (Array.getElem?_eq_getElem h2)).1
  have hpair : ∀ i j, acc.length ≤ i → i < ops.size → acc.length ≤ j → j < ops.size → Zgm ops F i j = ZfM ops (ZdK F) pat' i j := by
    intro i j hi hi' hj hj'
    unfold Zgm ZfM
    rw [hfoot i hi hi', hfoot j hj hj']
    all_goals (cases ops[i]? <;> cases ops[j]? <;> rfl)
  have hlex : ∀ m k, acc.length ≤ k → k + m = ops.size → ZhR ops (Zgg ops.toList []) F m k = true → Zlx ops (depM ops) (ZdK F) pat' m k = true := by
    intro m
    induction m with
    | zero => intro _ _ _ _; rfl
    | succ m ih =>
      intro k hk0 hk hx
      simp only [ZhR, Zlx, Bool.and_eq_true] at hx ⊢
      refine ⟨?_, ih (k + 1) (by omega) (by omega) hx.2⟩
      have this := hx.1
      rw [List.all_eq_true] at this ⊢
      intro j hj
      have hj' : j < ops.size := by simpa using hj
      have h2 := this j hj
      simp only [Bool.or_eq_true, decide_eq_true_eq] at h2 ⊢
      rcases h2 with (h2 | h2) | h2
      · exact .inl (.inl (Nat.le_of_ble_eq_true h2))
      · exact .inl (.inr h2)
      · by_cases hjk : j ≤ k
        · exact .inl (.inl hjk)
        · exact .inr (by rw [← hpair k j hk0 (by omega) (by omega) hj']; exact h2)
  unfold ZeA at e3
  rw [Bool.and_eq_true] at e3
  have hbk : Back ops := fun k ok hok e he hb => by
    have := Zdj _ 0 e3.1 k ok (by simpa using hok) e he hb
    omega
  refine ⟨ZdK F, pat', AAny.lex (Q := fun _ => Q) hbk (ZiT _) l.length acc.length listed st hsz hls hlisted (hlex _ _ (Nat.le_refl _) hsz e3.2) ?_ ⟨sts, e2, fun j h1 h2 o ho => ⟨(e5 j h1 h2 o ho).2.2.2.1, (e5 j h1 h2 o ho).2.2.2.2⟩, by rw [← hsz]; exact e3'⟩⟩
  intro j oj hoj
  have hj : j < ops.size := by
    rcases Nat.lt_or_ge j ops.size with h | h
    · exact h
    · rw [Array.getElem?_eq_none h] at hoj; cases hoj
  by_cases hja : j < acc.length
  · rw [← hp]
    simp only [if_pos hja, hoj, Option.bind_some]
    exact ⟨trivial, fun q hq => by simp [Zbo] at hq⟩
  · obtain ⟨_, g2, g3, _⟩ := e5 j (by omega) hj oj hoj
    exact ⟨g2, g3⟩
theorem Zor {opsA : Array Oper} {m i : Nat} {K : List Nat} {p : Patch} (hm : opsA.size = m) (hpre : ∀ j, j < m → opsA[j]? = ops[j]?) (hi : i < m) (ho : opsA[i]? = some o) (hs : StepA P w0 own opsA o K st p) (hR : Rel w0 own γ st a w) {next : Act → World → Prop} {Q : Exit → Act → World → Prop}
    (hn : ∀ γ' a' w', γ.le γ' → Rel w0 own γ' (st.patch p) a' w' → next a' w') : wpOp P ops Q i next a w := by
  have h1 := hR.stepA ho hs (next := next) (Q := Q) hn
  have hg : ∃ b, ZcT opsA st o = some b := by rcases hs with ⟨h, _⟩ | ⟨h, _⟩ <;> exact ⟨_, h⟩
  have hw : Region.wanted o (yielded ops a.tmps) = Region.wanted o (yielded opsA a.tmps) := by
    unfold Region.wanted
    cases hgd : o.guard with
    | none => rfl
    | some jw =>
      obtain ⟨j, want⟩ := jw
      obtain ⟨b, hb⟩ := hg
      unfold ZcT at hb
      rw [hgd] at hb
      simp only at hb
      have hj : j < m := by
        rcases Nat.lt_or_ge j m with h | h
        · exact h
        · rw [Array.getElem?_eq_none (by omega)] at hb
          simp at hb
      simp only [yielded, hpre j hj]
  unfold wpOp at h1 ⊢
  rw [ho] at h1
  rw [← hpre i hi, ho]
  simp only at h1 ⊢
  rw [hw]; exact h1
theorem ZpG {opsA : Array Oper} {K : Nat → List Nat} {pat : Nat → Patch} {Qs : St → Prop} {Q : Exit → Act → World → Prop} {γ0 : Gh} {m f : Nat} (hm : opsA.size = m) (hmo : m < ops.size) (hpre : ∀ j, j < m → opsA[j]? = ops[j]?) (hback : Back ops) (hdepC : ∀ i, i < m → depM ops m i = true)
    (hB : ∀ j o, m < j → ops[j]? = some o → ∃ e ∈ o.after, Region.binds .any e = true ∧ m ≤ e.on)
    (hcont : ∀ f' γ' a' w' st' (listed' : Array Bool), f ≤ f' → γ0.le γ' → Rel w0 own γ' st' a' w' → Qs st' → listed'.size = ops.size → (∀ j, j < ops.size → listed'.getD j true = decide (j < m)) → wpAny P .any ops Q f' listed' a' w') :
    ∀ (fuel : Nat) (la listed : Array Bool) (st : St) (γ : Gh) (a : Act) (w : World), la.size = m → listed.size = ops.size → (∀ j, j < m → listed.getD j true = la.getD j true) → (∀ j, m ≤ j → j < ops.size → listed.getD j true = false) → Closed ops listed → γ0.le γ → Rel w0 own γ st a w → AAny opsA K pat P w0 own Qs fuel la st → wpAny P .any ops Q (fuel + f) listed a w := by
  have claim1 : ∀ la : Array Bool, la.size = m → Region.ready .any opsA la = [] → ∀ j, j < m → la.getD j true = true := by
    intro la hla hr j
    induction j using Nat.strongRecOn with
    | _ j ih =>
      intro hj
      cases hx : la.getD j true with
      | true => rfl
      | false =>
        have ho : opsA[j]? = some opsA[j] := Array.getElem?_eq_getElem (by omega)
        have : j ∈ Region.ready .any opsA la := ZaW.2 ⟨by omega, hx, _, ho, fun e he hb => by
          have hlt := hback j _ ((hpre j hj).symm.trans ho) e he hb
          rw [ZiM (by omega) false true]
          exact ih e.on hlt (by omega)⟩
        rw [hr] at this; cases this
  have claim2 : ∀ (la listed : Array Bool), la.size = m → listed.size = ops.size → (∀ j, j < m → listed.getD j true = la.getD j true) → (∀ j, m ≤ j → j < ops.size → listed.getD j true = false) → Closed ops listed → (∃ i, i < m ∧ la.getD i true = false) → ∀ j, j ∈ Region.ready .any ops listed → j < m ∧ j ∈ Region.ready .any opsA la := by
    intro la listed hla hls h1 h2 hc ⟨i, hi, hif⟩ j hj
    obtain ⟨g1, g2, o, ho, g3⟩ := ZaW.1 hj
    rcases Nat.lt_trichotomy j m with hjm | rfl | hjm
    · refine ⟨hjm, ZaW.2 ⟨by omega, by rw [← h1 j hjm]; exact g2, o, (hpre j hjm).trans ho, fun e he hb => ?_⟩⟩
      have hlt := hback j o ho e he hb
      have := g3 e he hb
      rw [ZiM (by omega) false true] at this ⊢
      rw [← h1 e.on (by omega)]; exact this
    · obtain ⟨e, he, hb, hd⟩ := ZiT ops i j o ho (hdepC i hi)
      have hl := ZgX (g3 e he hb)
      have hlt := hback j o ho e he hb
      have : listed.getD i true = true := by
        rcases hd with rfl | hd
        · exact hl
        · exact Zh0 hback (ZiT ops) hc i e.on (by omega) hl hd
      rw [h1 i hi, hif] at this; cases this
    · obtain ⟨e, he, hb, hme⟩ := hB j o hjm ho
      have hlt := hback j o ho e he hb
      have := ZgX (g3 e he hb)
      rw [h2 e.on hme (by omega)] at this; cases this
  have done : ∀ (f' : Nat) (la listed : Array Bool) (st : St) (γ : Gh) (a : Act) (w : World), f ≤ f' → la.size = m → listed.size = ops.size → (∀ j, j < m → listed.getD j true = la.getD j true) → (∀ j, m ≤ j → j < ops.size → listed.getD j true = false) → γ0.le γ → Rel w0 own γ st a w → Region.ready .any opsA la = [] → Qs st → wpAny P .any ops Q f' listed a w :=
    fun f' la listed st γ a w hf hla hls h1 h2 hle hR hr hq => hcont f' γ a w st listed hf hle hR hq hls fun j hj => by
      by_cases hjm : j < m
      · rw [h1 j hjm, claim1 la hla hr j hjm]; simp [hjm]
      · rw [h2 j (by omega) hj]; simp [hjm]
  intro fuel
  induction fuel with
  | zero => exact fun la listed st γ a w hla hls h1 h2 hc hle hR h => done _ la listed st γ a w (by omega) hla hls h1 h2 hle hR h.1 h.2
  | succ fuel ih =>
    intro la listed st γ a w hla hls h1 h2 hc hle hR h
    by_cases hr : Region.ready .any opsA la = []
    · exact done _ la listed st γ a w (by omega) hla hls h1 h2 hle hR hr (h.1 hr)
    · obtain ⟨i, hi⟩ := List.exists_mem_of_ne_nil _ hr
      obtain ⟨i1, i2, oi, hoi, i3⟩ := ZaW.1 hi
      rw [(by omega : fuel + 1 + f = (fuel + f) + 1)]
      refine ⟨fun hn => ?_, fun j hj => ?_⟩
      · have : i ∈ Region.ready .any ops listed := ZaW.2 ⟨by omega, by rw [h1 i (by omega)]; exact i2, oi, (hpre i (by omega)).symm.trans hoi, fun e he hb => by
          have hlt := hback i oi ((hpre i (by omega)).symm.trans hoi) e he hb
          have := i3 e he hb
          rw [ZiM (by omega) false true] at this ⊢
          rw [h1 e.on (by omega)]; exact this⟩
        rw [hn] at this; cases this
      · obtain ⟨hjm, hjA⟩ := claim2 la listed hla hls h1 h2 hc ⟨i, by omega, i2⟩ j hj
        obtain ⟨g1, g2, o, ho, g3⟩ := ZaW.1 hjA
        obtain ⟨_, _, o', ho', g3'⟩ := ZaW.1 hj
        obtain ⟨s1, s2⟩ := h.2 j hjA o ho
        refine Zor hm hpre hjm ho s1 hR fun γ' a' w' q1 q2 => ?_
        refine ih (la.setIfInBounds j true) (listed.setIfInBounds j true) _ γ' a' w' (by simpa using hla) (by simpa using hls) (fun k hk => ?_) (fun k hk hk' => ?_) (Zh9 hc ho' g3') (Gh.le_trans hle q1) q2 s2
        · by_cases hkj : k = j
          · subst hkj
            simp [Array.getD_eq_getD_getElem?, show k < listed.size by omega, show k < la.size by omega]
          · rw [Za1 hkj, Za1 hkj]; exact h1 k hk
        · rw [Za1 (by omega)]; exact h2 k hk hk'
def Zud (H : Hooks) : List Oper → Nat → Option Nat
  | [], _ => none
  | o :: l, k => match ZoI H o with | some _ => some k | none => Zud H l (k + 1)
def Zuj (ops : Array Oper) (c : Oper) (m : Nat) : Bool := ZjI ops.toList 0 && (c.guard.isNone && (((List.range m).all fun i => depM ops m i) && (ops.toList.drop (m + 1)).all fun o => o.after.toList.any fun e => Region.binds .any e && Nat.ble m e.on))
def Ztc (P : Program) (H : Hooks) (os : Array Oper) (m : Nat) (Q : X → Prop) (x : X) : Prop :=
  match os.toList.drop m with
  | c :: B => match Zuj os c m, ZoI H c with
    | true, some F => ZiR P H (os.toList.take m).toArray (fun acc x1 => match ZeA (os.toList.take m).toArray acc.reverse m 0 with
      | true => F x1 fun x2 => ZiR P H os (fun acc x' => cond (ZeA os acc.reverse B.length (m + 1)) (x'.close H Q) False) B (List.replicate (m + 1) ([], [])) x2
      | false => False) (os.toList.take m) [] x
    | _, _ => False
  | [] => False
theorem ZsR {id : Nat} {os : Array Oper} {H : Hooks} (hH : Zam P H) (hm : P.follows .mixedOrders = true) {Q : Exit → X → Prop} {m : Nat} (h : Ztc P H os m (Q .normal) x) : XWP P (.region id os true) Q x := fun w0 own γ a w hR => by
  unfold Ztc at h
  split at h
  case h_2 => exact h.elim
  rename_i c B hd
  split at h
  case h_2 => exact h.elim
  rename_i F hok hF
  have hmo : m < os.size := by
    rcases Nat.lt_or_ge m os.size with h | h
    · exact h
    · rw [List.drop_eq_nil_of_le (by simpa using h)] at hd; cases hd
  have hc : os[m]? = some c := by
    have : (os.toList.drop m)[0]? = some c := by rw [hd]; rfl
    rw [List.getElem?_drop] at this; simpa using this
  have hBl : ∀ j, B[j]? = os[m + 1 + j]? := fun j => by
    have : (os.toList.drop m)[j + 1]? = B[j]? := by rw [hd]; rfl
    rw [List.getElem?_drop] at this
    rw [← this, (by omega : m + (j + 1) = m + 1 + j)]; simp
  have hBs : m + 1 + B.length = os.size := by
    have := congrArg List.length hd
    simp at this; omega
  unfold Zuj at hok
  simp only [Bool.and_eq_true, List.all_eq_true, List.mem_range] at hok
  obtain ⟨k1, k2, k3, k4⟩ := hok
  have hbk : Back os := fun k ok hok e he hb => by
    have := Zdj _ 0 k1 k ok (by simpa using hok) e he hb
    omega
  have hB : ∀ j o, m < j → os[j]? = some o → ∃ e ∈ o.after, Region.binds .any e = true ∧ m ≤ e.on := fun j o hj ho => by
    have h1 : (os.toList.drop (m + 1))[j - (m + 1)]? = some o := by rw [List.getElem?_drop, (by omega : m + 1 + (j - (m + 1)) = j)]; simpa using ho
    have h2 := k4 o (List.mem_of_getElem? h1)
    rw [List.any_eq_true] at h2
    obtain ⟨e, he, h3⟩ := h2
    rw [Bool.and_eq_true] at h3
    exact ⟨e, by simpa using he, h3.1, Nat.le_of_ble_eq_true h3.2⟩
  have hAs : (os.toList.take m).toArray.size = m := by simp; omega
  have hpre : ∀ j, j < m → (os.toList.take m).toArray[j]? = os[j]? := fun j hj => by
    simp [List.getElem?_take, hj]
  have hlenA : (os.toList.take m).length = m := by simp; omega
  let Qs : St → Prop := fun st => ∃ x1 : X, st = x1.S ∧ F x1 fun x2 => ZiR P H os (fun acc x' => cond (ZeA os acc.reverse B.length (m + 1)) (x'.close H (Q .normal)) False) B (List.replicate (m + 1) ([], [])) x2
  have hA := Zcq (w0 := w0) (own := own) hH _ _ _ _ h
  obtain ⟨K, pat, hany⟩ := Znm (acc := []) (Q := Qs) (listed := Array.replicate m false) (fun j => by simp) (by simp) (ALex.mono (fun acc st ⟨x', e, h1⟩ => by
    split at h1
    · rename_i hl
      exact ⟨by rw [hlenA]; exact hl, x', e, h1⟩
    · exact h1.elim) _ _ _ hA) (by rw [hAs]; simp) (fun j hj => by rw [hAs] at hj; simp [Array.getD_eq_getD_getElem?, Array.getElem?_replicate, hj])
  rw [hlenA] at hany
  refine wp_region_any hm ?_
  rw [(by omega : os.size = m + (B.length + 1))]
  refine ZpG (γ0 := γ) (Qs := Qs) (f := B.length + 1) hAs hmo hpre hbk k3 hB ?_ m _ _ x.S γ a _ (by simp) (by simp; omega) (fun j hj => ?_) (fun j _ hj => ?_) ?_ γ.le_refl hR.drew hany
  · rintro f' γ' a' w' st' listed' hf hle hR' ⟨x1, rfl, hx1⟩ hls hlisted
    refine Zru hf ⟨fun hr => ?_, fun j hj => ?_⟩
    · have : m ∈ Region.ready .any os listed' := ZaW.2 ⟨hmo, by rw [hlisted m hmo]; simp, c, hc, fun e he hb => by
        have hlt := hbk m c hc e he hb
        rw [ZiM (by omega) false true, hlisted e.on (by omega)]
        simpa using hlt⟩
      rw [hr] at this; cases this
    · obtain ⟨g1, g2, o, ho, g3⟩ := ZaW.1 hj
      have hjm : j = m := by
        rcases Nat.lt_trichotomy j m with hlt | he | hlt
        · rw [hlisted j g1] at g2; simp [hlt] at g2
        · exact he
        · obtain ⟨e, he, hb, hme⟩ := hB j o hlt ho
          have hlt' := hbk j o ho e he hb
          have := ZgX (g3 e he hb)
          rw [hlisted e.on (by omega)] at this
          simp at this; omega
      subst hjm
      unfold wpOp
      rw [hc]
      simp only
      have hw : Region.wanted c (yielded os a'.tmps) = true := by
        unfold Region.wanted
        rw [Option.isNone_iff_eq_none.1 k2]
      rw [if_pos hw]
      refine .inl (Zhy hH.2.2.2.2 hF hx1 hR' _ _ fun γ2 a2 w2 x2 q1 q2 q3 => ?_)
      have hA2 := Zcq (w0 := w0) (own := own) hH _ _ _ _ q3
      obtain ⟨K2, pat2, hany2⟩ := Znm (acc := List.replicate (j + 1) ([], [])) (Q := fun st => ∃ x' : X, st = x'.S ∧ x'.close H (Q .normal)) (listed := listed'.setIfInBounds j true) (fun i => by simpa using hBl i) (by simpa using hBs) (ALex.mono (fun acc st ⟨x', e, h1⟩ => by
        obtain ⟨h2, h3⟩ := Zag h1
        exact ⟨by simpa using h2, x', e, h3⟩) _ _ _ hA2) (by simpa using hls) (fun i hi => by
          by_cases hij : i = j
          · subst hij
            simp [Array.getD_eq_getD_getElem?, show i < listed'.size by omega]
          · rw [Za1 hij, hlisted i hi]
            have : (i < j) ↔ (i < j + 1) := by omega
            simp [this])
      refine AAny.sound' (γ0 := γ2) (fun γ3 a3 w3 st3 r1 r2 r3 => ?_) _ _ _ γ2 a2 w2 γ2.le_refl q2 hany2
      obtain ⟨x', rfl, r4⟩ := r3
      obtain ⟨γ5, x5, k1, k2, k3⟩ := Zfj r2 r4
      exact ⟨γ5, x5, k1.trans ((r1.F0.trans q1).trans hle.F0), k2, k3⟩
  · simp [Array.getD_eq_getD_getElem?, Array.getElem?_replicate, hj, show j < m + (B.length + 1) by omega]
  · simp [Array.getD_eq_getD_getElem?, Array.getElem?_replicate, show j < m + (B.length + 1) by omega]
  · intro k ok hok hl e he hb
    have hk : k < os.size := by
      rcases Nat.lt_or_ge k os.size with h | h
      · exact h
      · rw [Array.getElem?_eq_none h] at hok; cases hok
    simp [Array.getD_eq_getD_getElem?, Array.getElem?_replicate, show k < m + (B.length + 1) by omega] at hl
def ZbI : Code → Nat
  | .region id _ _ => id
  | .seq a _ => ZbI a
  | .block _ c => ZbI c
  | .loop c => ZbI c
  | _ => 0
def Zbd : Code → List Code
  | .seq a b => Zbd a ++ Zbd b
  | .cond _ a b => Zbd a ++ Zbd b
  | .block _ c => Zbd c
  | .loop c => c :: Zbd c
  | _ => []
def evp (P : Program) (H : Hooks) : Nat → Code → (Exit → X → Prop) → X → Prop
  | 0, _, _, _ => False
  | n + 1, c, Q, x => match c with
    | .skip => Q .normal x
    | .ret => Q .ret x
    | .exit id => Q (.exit id) x
    | .seq c d => evp P H n c (fun e x' => match e with | .normal => evp P H n d Q x' | e => Q e x') x
    | .block id c => evp P H n c (fun e x' => match e with | .exit i => (match Nat.beq i id with | true => Q .normal x' | false => Q (.exit i) x') | e => Q e x') x
    | .cond t c d => match evA x.S t with
      | .bb q => cond q (evp P H n c Q x) True ∧ evp P H n d Q x
      | _ => evB x t fun b x' => match b with | true => evp P H n c Q x' | false => evp P H n d Q x'
    | .loop c => match H.loop (ZbI c) with
      | some s => s Q x
      | none => rnds (evp P H n c) Q 600 x
    | .region _ os draw => match draw with
      | true => match Zud H os.toList 0 with
        | some m => Ztc P H os m (Q .normal) x
        | none => ZiR P H os (fun acc x' => cond (ZeA os acc.reverse os.toList.length 0) (x'.close H (Q .normal)) False) os.toList [] x
      | false => Zfz P H os (fun x' => x'.close H (Q .normal)) os.toList x
    | _ => False
def Zaz (P : Program) (H : Hooks) (c : Code) : Prop := ∀ b ∈ Zbd c, ∀ s, H.loop (ZbI b) = some s → ∀ Q x, s Q x → XWP P (.loop b) Q x
theorem Zbk {H : Hooks} (hH : Zam P H) (hm : P.follows .mixedOrders = true) : ∀ (n : Nat) (c : Code) (Q : Exit → X → Prop) (x : X), Zaz P H c → evp P H n c Q x → XWP P c Q x
  | 0, _, _, _, _, h => h.elim
  | n + 1, c, Q, x, hl, h => by
    have ih := Zbk hH hm n
    unfold evp at h
    split at h
    · exact fun w0 own γ a w hR => wp_skip ⟨γ, x, rfl, hR, h⟩
    · exact fun w0 own γ a w hR => wp_ret ⟨γ, x, rfl, hR, h⟩
    · exact fun w0 own γ a w hR => wp_exit ⟨γ, x, rfl, hR, h⟩
    · rename_i c d
      refine ZpE (Zcc (ih c _ x (fun b hb => hl b (List.mem_append_left _ hb)) h) fun e x' he => ?_)
      cases e with
      | normal => exact ih d Q x' (fun b hb => hl b (List.mem_append_right _ hb)) he
      | _ => exact he
    · rename_i id c
      exact Zoz (ih c _ x hl h)
    · rename_i t c d
      split at h
      · rename_i q hq
        intro w0 own γ a w hR
        have hv := hR.ev t
        rw [hq] at hv
        generalize hvv : a.eval t = v at hv
        cases hv with
        | bb b _ hb =>
          refine wp_cond hvv ?_
          cases b with
          | true =>
            have h1 := h.1
            rw [hb rfl] at h1
            exact ih c Q x (fun b hb => hl b (List.mem_append_left _ hb)) h1 w0 own γ a w hR
          | false => exact ih d Q x (fun b hb => hl b (List.mem_append_right _ hb)) h.2 w0 own γ a w hR
      obtain ⟨b, hb, h⟩ := Ziu h
      intro w0 own γ a w hR
      have := hR.ev t
      rw [hb] at this
      refine wp_cond (AR.sc_inv this).1 ?_
      cases b with
      | true => exact ih c Q x (fun b hb => hl b (List.mem_append_left _ hb)) h w0 own γ a w hR
      | false => exact ih d Q x (fun b hb => hl b (List.mem_append_right _ hb)) h w0 own γ a w hR
    · rename_i c
      split at h
      · rename_i s hs
        exact hl c (by simp [Zbd]) s hs Q x h
      · exact ZqP (fun Q x h => ih c Q x (fun b hb => hl b (by simp [Zbd, hb])) h) 600 h
    · split at h
      · split at h
        · exact ZsR hH hm h
        · exact Znv hH hm h
      · exact Zld hH h
    · exact h.elim
end

section
open Go
variable {P : Program} {w0 : World} {own : Nat → Prop} {γ : Gh} {st : St} {a : Act} {w : World} {o : Oper} {x : X} {ops : Array Oper}
def Zsu (P : Program) (x : X) (r : ResultVar) (K : A → Prop) : Prop :=
  match r with
  | .tmp t => K (x.tmps.getD t .dead).wk
  | .cell t T => match x.tmps.getD t .dead with
    | .c (.rp k g wd i j) => match Zar x.store k with
      | some (.bx tag wd' row) => match Nat.beq tag g && (Nat.beq wd' wd && Nat.beq i 0) with
        | true => ZhX P T row j fun y => match y.cells with
          | some cs => match ZbB cs with | true => K y | false => False
          | none => False
        | false => False
      | _ => False
    | _ => False
theorem ZpI {ag : Bool} {cs : List C} {y : A} {ds : List C} (h : mkA ag cs = some y) (hd : y.cells = some ds) : ds = cs := by
  unfold mkA at h
  split at h
  · cases h; simpa [A.cells] using hd.symm
  · split at h
    · cases h
      rename_i c
      simp only [A.cells] at hd
      split at hd
      · cases hd; rfl
      · cases hd
    · cases h
theorem ZnD {r : ResultVar} {K : A → Prop} (h : Zsu P x r K) : ∃ y, resV P x.S r = some y ∧ K y := by
  unfold Zsu at h
  split at h
  · exact ⟨_, rfl, h⟩
  · rename_i t T
    split at h
    · rename_i k g wd i j ht
      split at h
      · rename_i tag wd' row hk
        split at h
        · rename_i hb
          simp only [Bool.and_eq_true] at hb
          obtain ⟨e1, e2, e3⟩ := hb
          have e1 := Zaa e1; have e2 := Zaa e2; have e3 := Zaa e3
          subst e1 e2 e3
          obtain ⟨n, ag, cs, y, q1, q2, q3, q4, q5⟩ := Zdq h
          split at q5
          · rename_i ds hds
            split at q5
            · rename_i hok
              have e := ZpI q4 hds
              subst e
              refine ⟨y, ?_, q5⟩
              have ht' : x.S.tmps t = .c (.rp k tag wd' 0 j) := ht
              have hk' : x.S.store k = some (XRoot.bx tag wd' row).root := Za5 hk
              unfold resV
              simp only [ht', hk', XRoot.root, and_self, if_true, List.getElem?_cons_zero, Option.bind_some, q1, q3, hok, q2, q4]
            · exact q5.elim
          · exact q5.elim
        · exact h.elim
      · exact h.elim
    · exact h.elim
def ZkO (P : Program) (x : X) : List ResultVar → (List A → Prop) → Prop
  | [], K => K []
  | r :: l, K => Zsu P x r fun y => ZkO P x l fun ys => K (y :: ys)
theorem Zcv : ∀ (l : List ResultVar) (K : List A → Prop), ZkO P x l K → ∃ ys, Zd4 P x.S l = some ys ∧ K ys
  | [], K, h => ⟨[], rfl, h⟩
  | r :: l, K, h => by
    obtain ⟨y, h1, h2⟩ := ZnD h
    obtain ⟨ys, h3, h4⟩ := Zcv l _ h2
    exact ⟨y :: ys, by simp [Zd4, h1, h3], h4⟩
def finX (P : Program) (fn : Func) (K : DV → Prop) (e : Exit) (x : X) : Prop :=
  match e with
  | .ret => body
  | .normal => body
  | _ => False
where body := ZkO P x fn.results.toList fun ys => match ys with
  | [y] => outA x y fun d ks => match ZfI ks with | true => K d | false => False
  | ys => outT x ys fun ds ks => match ZfI ks with | true => K (.tup ds) | false => False
theorem Zo7 {fn : Func} {res : DV} {e : Exit} (h : finX P fn (fun r => r = res) e x) : FinA P fn res e x.S := by
  have key : ∀ h : finX.body P fn (fun r => r = res) x, ((∃ y ks, Zd4 P x.S fn.results.toList = some [y] ∧ OutA x.S y res ks ∧ ks.Nodup) ∨ (∃ xs ds ks, Zd4 P x.S fn.results.toList = some xs ∧ xs.length ≠ 1 ∧ res = .tup ds ∧ OutT x.S xs ds ks ∧ ks.Nodup)) := by
    intro h
    unfold finX.body at h
    obtain ⟨ys, h1, h2⟩ := Zcv _ _ h
    split at h2
    · rename_i y
      obtain ⟨d, ks, h3, h4⟩ := Zlr h2
      split at h4
      · rename_i hn
        subst h4
        exact .inl ⟨y, ks, h1, h3, Zbr _ hn⟩
      · exact h4.elim
    · rename_i hne
      obtain ⟨ds, ks, h3, h4⟩ := Zij _ _ h2
      split at h4
      · rename_i hn
        subst h4
        refine .inr ⟨ys, ds, ks, h1, fun hl => ?_, rfl, h3, Zbr _ hn⟩
        match ys, hl with
        | [y], _ => exact hne y rfl
      · exact h4.elim
  unfold finX at h
  split at h
  · exact ⟨.inl rfl, key h⟩
  · exact ⟨.inr rfl, key h⟩
  · exact h.elim
def padA : List A → Nat → List A
  | l, 0 => l
  | [], n + 1 => .dead :: padA [] n
  | y :: l, n + 1 => y :: padA l n
def Zb6 (n : Nat) (args : List DV) : X :=
  X.ups { tmps := padA (upT (fun _ => 0) 1000000 args).2 n, store := [], gens := [] } (upT (fun _ => 0) 1000000 args).1
theorem ZdT : ∀ (l : List A) (n : Nat), l.length ≤ n → (padA l n).length = n
  | [], 0, _ => rfl
  | _ :: _, 0, h => by simp at h
  | [], n + 1, _ => by simp [padA, ZdT [] n (Nat.zero_le _)]
  | y :: l, n + 1, h => by simp [padA, ZdT l n (by simpa using h)]
theorem Zd1 : ∀ (l : List A) (n i : Nat), (padA l n).getD i .dead = l.getD i .dead
  | l, 0, i => by unfold padA; rfl
  | [], n + 1, 0 => by simp [padA]
  | [], n + 1, i + 1 => by
    have := Zd1 [] n i
    simp only [padA, List.getD_cons_succ]; rw [this]; simp
  | y :: l, n + 1, 0 => by simp [padA]
  | y :: l, n + 1, i + 1 => by
    have := Zd1 l n i
    simp only [padA, List.getD_cons_succ]; exact this
theorem Zo9 (gen : Nat → Nat) : ∀ (l : List DV) (k : Nat), (upT gen k l).2.length = l.length
  | [], _ => rfl
  | d :: l, k => by simp [upT, Zo9 gen l]
theorem Zmz (fn : Func) {args : List DV} (hn : args.length ≤ fn.ntmps) (hfit : (DV.tup args).fit32 = true) : (Zb6 fn.ntmps args).S = entry fn args := by
  have e0 : (ZaZ fn).gen = fun _ => 0 := rfl
  unfold Zb6 entry
  rw [ZrK, Zmv args (ZaZ fn) 1000000 hfit, e0]
  simp only [St.ups, St.patch, X.S, ZaZ, Zar]
  congr 1
  · exact ZdT _ _ (by rw [Zo9]; exact hn)
  · funext i
    exact Zd1 _ _ i
theorem Zo2 {f : FuncId} {fn : Func} {c : Code} {args : List DV} {res : DV} (hf : P.funcs[f]? = some fn) (hb : fn.body = some c) (hn : args.length ≤ fn.ntmps) (hfit : (DV.tup args).fit32 = true)
    (h : XWP P c (finX P fn fun r => r = res) (Zb6 fn.ntmps args)) : CT P f args res := by
  intro w vs S G hov hG hS
  cases hov with
  | tup _ _ _ sub hs hx hsub hdis =>
    have h0 := Rel.start fn w vs S G hG (by omega)
    have hfree : ∀ i, Free w S { β := fun _ _ => none, F := G, FP := fun _ _ _ _ => False, gen := fun _ => 0, F0 := ⟨G, fun _ => undef⟩ } (ZaZ fn) w (sub i) := fun i b hb => by
      refine ⟨fun hg => ?_, fun k R hk => by simp [ZaZ] at hk, .inl (hsub i b hb), hS b (hsub i b hb)⟩
      rcases hg with hg | ⟨_, _, _, hg⟩
      · exact (hG b hg).2 (hsub i b hb)
      · exact hg.elim
    obtain ⟨γ1, q1, q2, ⟨q3, q4⟩, _⟩ := ZeP args _ (ZaZ fn) 1000000 (fun i => vs.getD i undef) sub h0 hx hfree hdis
    have hR : Rel w S γ1 (entry fn args) { tmps := vs ++ Array.replicate (fn.ntmps - vs.size) undef, defers := [] } w := by
      refine q2.know fun i => ?_
      by_cases hi : i < args.length
      · have := q4 i ((matT (ZaZ fn) 1000000 args).2[i]'(by omega)) (List.getElem?_eq_getElem _)
        have e1 : (vs ++ Array.replicate (fn.ntmps - vs.size) undef).getD i undef = vs.getD i undef := by
          have : i < vs.size := by omega
          simp [Array.getD_eq_getD_getElem?, Array.getElem?_append, this]
        have e2 : (matT (ZaZ fn) 1000000 args).2.getD i .dead = (matT (ZaZ fn) 1000000 args).2[i]'(by omega) := by
          simp [List.getD, List.getElem?_eq_getElem (show i < (matT (ZaZ fn) 1000000 args).2.length by omega)]
        simp only [e2]
        show AR γ1 w ((vs ++ Array.replicate (fn.ntmps - vs.size) undef).getD i undef) _
        rw [e1]; exact this
      · have e2 : (matT (ZaZ fn) 1000000 args).2.getD i .dead = .dead := by
          simp [List.getD, List.getElem?_eq_none (show (matT (ZaZ fn) 1000000 args).2.length ≤ i by omega)]
        simp only [e2]
        exact .dead _
    refine calls_of_wp hf hb (Code.wp_mono (fun e a' w' hp => ?_) (h w S γ1 _ w (by rw [Zmz fn hn hfit]; exact hR)))
    obtain ⟨γ', x', g1, g2, hq⟩ := hp
    obtain ⟨hfin, hres⟩ := Zo7 hq
    generalize hst' : x'.S = st' at g2 hres
    have hF0 : γ'.F0 = ⟨G, fun _ => undef⟩ := g1.trans q1.F0
    have hfoot : ∀ ks b, γ'.foot st' ks b → (S b ∨ w.heap.size ≤ b) ∧ b < w'.heap.size ∧ ¬ γ'.F b := by
      rintro ks b ⟨k, R, _, hk, hc | ⟨i, j, hc⟩⟩
      · obtain ⟨p1, _, p3⟩ := g2.rootF k R b hk hc
        exact ⟨p3, g2.ltβ k R.tag b (by rw [g2.gen]; exact g2.tag k R hk) hc, p1⟩
      · obtain ⟨p1, p2⟩ := g2.fpF k i j b hc
        exact ⟨p2, g2.lt b (.inr ⟨k, i, j, hc⟩), p1⟩
    have hG' : ∀ ks b, γ'.F b → (G b ∨ S b ∨ w.heap.size ≤ b) ∧ b < w'.heap.size ∧ ¬ γ'.foot st' ks b := fun ks b hF => by
      refine ⟨?_, g2.lt b (.inl hF), fun hx => (hfoot ks b hx).2.2 hF⟩
      have := g2.fs b hF
      rw [hF0] at this
      exact this
    have key : ∃ v, (results fn a'.tmps).run P w' = .ok v w' ∧ ∃ ks, OV w' γ'.F v res (γ'.foot st' ks) := by
      rcases hres with ⟨x, ks, r1, r2, r3⟩ | ⟨xs, ds, ks, r1, r2, rfl, r4, r5⟩
      · obtain ⟨us, u1, u2, u3⟩ := Zch g2 _ _ r1
        obtain ⟨u, rfl⟩ : ∃ u, us = [u] := by
          match us, u2 with
          | [u], _ => exact ⟨u, rfl⟩
        exact ⟨_, ZbT u1, ks, Zhf g2 (show AR γ' w' u x by simpa using u3 0 x rfl) r2 r3⟩
      · obtain ⟨us, u1, u2, u3⟩ := Zch g2 _ _ r1
        obtain ⟨e1, sub', s1, s2, s3⟩ := ZeT g2 xs ds ks (fun i => us.getD i undef) r4 r5 u3
        refine ⟨_, ZbT u1, ks, ?_⟩
        have : Zlm us = .tuple us.toArray := by
          match us, u2 with
          | [u], h => simp at h; omega
          | [], _ => rfl
          | _ :: _ :: _, _ => rfl
        rw [this]
        exact .tup _ _ _ sub' (by simp; omega) (fun i d hd => by simpa [Array.getD_eq_getD_getElem?, List.getD] using s1 i d hd) s2 s3
    obtain ⟨v, v1, ks, v2⟩ := key
    have hpost : a'.defers = [] ∧ ∃ v, (results fn a'.tmps).run P w' = .ok v w' ∧ ∃ v' S', Ending.returned v = .returned v' ∧ OV w' (fun b => (G b ∨ S b ∨ w.heap.size ≤ b) ∧ b < w'.heap.size ∧ ¬ S' b) v' res S' ∧ (∀ b, S' b → (S b ∨ w.heap.size ≤ b) ∧ b < w'.heap.size) ∧ Env w S w' :=
      ⟨g2.defers, v, v1, v, γ'.foot st' ks, rfl, v2.mono (hG' ks) (.refl _ _) (.refl _ _), fun b hb => ⟨(hfoot ks b hb).1, (hfoot ks b hb).2.1⟩, g2.env⟩
    rcases hfin with rfl | rfl
    · exact hpost
    · exact hpost
theorem ZcS {H : Hooks} (hH : Zam P H) (hm : P.follows .mixedOrders = true) {f : FuncId} {fn : Func} {c : Code} {args : List DV} {res : DV} (n : Nat) (hf : P.funcs[f]? = some fn) (hb : fn.body = some c) (hl : Zaz P H c) (hn : args.length ≤ fn.ntmps) (hfit : (DV.tup args).fit32 = true)
    (h : evp P H n c (finX P fn fun r => r = res) (Zb6 fn.ntmps args)) : CT P f args res :=
  Zo2 hf hb hn hfit (Zbk hH hm n c _ _ hl h)
end

section
open Go
variable {P : Program}
abbrev Spec := List DV → (DV → Prop) → Prop
def Zad (P : Program) (f : FuncId) (s : Spec) : Prop := ∀ ds Q, s ds Q → Goes P f ∧ ∃ r, CT P f ds r ∧ (r.pureOwn = true ∨ (DV.tup ds).pureOwn = true ∨ CTN P f ds r) ∧ r.fit32 = true ∧ Q r
def Zkf : List (FuncId × Spec) → FuncId → Spec
  | [], _ => fun _ _ => False
  | (k, s) :: l, f => match Nat.beq k f with | true => s | false => Zkf l f
def hk (l : List (FuncId × Spec)) : Hooks := { and := band, or := bor, i2f := rI2F, f2i := rF2I, fok := rOK, call := Zkf l, loop := fun _ => none }
inductive SpecsOK (P : Program) : List (FuncId × Spec) → Prop
  | nil : SpecsOK P []
  | cons {f s l} : Zad P f s → SpecsOK P l → SpecsOK P ((f, s) :: l)
theorem Zf0 : ∀ {l : List (FuncId × Spec)}, SpecsOK P l → ∀ f, Zad P f (Zkf l f)
  | [], _, f => fun ds Q h => h.elim
  | (k, s) :: l, .cons h1 h2, f => by
    unfold Zkf
    split
    · rename_i hb
      have := Zaa hb; subst this
      exact h1
    · exact Zf0 h2 f
theorem Zma {l : List (FuncId × Spec)} (h : SpecsOK P l) : Zam P (hk l) := ⟨fun _ _ => rfl, fun _ _ => rfl, ⟨fun _ => rfl, fun _ => rfl, fun _ => rfl⟩, fun f ds Q hq => Zf0 h f ds Q hq, Zkr rfl⟩
theorem ZbW {l : List (FuncId × Spec)} {c : Code} : Zaz P (hk l) c := fun b hb s hs => by cases hs
abbrev I (n : Int) : DV := .c (.v (.int .i64 n))
abbrev B (b : Bool) : DV := .c (.v (.bool b))
abbrev vi (n : Int) : D := .v (.int .i64 n)
def Zav (fn : Func) : Code := fn.body.getD .skip
def ask (P : Program) (l : List (FuncId × Spec)) (fn : Func) (args : List DV) (K : DV → Prop) : Prop := evp P (hk l) 200 (Zav fn) (finX P fn K) (Zb6 fn.ntmps args)
theorem Zak {l : List (FuncId × Spec)} (hH : SpecsOK P l) (hm : P.follows .mixedOrders = true) {f : FuncId} {fn : Func} {args : List DV} {res : DV} (hf : P.funcs[f]? = some fn) (hb : fn.body.isSome = true) (hn : Nat.ble args.length fn.ntmps = true) (hfit : (DV.tup args).fit32 = true)
    (h : ask P l fn args fun r => r = res) : CT P f args res := by
  obtain ⟨c, hc⟩ := Option.isSome_iff_exists.1 hb
  have e : Zav fn = c := by simp [Zav, hc]
  unfold ask at h
  rw [e] at h
  exact ZcS (Zma hH) hm 200 hf hc ZbW (Nat.le_of_ble_eq_true hn) hfit h
def Zi4 (ts : List Nat) : Nat → List A → List A
  | _, [] => []
  | i, y :: l => (match ts.any (Nat.beq i) with | true => y | false => .dead) :: Zi4 ts (i + 1) l
def Zkh (ks : List Nat) : List (Nat × XRoot) → List (Nat × XRoot)
  | [] => []
  | (k, R) :: l => match ks.any (Nat.beq k) with | true => (k, R) :: Zkh ks l | false => Zkh ks l
def X.only (x : X) (ts ks : List Nat) : X := { x with tmps := Zi4 ts 0 x.tmps, store := Zkh ks x.store }
theorem ZgV (ts : List Nat) : ∀ (l : List A) (i : Nat), (Zi4 ts i l).length = l.length
  | [], _ => rfl
  | y :: l, i => by simp [Zi4, ZgV ts l]
theorem Zgu (ts : List Nat) : ∀ (l : List A) (i j : Nat), (Zi4 ts i l).getD j .dead = l.getD j .dead ∨ (Zi4 ts i l).getD j .dead = .dead
  | [], i, j => .inl rfl
  | y :: l, i, 0 => by
    simp only [Zi4, List.getD_cons_zero]
    split
    · exact .inl rfl
    · exact .inr rfl
  | y :: l, i, j + 1 => by simpa [Zi4] using Zgu ts l (i + 1) j
theorem ZhB (ks : List Nat) : ∀ (l : List (Nat × XRoot)) (k : Nat), Zar (Zkh ks l) k = Zar l k ∨ Zar (Zkh ks l) k = none
  | [], k => .inl rfl
  | (k', R) :: l, k => by
    have ih := ZhB ks l k
    simp only [Zkh]
    split
    · simp only [Zar]
      split
      · exact .inl rfl
      · exact ih
    · rename_i hb
      simp only [Zar]
      cases e : Nat.beq k' k with
      | true =>
        have := Zaa e; subst this
        right
        have : ∀ l : List (Nat × XRoot), Zar (Zkh ks l) k' = none := by
          intro l
          induction l with
          | nil => rfl
          | cons p l ih2 =>
            obtain ⟨k2, R2⟩ := p
            simp only [Zkh]
            split
            · rename_i hb2
              simp only [Zar]
              cases e2 : Nat.beq k2 k' with
              | true => have := Zaa e2; subst this; rw [hb] at hb2; cases hb2
              | false => exact ih2
            · exact ih2
        exact this l
      | false => exact ih
theorem Rel.only {w0 : World} {own : Nat → Prop} {γ : Gh} {a : Act} {w : World} {x : X} (h : Rel w0 own γ x.S a w) (ts ks : List Nat) : Rel w0 own γ (x.only ts ks).S a w := by
  have hst : ∀ k R, (x.only ts ks).S.store k = some R → x.S.store k = some R := by
    intro k R hk
    simp only [X.S, X.only] at hk ⊢
    rcases ZhB ks x.store k with e | e
    · rw [e] at hk; exact hk
    · rw [e] at hk; cases hk
  exact { env := h.env, size := by rw [h.size]; simp [X.S, X.only, ZgV], defers := h.defers
          tmps := fun i => by
            have := h.tmps i
            simp only [X.S, X.only] at this ⊢
            rcases Zgu ts x.tmps 0 i with e | e
            · rw [e]; exact this
            · rw [e]; exact .dead _
          ghost := h.ghost, gen := h.gen
          tag := fun k R hk => h.tag k R (hst k R hk), mem := fun k R hk => h.mem k R (hst k R hk)
          inj := fun k R k' R' b h1 h2 => h.inj k R k' R' b (hst k R h1) (hst k' R' h2)
          rootF := fun k R b h1 => h.rootF k R b (hst k R h1), fpF := h.fpF, fpD := h.fpD, fs := h.fs, lt := h.lt, ltβ := h.ltβ }
theorem Zb0 {c : Code} {Q : Exit → X → Prop} {x : X} (ts ks : List Nat) (h : XWP P c Q (x.only ts ks)) : XWP P c Q x := fun w0 own γ a w hR => h w0 own γ a w (hR.only ts ks)
theorem Zcf {c : Code} {Q : Exit → X → Prop} {x : X} (ts ks : List Nat) (h : XWP P c (fun e y => Q e (y.only ts ks)) x) : XWP P c Q x := fun w0 own γ a w hR =>
  Code.wp_mono (fun e a' w' ⟨γ', x', h1, h2, h3⟩ => ⟨γ', _, h1, h2.only ts ks, h3⟩) (h w0 own γ a w hR)
abbrev LSum := (Exit → X → Prop) → X → Prop
def Zdu : List (Nat × LSum) → Nat → Option LSum
  | [], _ => none
  | (k, s) :: l, f => match Nat.beq k f with | true => some s | false => Zdu l f
def hkA (and or : Int → Int → Int) (l : List (FuncId × Spec)) (m : List (Nat × LSum)) : Hooks := { and := and, or := or, i2f := rI2F, f2i := rF2I, fok := rOK, call := Zkf l, loop := Zdu m }
abbrev hkl (l : List (FuncId × Spec)) (m : List (Nat × LSum)) : Hooks := hkA band bor l m
theorem ZaJ {l : List (FuncId × Spec)} {m : List (Nat × LSum)} (h : SpecsOK P l) : Zam P (hkl l m) := ⟨fun _ _ => rfl, fun _ _ => rfl, ⟨fun _ => rfl, fun _ => rfl, fun _ => rfl⟩, fun f ds Q hq => Zf0 h f ds Q hq, Zkr rfl⟩
def Zal (fn : Func) (i : Nat) : Code := ((Zbd (Zav fn))[i]?).getD .skip
def seen (V : X → X) (N : X → Prop) (y : X) : Prop := y = V y ∧ N (V y)
theorem Zna {V : X → X} {N : X → Prop} {y : X} (h : seen V N y) : N y := by rw [h.1]; exact h.2
def ZaA (and or : Int → Int → Int) (P : Program) (l : List (FuncId × Spec)) (m : List (Nat × LSum)) (fn : Func) (i : Nat) (ts ks : List Nat) (V VE : X → X) (N : X → Prop) (E : Exit → X → Prop) (x : X) : Prop :=
  evp P (hkA and or l m) 200 (Zal fn i) (fun e y => match e with | .normal => seen V N (y.only ts ks) | e => seen VE (E e) (y.only ts ks)) x
def ZbY (y : X) (i : Nat) : Int := match y.tmps.getD i .dead with | .c (.d (.v (.int _ n))) => n | _ => 0
def Zjf (y : X) (i : Nat) : Bool := match y.tmps.getD i .dead with | .c (.d (.v (.bool n))) => n | _ => false
def rowOf (y : X) (k : Nat) : List C := match Zar y.store k with | some (.bx _ _ row) => row | _ => []
theorem Zas {ι : Type} {H : Hooks} {fn : Func} {i : Nat} {ts ks : List Nat} (hH : Zam P H) (hm : P.follows .mixedOrders = true) (hl : Zaz P H (Zal fn i)) (St : ι → X) (inv : ι → Prop) (μ : ι → Nat) {Q : Exit → X → Prop} {x : X} (i0 : ι) (V VE : X → X)
    (hr : ∀ p, inv p → evp P H 200 (Zal fn i) (fun e y => match e with | .normal => seen V (fun y => ∃ p', μ p' < μ p ∧ inv p' ∧ y = St p') (y.only ts ks) | e => seen VE (Q e) (y.only ts ks)) (St p)) (h0 : inv i0) (hx : x.only ts ks = St i0) : XWP P (.loop (Zal fn i)) Q x := by
  refine Zb0 ts ks (Zcf ts ks ?_)
  rw [hx]
  refine ZfW (ι := ι) (fun p y => inv p ∧ y.only ts ks = St p ∨ inv p ∧ y = St p) μ i0 (.inr ⟨h0, rfl⟩) fun p y hy => ?_
  have key : XWP P (Zal fn i) (fun e y => match e with | .normal => ∃ p', μ p' < μ p ∧ (inv p' ∧ y.only ts ks = St p' ∨ inv p' ∧ y = St p') | e => Q e (y.only ts ks)) (St p) := by
    have hp : inv p := hy.elim And.left And.left
    refine Zcc (Zbk hH hm 200 _ _ _ hl (hr p hp)) fun e y he => ?_
    cases e with
    | normal => obtain ⟨p', h1, h2, h3⟩ := Zna he; exact ⟨p', h1, .inl ⟨h2, h3⟩⟩
    | _ => exact Zna he
  rcases hy with ⟨_, h⟩ | ⟨_, rfl⟩
  · exact Zb0 ts ks (by rw [h]; exact key)
  · exact key
def askA (and or : Int → Int → Int) (P : Program) (l : List (FuncId × Spec)) (m : List (Nat × LSum)) (fn : Func) (args : List DV) (K : DV → Prop) : Prop := evp P (hkA and or l m) 200 (Zav fn) (finX P fn K) (Zb6 fn.ntmps args)
abbrev askL (P : Program) (l : List (FuncId × Spec)) (m : List (Nat × LSum)) (fn : Func) (args : List DV) (K : DV → Prop) : Prop := askA band bor P l m fn args K
theorem ZaB {l : List (FuncId × Spec)} {m : List (Nat × LSum)} (hH : SpecsOK P l) (hm : P.follows .mixedOrders = true) {f : FuncId} {fn : Func} {args : List DV} {res : DV} (hL : Zaz P (hkl l m) (Zav fn)) (hf : P.funcs[f]? = some fn) (hb : fn.body.isSome = true) (hn : Nat.ble args.length fn.ntmps = true) (hfit : (DV.tup args).fit32 = true)
    (h : askL P l m fn args fun r => r = res) : CT P f args res := by
  obtain ⟨c, hc⟩ := Option.isSome_iff_exists.1 hb
  have e : Zav fn = c := by simp [Zav, hc]
  unfold askL askA at h
  rw [e] at h hL
  exact ZcS (ZaJ hH) hm 200 hf hc hL (Nat.le_of_ble_eq_true hn) hfit h
theorem Zc9 {H : Hooks} {fn : Func} (n : Nat) (hn : (Zbd (Zav fn)).length = n) (h : ∀ i, i < n → ∀ s, H.loop (ZbI (Zal fn i)) = some s → ∀ Q x, s Q x → XWP P (.loop (Zal fn i)) Q x) : Zaz P H (Zav fn) := fun b hb s hs Q x hq => by
  obtain ⟨i, hi⟩ := List.getElem?_of_mem hb
  have hin : i < n := by rw [← hn]; exact (List.getElem?_eq_some_iff.1 hi).1
  have e : Zal fn i = b := by simp [Zal, hi]
  have := h i hin s (by rw [e]; exact hs) Q x hq
  rw [e] at this; exact this
theorem Zae {H : Hooks} {c : Code} (h : Zbd c = []) : Zaz P H c := fun b hb => by rw [h] at hb; cases hb
end

section
open Go
def mkT (n : Nat) (al : List (Nat × A)) : List A := (List.range n).map fun i => (Zar al i).getD .dead
abbrev ai (n : Int) : A := .c (.d (.v (.int .i64 n)))
abbrev ci (n : Int) : C := .d (.v (.int .i64 n))
abbrev ab (b : Bool) : A := .c (.d (.v (.bool b)))
abbrev aS (z : Nat) (R sp : List (List D)) : A := .c (.d (.s 0 z R sp))
abbrev dS (z : Nat) (R sp : List (List D)) : DV := .c (.s 0 z R sp)
abbrev oS (z : Nat) (R sp : List (List D)) : DV := .c (.s 1 z R sp)
def slotL (y : X) (i : Nat) : Nat := match y.tmps.getD i .dead with | .c (.rs _ _ _ _ len _) => len | _ => 0
def Zfn (y : X) (k : Nat) : List (List D) := match Zar y.store k with | some (.sl _ _ rows) => rows | _ => []
def ZpV (y : X) (i : Nat) (K : Int → Prop) : Prop := match y.tmps.getD i .dead with | .c (.d (.v (.int .i64 n))) => K n | _ => False
theorem Zfc {y : X} {i : Nat} {K : Int → Prop} (h : ZpV y i K) : ∃ n, K n := by
  unfold ZpV at h
  split at h
  · exact ⟨_, h⟩
  · exact h.elim
theorem Za9 {P : Program} {l : List (FuncId × Spec)} {fn : Func} {k : Nat} {s : LSum} (hn : (Zbd (Zav fn)).length = 1) (hk : ZbI (Zal fn 0) = k) (h : ∀ Q x, s Q x → XWP P (.loop (Zal fn 0)) Q x) : Zaz P (hkl l [(k, s)]) (Zav fn) :=
  Zc9 1 hn fun i hi s' hs Q x hq => by
    match i, hi with
    | 0, _ =>
      rw [hk] at hs
      have hs' : some s = some s' := by simpa [Zdu, hkl, hkA, Zbm] using hs
      cases hs'
      exact h Q x hq
theorem Zta {x : Int} (h1 : -9223372036854775808 ≤ x) (h2 : x ≤ 9223372036854775807) : IntKind.wrap .i64 x = x := by
  rw [IntKind.wrap_i64]; omega
theorem Zaj {i n : Nat} (h : i + n ≤ 9223372036854775807) : IntKind.wrap .i64 ((i : Int) + (n : Int)) = ((i + n : Nat) : Int) := by
  rw [Zta (by omega) (by omega)]; omega
def dI : D → Int
  | .v (.int _ n) => n
  | _ => 0
abbrev vI (n : Int) : D := .v (.int .i64 n)
def mZ (l : List (List Int)) : List (List D) := l.map fun r => r.map vI
def toZ (R : List (List D)) : List (List Int) := R.map fun r => r.map dI
def isI (d : D) : Bool := match d with | .v (.int .i64 _) => true | _ => false
def okZ (z : Nat) (R : List (List D)) : Bool := R.all (fun r => Nat.beq r.length z && r.all isI) && Nat.ble R.length 9223372036854775807
def wid (z : Nat) (l : List (List Int)) : Prop := ∀ r ∈ l, r.length = z
theorem ZqO {d : D} (h : isI d = true) : d = vI (dI d) := by
  unfold isI at h
  split at h
  · rfl
  · cases h
theorem Zah {z : Nat} {R : List (List D)} (h : okZ z R = true) : R = mZ (toZ R) ∧ wid z (toZ R) ∧ R.length ≤ 9223372036854775807 := by
  simp only [okZ, Bool.and_eq_true, List.all_eq_true] at h
  obtain ⟨h1, h2⟩ := h
  refine ⟨?_, fun r hr => ?_, Nat.le_of_ble_eq_true h2⟩
  · simp only [mZ, toZ, List.map_map]
    refine (List.map_id R).symm.trans (List.map_congr_left fun r hr => ?_)
    simp only [Function.comp, List.map_map, id]
    refine (List.map_id r).symm.trans (List.map_congr_left fun d hd => ?_)
    exact ZqO ((h1 r hr).2 d hd)
  · obtain ⟨r0, h0, rfl⟩ := List.mem_map.1 hr
    rw [List.length_map]; exact Zaa (h1 r0 h0).1
theorem ZfO (l : List (List Int)) : toZ (mZ l) = l := by
  simp only [mZ, toZ, List.map_map]
  refine (List.map_congr_left fun r hr => ?_).trans (List.map_id l)
  simp only [Function.comp, List.map_map, id]
  exact (List.map_congr_left fun n _ => rfl).trans (List.map_id r)
theorem Zai (l : List (List Int)) : (mZ l).length = l.length := by simp [mZ]
theorem Zan (R : List (List D)) : (toZ R).length = R.length := by simp [toZ]
theorem ZrP {z : Nat} {l : List (List Int)} (h : wid z l) (hl : l.length ≤ 9223372036854775807) : okZ z (mZ l) = true := by
  simp only [okZ, Bool.and_eq_true, List.all_eq_true]
  refine ⟨fun r hr => ?_, Nat.ble_eq_true_of_le (by rw [Zai]; exact hl)⟩
  obtain ⟨r0, h0, rfl⟩ := List.mem_map.1 hr
  refine ⟨by rw [List.length_map, h r0 h0]; exact Zbm z, fun d hd => ?_⟩
  obtain ⟨n, _, rfl⟩ := List.mem_map.1 hd
  rfl
theorem Zss (l : List (List Int)) : allV (mZ l) = true := by
  simp only [allV, mZ, List.all_eq_true]
  intro r hr d hd
  obtain ⟨r0, _, rfl⟩ := List.mem_map.1 hr
  obtain ⟨n, _, rfl⟩ := List.mem_map.1 hd
  rfl
theorem Zek (l : List (List Int)) (i : Nat) : (mZ l).getD i [] = (l.getD i []).map vI := by
  simp only [mZ, List.getD_eq_getElem?_getD, List.getElem?_map]
  cases l[i]? <;> rfl
theorem ZuO (r : List Int) (j : Nat) : hdJ ((r.map vI).drop j) = r.getD j 0 := by
  rw [← List.map_drop, List.getD_eq_getElem?_getD]
  induction r generalizing j with
  | nil => simp [hdJ]
  | cons n r ih => cases j with
    | zero => rfl
    | succ j => simpa using ih j
theorem ZbS (l : List (List Int)) (i j : Nat) : hdJ (((mZ l).getD i []).drop j) = (l.getD i []).getD j 0 := by rw [Zek, ZuO]
theorem ZaF (l : List (List Int)) (i : Nat) : hdJ ((mZ l).getD i []) = (l.getD i []).getD 0 0 := ZbS l i 0
theorem Zr0 : ∀ (n : Nat) (r : List Int), n ≤ r.length → isJ (List.replicate n IntKind.i64) (r.map vI) = true
  | 0, _, _ => rfl
  | n + 1, [], h => by simp at h
  | n + 1, x :: r, h => by
    simp only [List.replicate_succ, List.map_cons, isJ, decide_true, Bool.true_and]
    exact Zr0 n r (by simpa using h)
theorem ZaC {z : Nat} {l : List (List Int)} (h : wid z l) {i : Nat} (hi : i < l.length) : (l.getD i []).length = z := by
  have : l.getD i [] = l[i] := by simp [List.getD_eq_getElem?_getD, hi]
  rw [this]; exact h _ (List.getElem_mem hi)
theorem Zau {z : Nat} {l : List (List Int)} (h : wid z l) {i j n : Nat} (hi : i < l.length) (hj : j + n ≤ z) : isJ (List.replicate n IntKind.i64) (((mZ l).getD i []).drop j) = true := by
  rw [Zek, ← List.map_drop]
  exact Zr0 n _ (by rw [List.length_drop, ZaC h hi]; omega)
theorem Zb9 {z : Nat} {l : List (List Int)} (h : wid z l) {i j : Nat} (hi : i < l.length) (hj : j + 1 ≤ z) : isJ [IntKind.i64] (((mZ l).getD i []).drop j) = true := Zau (n := 1) h hi hj
theorem Zs8 (l : List (List Int)) (n : Nat) : (mZ l).take n = mZ (l.take n) := by simp [mZ, List.map_take]
theorem Ze6 {W : List (List D)} {n : Nat} (h : W.length = n) : cut W 0 n = W := by subst h; simp [cut]
theorem ZrH {z : Nat} {l : List (List Int)} (h : wid z l) (n : Nat) : wid z (l.take n) := fun r hr => h r (List.mem_of_mem_take hr)
theorem Zfx : ∀ (a b : List Int), a.length = b.length → eqI a b = decide (a = b)
  | [], [], _ => rfl
  | [], _ :: _, h => by simp at h
  | _ :: _, [], h => by simp at h
  | x :: a, y :: b, h => by
    have ih := Zfx a b (by simpa using h)
    simp only [eqI, ih]
    by_cases h1 : x = y
    · subst h1; simp
    · simp [h1]
theorem row3 {r : List Int} (h : r.length = 3) : [r.getD 0 0, r.getD 1 0, r.getD 2 0] = r := by match r, h with | [a, b, c], _ => rfl
theorem row4 {r : List Int} (h : r.length = 4) : [r.getD 0 0, r.getD 1 0, r.getD 2 0, r.getD 3 0] = r := by match r, h with | [a, b, c, d], _ => rfl
theorem Zf7 (r : List Int) (j : Nat) (v : Int) (h : j < r.length) : splice (r.map vI) j [vI v] = (r.set j v).map vI := by
  rw [List.set_eq_take_append_cons_drop, if_pos h]
  simp [splice, List.map_take, List.map_drop]
theorem Zks (l : List (List Int)) (i : Nat) (r : List Int) : (mZ l).set i (r.map vI) = mZ (l.set i r) := by simp [mZ, List.map_set]
theorem ZgE {z : Nat} {l : List (List Int)} (h : wid z l) {i : Nat} {r : List Int} (hr : r.length = z) : wid z (l.set i r) := fun x hx => by
  rcases List.mem_or_eq_of_mem_set hx with hx | hx
  · exact h x hx
  · rw [hx]; exact hr
theorem ZeF {l l' : List (List Int)} (hl : l.length = l'.length) (h : ∀ j, j < l.length → l.getD j [] = l'.getD j []) : l = l' :=
  List.ext_getElem hl fun j h1 h2 => by
    have := h j h1
    simpa [List.getD_eq_getElem?_getD, h1, h2] using this
theorem Zao {R : List (List D)} (h : allV R = true) : (R.all fun r => r.all D.keeps) = true := by
  unfold allV at h
  simp only [List.all_eq_true] at h ⊢
  intro r hr d hd
  have := h r hr d hd
  cases d <;> simp [D.isV] at this
  rfl
theorem ZaE {R : List (List D)} (h : allV R = true) : Zdt R = true := by
  have hL : ∀ r : List D, r.all D.isV = true → ownL r = true := fun r => by
    induction r with
    | nil => intro _; rfl
    | cons d r ih =>
      intro hr
      simp only [List.all_cons, Bool.and_eq_true] at hr
      simp only [ownL, Bool.and_eq_true]
      refine ⟨?_, ih hr.2⟩
      cases d <;> simp [D.isV] at hr
      rfl
  induction R with
  | nil => rfl
  | cons r R ih =>
    simp only [allV, List.all_cons, Bool.and_eq_true] at h
    simp only [Zdt, Bool.and_eq_true]
    exact ⟨hL r h.1, ih h.2⟩
theorem Zab {z : Nat} {R : List (List D)} (h : okZ z R = true) : allV R = true := by
  obtain ⟨e, _, _⟩ := Zah h
  rw [e]; exact Zss _
theorem Zvt {α : Type} (x : List α) : x.tail = x.drop 1 := by cases x <;> rfl
theorem ZvF {α : Type} (x : List α) : x.tail.tail = x.drop 2 := by rcases x with _ | ⟨a, _ | ⟨b, x⟩⟩ <;> rfl
theorem tail3 {α : Type} (x : List α) : x.tail.tail.tail = x.drop 3 := by rcases x with _ | ⟨a, _ | ⟨b, _ | ⟨c, x⟩⟩⟩ <;> rfl
theorem ZaV (l : List (List Int)) (i : Nat) : hdJ ((mZ l).getD i []).tail = (l.getD i []).getD 1 0 := by rw [Zvt, ZbS]
theorem ZaT (l : List (List Int)) (i : Nat) : hdJ ((mZ l).getD i []).tail.tail = (l.getD i []).getD 2 0 := by rw [ZvF, ZbS]
theorem Zbn (l : List (List Int)) (i : Nat) : hdJ ((mZ l).getD i []).tail.tail.tail = (l.getD i []).getD 3 0 := by rw [tail3, ZbS]
end

section
open Go Go.ChangeShapes Go.WideShapes Go.ChangeAt Go.RowKit
open Go.ChangeMaps (open_string shut_string)
variable {P : Program}
theorem below_trodAll {H : Type} {enc : TypeId × Value → H} {P : Program} (hl : laidOutB P = true) {W W' : World} (hb : Below W.heap.size W W') : ∀ {ts : List TypeId} {vs : List Value} {ds : List (DataW H)} {ps : List MemPlace},
    (∀ t ∈ ts, P.readableRec t = true ∧ t < P.types.size) → DataW.TrodAll enc P W 0 (fun _ => true) true ts vs ds ps → (∀ x ∈ ps, x.block < W.heap.size) → DataW.TrodAll enc P W' 0 (fun b => decide (b < W.heap.size)) true ts vs ds ps
  | [], [], [], _, _, h, _ => h
  | t :: ts, v :: vs, d :: ds, _, ht, ⟨p, q, h1, h2, e⟩, hlt => by
    subst e
    exact ⟨p, q, Below.trod hl (ht t (by simp)).1 (ht t (by simp)).2 h1 hb (fun x hx => hlt x (List.mem_append_left _ hx)), below_trodAll hl hb (fun u hu => ht u (List.mem_cons_of_mem _ hu)) h2 (fun x hx => hlt x (List.mem_append_right _ hx)), rfl⟩
theorem calls_true {f : FuncId} {args : List DV} (h : CT P f args (B true)) {w : World} {vs : Array Value} (hov : OV w (· < w.heap.size) (.tuple vs) (.tup args) fun _ => False) : Calls P f vs w fun e w' => e = .returned (.bool true) ∧ Below w.heap.size w w' :=
  (h w vs (fun _ => False) (fun b => b < w.heap.size) hov (fun b hb => ⟨hb, fun h => h⟩) fun _ h => h.elim).mono fun e w' ⟨v, S', he, hv, _, henv⟩ => by
    subst he
    refine ⟨?_, ⟨henv.os, henv.tape, henv.output, henv.size, fun k hk => henv.block k hk fun h => h⟩⟩
    cases hv with
    | c _ _ _ ho => cases ho with
      | r _ _ _ _ hd => cases hd with
        | v _ _ => rfl
theorem len1 (l : List Int) (h : l.length = 1) : ∃ a0, l = [a0] := by
  match l, h with | [a0], _ => exact ⟨a0, rfl⟩
theorem len2 (l : List Int) (h : l.length = 2) : ∃ a0 a1, l = [a0, a1] := by
  match l, h with | [a0, a1], _ => exact ⟨a0, a1, rfl⟩
def OVL (w : World) : List Value → List DV → Prop
  | [], [] => True
  | v :: vs, d :: ds => OV w (· < w.heap.size) v d (fun _ => False) ∧ OVL w vs ds
  | _, _ => False
theorem ZiS {w : World} : ∀ {vs : List Value} {ds : List DV}, OVL w vs ds → vs.length = ds.length ∧ ∀ (i : Nat) v d, vs[i]? = some v → ds[i]? = some d → OV w (· < w.heap.size) v d fun _ => False
  | [], [], _ => ⟨rfl, by simp⟩
  | v :: vs, d :: ds, h => by
    obtain ⟨h1, h2⟩ := h
    obtain ⟨i1, i2⟩ := ZiS h2
    refine ⟨by simp [i1], fun i v' d' hv hd => ?_⟩
    cases i with
    | zero => simp at hv hd; subst hv hd; exact h1
    | succ i => exact i2 i v' d' (by simpa using hv) (by simpa using hd)
  | [], _ :: _, h => h.elim
  | _ :: _, [], h => h.elim
theorem ovl_tuple {w : World} {vs : List Value} {ds : List DV} (h : OVL w vs ds) : OV w (· < w.heap.size) (.tuple vs.toArray) (.tup ds) fun _ => False := Zi1 (ZiS h).1 (ZiS h).2
theorem ovl_nil {w : World} : OVL w [] [] := trivial
theorem ovl_cons {w : World} {v : Value} {d : DV} {vs : List Value} {ds : List DV} (h : OV w (· < w.heap.size) v d fun _ => False) (t : OVL w vs ds) : OVL w (v :: vs) (d :: ds) := ⟨h, t⟩
theorem ov_int {w : World} {G S : Nat → Prop} (n : Int) : OV w G (.int .i64 n) (I n) S := .c _ _ _ (.r _ _ _ (by simp) (.v _ rfl))
def Zxr (P : Program) (t : TypeId) (z : Nat) : Bool := (match P.underlying t with | some (.int k) => decide (k = .i64) && Nat.beq z 1 | _ => false) || (flatT P t .i64 z && (match P.underlying t with | some (.struct fs) => fs.toList.all fun f => Nat.beq (P.cellsOf f.type) 1 | _ => true))
variable {H : Type} {enc : TypeId × Value → H} {w : World} {base : Nat} {sp : Nat → Bool} {held : Bool}
theorem rd_int {r : Reach} {b0 : Nat} {t : TypeId} {v : Value} {d : DataW H} {ps : List MemPlace} (hu : P.underlying t = some (.int .i64)) (hval : Value.okWide P w r b0 t v) (hd : DataW.Trod enc P w base sp held t v d ps) : ∃ n, v = .int .i64 n ∧ (Lit.int .i64 n).wf = true := by
  obtain ⟨n, rfl⟩ := okWide_int hu hval
  obtain ⟨fuel, hf⟩ := hd
  obtain ⟨m, e, _, hw⟩ := DataW.trod_int hu (show DataW.trod enc P w base sp held fuel t [.int .i64 n] = some _ from hf)
  simp at e; subst e
  exact ⟨n, rfl, hw⟩
theorem okWide_agg {r : Reach} {b0 : Nat} {t : TypeId} {v : Value} (hu : (match P.underlying t with | some (.struct _) | some (.array _ _) => true | _ => false) = true) (hval : Value.okWide P w r b0 t v) : ∃ cs, v = .agg cs := by
  unfold Value.okWide at hval
  split at hval
  · obtain ⟨cs, h, _⟩ := hval; exact ⟨cs, h⟩
  · obtain ⟨cs, h, _⟩ := hval; exact ⟨cs, h⟩
  · rename_i h1 h2
    split at hu
    · rename_i fs h; exact (h1 fs h).elim
    · rename_i n e h; exact (h2 n e h).elim
    · cases hu
end

section
open Go Go.ChangeShapes Go.WideShapes
inductive KT where
  | int
  | bool
  | sl (cells : List KT) (bytes : Nat)
mutual
inductive Good : KT → D → Prop
  | int (n : Int) : (Lit.int .i64 n).wf = true → Good .int (vI n)
  | bool (b : Bool) : Good .bool (.v (.bool b))
  | sl (c : List KT) (b : Nat) (rows : List (List D)) : rows.length * b ≤ 140737488351232 → rows.length ≤ 9223372036854775807 → (∀ r ∈ rows, GoodL c r) → Good (.sl c b) (.s 0 c.length rows [])
inductive GoodL : List KT → List D → Prop
  | nil : GoodL [] []
  | cons {c : KT} {d : D} {cs : List KT} {ds : List D} : Good c d → GoodL cs ds → GoodL (c :: cs) (d :: ds)
end
theorem GoodL.append {c c' : List KT} {d d' : List D} (h : GoodL c d) (h' : GoodL c' d') : GoodL (c ++ c') (d ++ d') := by
  induction c generalizing d with
  | nil => cases h; exact h'
  | cons x c ih => cases h with | cons h1 h2 => exact .cons h1 (ih h2)
theorem GoodL.len {c : List KT} {d : List D} (h : GoodL c d) : c.length = d.length := by
  induction c generalizing d with
  | nil => cases h; rfl
  | cons x c ih => cases h with | cons h1 h2 => simp [ih h2]
theorem GoodL.cons_inv {c : KT} {cs : List KT} {ds : List D} (h : GoodL (c :: cs) ds) : ∃ d ds', ds = d :: ds' ∧ Good c d ∧ GoodL cs ds' := by
  cases h with | cons h1 h2 => exact ⟨_, _, rfl, h1, h2⟩
theorem GoodL.nil_inv {ds : List D} (h : GoodL [] ds) : ds = [] := by cases h; rfl
theorem Good.int_inv {d : D} (h : Good .int d) : ∃ n, d = vI n ∧ (Lit.int .i64 n).wf = true := by cases h with | int n h => exact ⟨n, rfl, h⟩
theorem Good.sl_inv {c : List KT} {b : Nat} {d : D} (h : Good (.sl c b) d) : ∃ rows, d = .s 0 c.length rows [] ∧ rows.length * b ≤ 140737488351232 ∧ rows.length ≤ 9223372036854775807 ∧ ∀ r ∈ rows, GoodL c r := by
  cases h with | sl _ _ rows h1 h2 h3 => exact ⟨rows, rfl, h1, h2, h3⟩
theorem GoodL.ints : ∀ {z : Nat} {r : List D}, GoodL (List.replicate z .int) r → Nat.beq r.length z = true ∧ r.all isI = true
  | 0, r, h => by cases h; exact ⟨rfl, rfl⟩
  | z + 1, r, h => by
    cases h with
    | cons h1 h2 =>
      obtain ⟨n, rfl, _⟩ := h1.int_inv
      obtain ⟨i1, i2⟩ := GoodL.ints h2
      exact ⟨by simpa [Nat.beq] using i1, by simp only [List.all_cons, Bool.and_eq_true]; exact ⟨rfl, i2⟩⟩
theorem Good.rows {z b : Nat} {d : D} (h : Good (.sl (List.replicate z .int) b) d) : ∃ rows, d = .s 0 z rows [] ∧ okZ z rows = true ∧ rows.length * b ≤ 140737488351232 := by
  obtain ⟨rows, rfl, h1, h2, h3⟩ := h.sl_inv
  refine ⟨rows, by rw [List.length_replicate], ?_, h1⟩
  simp only [okZ, Bool.and_eq_true, List.all_eq_true]
  exact ⟨fun r hr => by
    obtain ⟨a1, a2⟩ := GoodL.ints (h3 r hr)
    exact ⟨a1, List.all_eq_true.1 a2⟩, Nat.ble_eq_true_of_le h2⟩
def DRL (w : World) : List Value → List D → Prop
  | [], [] => True
  | v :: vs, d :: ds => DR w (· < w.heap.size) v d ∧ DRL w vs ds
  | _, _ => False
theorem DRL.append {w : World} : ∀ {vs vs' : List Value} {ds ds' : List D}, DRL w vs ds → DRL w vs' ds' → DRL w (vs ++ vs') (ds ++ ds')
  | [], _, [], _, _, h => h
  | v :: vs, _, d :: ds, _, h, h' => ⟨h.1, DRL.append h.2 h'⟩
theorem DRL.get {w : World} : ∀ {vs : List Value} {ds : List D}, DRL w vs ds → vs.length = ds.length ∧ ∀ (i : Nat) v d, vs[i]? = some v → ds[i]? = some d → DR w (· < w.heap.size) v d
  | [], [], _ => ⟨rfl, by simp⟩
  | v :: vs, d :: ds, h => by
    obtain ⟨i1, i2⟩ := DRL.get h.2
    refine ⟨by simp [i1], fun i v' d' hv hd => ?_⟩
    cases i with
    | zero => simp at hv hd; subst hv hd; exact h.1
    | succ i => exact i2 i v' d' (by simpa using hv) (by simpa using hd)
def ZeX (P : Program) (rec : TypeId → Option (List KT)) : List Field → Nat → Option (List KT)
  | [], _ => some []
  | f :: fs, off => match rec f.type with
    | some c => match Nat.beq f.offset off && Nat.beq (P.cellsOf f.type) c.length with
      | true => (ZeX P rec fs (off + c.length)).map (c ++ ·)
      | false => none
    | none => none
def ctOf (P : Program) : Nat → TypeId → Option (List KT)
  | 0, _ => none
  | m + 1, t => match P.underlying t with
    | some (.int .i64) => some [.int]
    | some .bool => some [.bool]
    | some (.struct fs) => match ZeX P (ctOf P m) fs.toList 0 with
      | some c => match Nat.beq (P.cellsOf t) c.length with | true => some c | false => none
      | none => none
    | some (.array n e) => match ctOf P m e with
      | some c => match Nat.beq (P.cellsOf e) c.length && Nat.beq (P.cellsOf t) (n * c.length) with | true => some (List.replicate n c).flatten | false => none
      | none => none
    | some (.slice e) => match ctOf P m e with
      | some c => match Nat.beq (P.cellsOf e) c.length && Nat.ble 1 c.length with | true => some [.sl c (P.bytesOf e)] | false => none
      | none => none
    | _ => none
variable {P : Program} {H : Type} {enc : TypeId × Value → H} {w : World} {base : Nat} {sp : Nat → Bool} {held : Bool}
theorem Zcm {e : TypeId} : ∀ {ds : List (DataW H)} {d : DataW H} {n : Nat}, d ∈ ds → n ∈ d.weights P e → n ∈ DataW.weightsAll P e ds
  | x :: ds, d, n, hd, hn => by
    simp only [DataW.weightsAll, List.mem_append]
    rcases List.mem_cons.1 hd with rfl | hd
    · exact .inl hn
    · exact .inr (Zcm hd hn)
def Reach (P : Program) (t : TypeId) (d : DataW H) : Prop := ∀ n ∈ d.weights P t, n ≤ reachBytes
theorem Good.not_own {c : KT} {d : D} (h : Good c d) (z : Nat) (rows sp : List (List D)) : d ≠ .s 1 z rows sp := by
  cases h <;> simp
theorem GoodL.mem {c : List KT} {ds : List D} (h : GoodL c ds) : ∀ d ∈ ds, ∃ k, Good k d := by
  induction c generalizing ds with
  | nil => cases h; simp
  | cons x c ih => cases h with | cons h1 h2 =>
    intro d hd
    rcases List.mem_cons.1 hd with rfl | hd
    · exact ⟨_, h1⟩
    · exact ih h2 d hd
theorem ZqR {ts : List TypeId} {ds : List (DataW H)} (hs : (DataW.weightsEach P ts ds).all (· ≤ reachBytes) = true) {j : Nat} {t : TypeId} {d : DataW H} (h1 : ts[j]? = some t) (h2 : ds[j]? = some d) : Reach P t d := fun n hn => by
  simpa using List.all_eq_true.1 hs n (DataW.weights_mem_each h1 h2 n hn)
end

section
open Go
variable {P : Program} {w0 : World} {own : Nat → Prop} {γ : Gh} {st : St} {a : Act} {w : World} {x : X}
theorem Rel.recell (h : Rel w0 own γ st a w) {k : Nat} {R : Root} (hk : st.store k = some R) (rows : List (List C)) (hl : rows.length = R.rows.length) (hw : ∀ r ∈ R.rows, r.length = R.wd → True) (hwd : (∀ r ∈ R.rows, r.length = R.wd) → ∀ r ∈ rows, r.length = R.wd)
    (hc : ∀ (i j : Nat) r c, rows[i]? = some r → r[j]? = some c → ∃ r0 c0, R.rows[i]? = some r0 ∧ r0[j]? = some c0 ∧ ∀ v S, SR γ w v c0 S → SR γ w v c S) :
    Rel w0 own γ { st with store := fun i => if i = k then some { R with rows := rows } else st.store i } a w := by
  have hst : ∀ k' R', (if k' = k then some { R with rows := rows } else st.store k') = some R' → ∃ R0, st.store k' = some R0 ∧ R'.tag = R0.tag ∧ R'.wd = R0.wd := by
    intro k' R' h'
    split at h'
    · rename_i e; subst e; cases h'; exact ⟨R, hk, rfl, rfl⟩
    · exact ⟨R', h', rfl, rfl⟩
  refine { env := h.env, size := h.size, defers := h.defers, tmps := h.tmps, ghost := h.ghost, gen := h.gen, tag := fun k' R' h' => ?_, mem := fun k' R' h' => ?_, inj := fun k1 R1 k2 R2 b h1 h2 h3 h4 => ?_, rootF := fun k' R' b h1 h2 => ?_, fpF := h.fpF, fpD := h.fpD, fs := h.fs, lt := h.lt, ltβ := h.ltβ }
  · obtain ⟨R0, h0, e, _⟩ := hst k' R' h'
    rw [e]; exact h.tag k' R0 h0
  · simp only at h'
    split at h'
    · rename_i e; subst e; cases h'
      have hm := h.mem k' R hk
      unfold RootOK at hm ⊢
      simp only
      cases hb : γ.β k' R.tag with
      | none =>
        rw [hb] at hm
        simp only at hm ⊢
        rw [hm] at hl
        exact List.length_eq_zero_iff.1 hl
      | some b =>
        rw [hb] at hm
        obtain ⟨arr, E, q1, q2, q3, q4⟩ := hm
        refine ⟨arr, E, q1, hwd q2, by rw [hl]; exact q3, fun i j r c hr hcc => ?_⟩
        obtain ⟨r0, c0, g1, g2, g3⟩ := hc i j r c hr hcc
        exact g3 _ _ (q4 i j r0 c0 g1 g2)
    · exact h.mem k' R' h'
  · obtain ⟨Ra, g1, e1, _⟩ := hst k1 R1 h1
    obtain ⟨Rb, g2, e2, _⟩ := hst k2 R2 h2
    rw [e1] at h3; rw [e2] at h4
    exact h.inj k1 Ra k2 Rb b g1 g2 h3 h4
  · obtain ⟨R0, g0, e, _⟩ := hst k' R' h1
    rw [e] at h2
    exact h.rootF k' R0 b g0 h2
def nilD? : C → Bool
  | .d (.v (.slice none 0 0)) => true
  | _ => false
theorem Zpo {c : C} (h : nilD? c = true) : c = .d (.v (.slice none 0 0)) := by
  unfold nilD? at h; split at h
  · rfl
  · cases h
def X.nilOK (x : X) (kb j kn : Nat) : Bool := match Zar x.store kb with
  | some (.bx _ _ row) => (match row[j]? with | some c => nilD? c | none => false) && !Nat.beq kn kb
  | _ => false
def X.nilPre (x : X) (kb j kn wd : Nat) : X := match Zar x.store kb with
  | some (.bx t w row) => { x with store := setN (setN x.store kn (.sl (x.gen kn + 1) wd [])) kb (.bx t w (row.set j (.rs kn (x.gen kn + 1) wd 0 0 0))), gens := setN x.gens kn (x.gen kn + 1) }
  | _ => x
def X.nilc (x : X) (kb j kn wd : Nat) : X := (x.nilPre kb j kn wd).norm
theorem Rel.nilc (hR : Rel w0 own γ x.S a w) {kb j kn : Nat} (wd : Nat) (h : x.nilOK kb j kn = true) : ∃ γ', γ'.F0 = γ.F0 ∧ Rel w0 own γ' (x.nilc kb j kn wd).S a w := by
  unfold X.nilOK at h
  split at h
  · rename_i t wb row hl
    simp only [Bool.and_eq_true, Bool.not_eq_true'] at h
    obtain ⟨h1, h2⟩ := h
    have hne : kn ≠ kb := Zbi h2
    cases hj : row[j]? with
    | none => rw [hj] at h1; cases h1
    | some c =>
      rw [hj] at h1
      have hc := Zpo h1
      subst hc
      obtain ⟨γ1, g1, g2, g3⟩ := hR.empty kn wd
      have hk : (x.S.root kn false wd []).store kb = some (XRoot.bx t wb row).root := by
        simp [St.root, X.S, hl, Ne.symm hne]
      have hr := g2.recell hk [row.set j (.rs kn (x.gen kn + 1) wd 0 0 0)] (by simp [XRoot.root]) (fun _ _ _ => trivial) (fun hh r hr => by
          rw [List.mem_singleton] at hr; subst hr
          rw [List.length_set]
          exact hh row (by simp [XRoot.root])) (fun i j' r c hi hjc => by
          have hi0 : i = 0 := by
            have := (List.getElem?_eq_some_iff.1 hi).1
            simpa using this
          subst hi0
          simp only [List.getElem?_cons_zero, Option.some.injEq] at hi
          subst hi
          by_cases e : j' = j
          · subst e
            refine ⟨row, .d (.v (.slice none 0 0)), by simp [XRoot.root], hj, fun v S hv => ?_⟩
            have hc : c = .rs kn (x.gen kn + 1) wd 0 0 0 := by
              rw [List.getElem?_set_self (List.getElem?_eq_some_iff.1 hj).1] at hjc
              exact (Option.some.inj hjc).symm
            subst hc
            have hv' : CR γ1 w v (.d (.v (.slice none 0 0))) := hv
            cases hv' with
            | d _ _ hd => cases hd with
              | v _ _ => exact g3 none
          · rw [List.getElem?_set_ne (Ne.symm e)] at hjc
            exact ⟨row, c, by simp [XRoot.root], hjc, fun v S hv => hv⟩)
      have hS : (x.nilPre kb j kn wd).S = { (x.S.root kn false wd []) with store := fun i => if i = kb then some { (XRoot.bx t wb row).root with rows := [row.set j (.rs kn (x.gen kn + 1) wd 0 0 0)] } else (x.S.root kn false wd []).store i } := by
        unfold X.nilPre
        rw [hl]
        simp only [X.S, St.root, X.gen]
        congr 1
        · funext i
          simp only [Zci]
          by_cases e1 : i = kb
          · subst e1; simp [XRoot.root]
          · by_cases e2 : i = kn
            · subst e2; simp [e1, XRoot.root, emb]
            · simp [e1, e2]
        · funext i
          simp only [Zci, X.gen]
          by_cases e2 : i = kn
          · subst e2; simp
          · simp [e2]
      rw [← hS] at hr
      obtain ⟨γ2, q1, q2⟩ := hr.norm
      exact ⟨γ2, q1.trans g1.F0, q2⟩
  · cases h
theorem ZcA {c : Code} {Q : Exit → X → Prop} {kb j kn wd : Nat} (h : x.nilOK kb j kn = true) (hx : XWP P c Q (x.nilc kb j kn wd)) : XWP P c Q x := fun w0 own γ a w hR => by
  obtain ⟨γ', e, h'⟩ := hR.nilc wd h
  have := hx w0 own γ' a w h'
  rw [e] at this; exact this
end

section
open Go
variable {P : Program} {w0 : World} {own : Nat → Prop} {γ : Gh} {a : Act} {w : World}
def swp (i j k : Nat) : Nat := match Nat.beq k i with | true => j | false => match Nat.beq k j with | true => i | false => k
theorem Ztb (i j k : Nat) : swp i j (swp i j k) = k := by
  unfold swp
  cases e : Nat.beq k i with
  | true =>
    have := Zaa e; subst this
    simp only
    cases e2 : Nat.beq j k with
    | true => exact Zaa e2
    | false => simp only [Zbm]
  | false =>
    simp only
    cases e2 : Nat.beq k j with
    | true =>
      have := Zaa e2; subst this
      simp only [Zbm]
    | false => simp only [e, e2]
mutual
def C.ren (σ : Nat → Nat) : C → C
  | .rs k t wd lo len kn => .rs (σ k) t wd lo len kn
  | .rp k t wd i j => .rp (σ k) t wd i j
  | .cf fn fs cs => .cf fn (renL σ fs) (renL σ cs)
  | .d x => .d x
  | .non => .non
def renL (σ : Nat → Nat) : List C → List C
  | [] => []
  | c :: l => C.ren σ c :: renL σ l
end
theorem ZdZ (σ : Nat → Nat) : ∀ l : List C, renL σ l = l.map (C.ren σ)
  | [] => by simp [renL]
  | c :: l => by simp [renL, ZdZ σ l]
mutual
def A.ren (σ : Nat → Nat) : A → A
  | .dead => .dead
  | .c x => .c (x.ren σ)
  | .agg xs => .agg (renL σ xs)
  | .tup xs => .tup (renT σ xs)
  | .bb q => .bb q
  | .rx k g wd lo len cap => .rx (σ k) g wd lo len cap
def renT (σ : Nat → Nat) : List A → List A
  | [] => []
  | c :: l => A.ren σ c :: renT σ l
end
theorem ZeQ (σ : Nat → Nat) : ∀ l : List A, renT σ l = l.map (A.ren σ)
  | [] => by simp [renT]
  | c :: l => by simp [renT, ZeQ σ l]
def XRoot.ren (σ : Nat → Nat) : XRoot → XRoot
  | .bx t wd row => .bx t wd (renL σ row)
  | .sl t wd rows => .sl t wd rows
  | .fo t wd rows i row => .fo t wd rows i (renL σ row)
def renS (σ : Nat → Nat) : List (Nat × XRoot) → List (Nat × XRoot)
  | [] => []
  | (k, R) :: l => (σ k, R.ren σ) :: renS σ l
def renG (σ : Nat → Nat) : List (Nat × Nat) → List (Nat × Nat)
  | [] => []
  | (k, g) :: l => (σ k, g) :: renG σ l
def X.ren (σ : Nat → Nat) (x : X) : X := { tmps := renT σ x.tmps, store := renS σ x.store, gens := renG σ x.gens, gs := renT σ x.gs }
def Gh.ren (σ : Nat → Nat) (γ : Gh) : Gh := { γ with β := fun k g => γ.β (σ k) g, FP := fun k => γ.FP (σ k), gen := fun k => γ.gen (σ k) }
variable {σ : Nat → Nat}
theorem ZoC (hσ : ∀ k, σ (σ k) = k) (k i : Nat) : Nat.beq (σ k) i = Nat.beq k (σ i) := by
  cases e : Nat.beq k (σ i) with
  | true => have := Zaa e; subst this; rw [hσ]; exact Zbm i
  | false => exact ZkT fun h => Zbi e (by rw [← h, hσ])
theorem Zka (hσ : ∀ k, σ (σ k) = k) : ∀ (l : List (Nat × XRoot)) (i : Nat), Zar (renS σ l) i = (Zar l (σ i)).map (XRoot.ren σ)
  | [], i => rfl
  | (k, R) :: l, i => by
    simp only [renS, Zar, ZoC hσ]
    split
    · rfl
    · exact Zka hσ l i
theorem Zga (hσ : ∀ k, σ (σ k) = k) : ∀ (l : List (Nat × Nat)) (i : Nat), Zar (renG σ l) i = Zar l (σ i)
  | [], i => rfl
  | (k, R) :: l, i => by
    simp only [renG, Zar, ZoC hσ]
    split
    · rfl
    · exact Zga hσ l i
theorem ZuF (hσ : ∀ k, σ (σ k) = k) (γ : Gh) : (γ.ren σ).G = γ.G := by
  funext b
  apply propext
  constructor
  · rintro (h | ⟨k, i, j, h⟩)
    · exact .inl h
    · exact .inr ⟨σ k, i, j, h⟩
  · rintro (h | ⟨k, i, j, h⟩)
    · exact .inl h
    · exact .inr ⟨σ k, i, j, by simp only [Gh.ren, hσ]; exact h⟩
theorem ZtZ (hσ : ∀ k, σ (σ k) = k) (γ : Gh) (b : Bool) : (γ.ren σ).at b = γ.at b := by
  cases b
  · exact ZuF hσ γ
  · rfl
theorem CR.ren (hσ : ∀ k, σ (σ k) = k) {v : Value} {c : C} (h : CR γ w v c) : CR (γ.ren σ) w v (c.ren σ) := by
  induction h with
  | d v x h => simp only [C.ren]; exact .d v x (by rw [ZtZ hσ]; exact h)
  | rs k g wd lo len kn cap b E n h1 h2 h3 h4 h5 h6 =>
    simp only [C.ren]
    exact .rs (σ k) g wd lo len kn cap b E n (by simp only [Gh.ren, hσ]; exact h1) (by simp only [Gh.ren, hσ]; exact h2) h3 h4 h5 h6
  | rn a k g wd h1 h2 =>
    simp only [C.ren]
    exact .rn a (σ k) g wd (by simp only [Gh.ren, hσ]; exact h1) (by simp only [Gh.ren, hσ]; exact h2)
  | rp k g wd i j b h1 h2 =>
    simp only [C.ren]
    exact .rp (σ k) g wd i j b (by simp only [Gh.ren, hσ]; exact h1) (by simp only [Gh.ren, hσ]; exact h2)
  | ca cells vs h1 _ ih =>
    simp only [C.ren, ZdZ, List.map_nil]
    refine .ca _ vs (by simpa using h1) fun i c hc => ?_
    rw [List.getElem?_map] at hc
    obtain ⟨c0, h0, rfl⟩ := Option.map_eq_some_iff.1 hc
    exact ih i c0 h0
  | cf fn first caps fv cv h0 h1 h2 _ _ i1 i2 =>
    simp only [C.ren, ZdZ]
    refine .cf fn _ _ fv cv h0 (by simpa using h1) (by simpa using h2) (fun i c hc => ?_) (fun i c hc => ?_)
    · rw [List.getElem?_map] at hc
      obtain ⟨c0, h0, rfl⟩ := Option.map_eq_some_iff.1 hc
      exact i1 i c0 h0
    · rw [List.getElem?_map] at hc
      obtain ⟨c0, h0, rfl⟩ := Option.map_eq_some_iff.1 hc
      exact i2 i c0 h0
  | non v => simp only [C.ren]; exact .non v
theorem AR.ren (hσ : ∀ k, σ (σ k) = k) {v : Value} {c : A} (h : AR γ w v c) : AR (γ.ren σ) w v (c.ren σ) := by
  induction h with
  | dead v => simp only [A.ren]; exact .dead v
  | c v x h => simp only [A.ren]; exact .c v _ (h.ren hσ)
  | agg vs xs h1 h2 =>
    simp only [A.ren, ZdZ]
    refine .agg vs _ (by simpa using h1) fun i c hc => ?_
    rw [List.getElem?_map] at hc
    obtain ⟨c0, h0, rfl⟩ := Option.map_eq_some_iff.1 hc
    exact (h2 i c0 h0).ren hσ
  | tup vs xs h1 _ ih =>
    simp only [A.ren, ZeQ]
    refine .tup vs _ (by simpa using h1) fun i c hc => ?_
    rw [List.getElem?_map] at hc
    obtain ⟨c0, h0, rfl⟩ := Option.map_eq_some_iff.1 hc
    exact ih i c0 h0
  | bb b q h => simp only [A.ren]; exact .bb b q h
  | rx k g wd lo len cap b E n h1 h2 h3 h4 h5 => simp only [A.ren]; exact .rx (σ k) g wd lo len cap b E n (by simpa [Gh.ren, hσ] using h1) (by simpa [Gh.ren, hσ] using h2) h3 h4 h5
theorem SR.ren (hσ : ∀ k, σ (σ k) = k) {v : Value} {c : C} {S : Nat → Prop} (h : SR γ w v c S) : SR (γ.ren σ) w v (c.ren σ) S := by
  unfold SR at h ⊢
  cases c with
  | d x =>
    simp only [C.ren]
    cases x with
    | s t z rows spare =>
      by_cases e : t = 1
      · subst e; exact h
      · have h' : CR γ w v (.d (.s t z rows spare)) := by
          revert h; split
          · rename_i heq; cases heq; exact absurd rfl e
          · exact id
        have := h'.ren (σ := σ) hσ
        simp only [C.ren] at this
        split
        · rename_i heq; cases heq; exact absurd rfl e
        · exact this
    | v x => exact CR.ren (γ := γ) hσ h
    | p t cells off => exact CR.ren (γ := γ) hσ h
    | f fn first caps => exact CR.ren (γ := γ) hσ h
  | rs k g wd lo len kn => exact CR.ren (γ := γ) hσ h
  | rp k g wd i j => exact CR.ren (γ := γ) hσ h
  | cf fn first caps =>
    have := CR.ren (γ := γ) (c := .cf fn first caps) hσ h
    simp only [C.ren] at this ⊢
    exact this
  | non => exact CR.ren (γ := γ) hσ h
theorem ZiY {R : XRoot} : (R.ren σ).root.tag = R.root.tag := by cases R <;> rfl
theorem Zpf {R : XRoot} : (R.ren σ).root.wd = R.root.wd := by cases R <;> rfl
theorem Zf2 {R : XRoot} : (R.ren σ).root.rows = R.root.rows.map fun r => r.map (C.ren σ) := by
  cases R with
  | bx t wd row => simp [XRoot.ren, XRoot.root, ZdZ]
  | sl t wd rows => simp [XRoot.ren, XRoot.root, emb, Function.comp_def, C.ren]
  | fo t wd rows i row => simp [XRoot.ren, XRoot.root, emb, Function.comp_def, C.ren, List.map_set, ZdZ]
theorem Rel.ren (hσ : ∀ k, σ (σ k) = k) {x : X} (h : Rel w0 own γ x.S a w) : Rel w0 own (γ.ren σ) (x.ren σ).S a w := by
  have old : ∀ k R, (x.ren σ).S.store k = some R → ∃ R0 : XRoot, x.S.store (σ k) = some R0.root ∧ R = (R0.ren σ).root := by
    intro k R hk
    simp only [X.S, X.ren, Zka hσ] at hk
    cases hl : Zar x.store (σ k) with
    | none => rw [hl] at hk; cases hk
    | some R0 => rw [hl] at hk; cases hk; exact ⟨R0, by simp [X.S, hl], rfl⟩
  have inj : ∀ k k', σ k = σ k' → k = k' := fun k k' e => by rw [← hσ k, e, hσ]
  refine { env := h.env, size := by rw [h.size]; simp [X.S, X.ren, ZeQ], defers := h.defers, tmps := fun i => ?_, ghost := fun i => ?_, gen := ?_, tag := fun k R hk => ?_, mem := fun k R hk => ?_, inj := fun k R k' R' b hk hk' h1 h2 => ?_, rootF := fun k R b hk h1 => ?_, fpF := fun k i j b hb => h.fpF (σ k) i j b hb, fpD := fun k i j k' i' j' b h1 h2 => ?_, fs := h.fs, lt := fun b hb => h.lt b (by rw [ZuF hσ] at hb; exact hb), ltβ := fun k g b hg hb => h.ltβ (σ k) g b hg hb }
  · have := (h.tmps i).ren (σ := σ) hσ
    have e : (x.ren σ).S.tmps i = (x.S.tmps i).ren σ := by
      simp only [X.S, X.ren, ZeQ, List.getD_eq_getElem?_getD, List.getElem?_map]
      cases x.tmps[i]? <;> simp [A.ren]
    rw [e]; exact this
  · have := (h.ghost i).ren (σ := σ) hσ
    have e : (x.ren σ).S.gs i = (x.S.gs i).ren σ := by
      simp only [X.S, X.ren, ZeQ, List.getD_eq_getElem?_getD, List.getElem?_map]
      cases x.gs[i]? <;> simp [A.ren]
    rw [e]; exact this
  · funext k
    have := congrFun h.gen (σ k)
    simp only [Gh.ren, X.S, X.gen, X.ren, Zga hσ] at this ⊢
    exact this
  · obtain ⟨R0, h0, rfl⟩ := old k R hk
    rw [ZiY]
    have := h.tag (σ k) _ h0
    simp only [X.S, X.gen, X.ren, Zga hσ] at this ⊢
    exact this
  · obtain ⟨R0, h0, rfl⟩ := old k R hk
    have hm := h.mem (σ k) _ h0
    unfold RootOK at hm ⊢
    rw [ZiY]
    have eβ : (γ.ren σ).β k R0.root.tag = γ.β (σ k) R0.root.tag := rfl
    rw [eβ]
    cases hb : γ.β (σ k) R0.root.tag with
    | none => rw [hb] at hm; simp only at hm ⊢; rw [Zf2, hm]; rfl
    | some b =>
      rw [hb] at hm
      obtain ⟨arr, E, q1, q2, q3, q4⟩ := hm
      refine ⟨arr, E, q1, ?_, ?_, ?_⟩
      · intro r hr
        rw [Zf2] at hr
        obtain ⟨r0, hr0, rfl⟩ := List.mem_map.1 hr
        rw [Zpf]; simpa using q2 r0 hr0
      · rw [Zf2, Zpf]; simpa using q3
      · intro i j r c hr hcc
        rw [Zf2, List.getElem?_map] at hr
        obtain ⟨r0, hr0, rfl⟩ := Option.map_eq_some_iff.1 hr
        rw [List.getElem?_map] at hcc
        obtain ⟨c0, hc0, rfl⟩ := Option.map_eq_some_iff.1 hcc
        rw [Zpf]
        exact (q4 i j r0 c0 hr0 hc0).ren hσ
  · obtain ⟨R0, h0, rfl⟩ := old k R hk
    obtain ⟨R0', h0', rfl⟩ := old k' R' hk'
    rw [ZiY] at h1 h2
    exact inj _ _ (h.inj (σ k) _ (σ k') _ b h0 h0' h1 h2)
  · obtain ⟨R0, h0, rfl⟩ := old k R hk
    rw [ZiY] at h1
    obtain ⟨q1, q2, q3⟩ := h.rootF (σ k) _ b h0 h1
    exact ⟨q1, fun k' i j hb => q2 (σ k') i j hb, q3⟩
  · obtain ⟨e1, e2, e3⟩ := h.fpD (σ k) i j (σ k') i' j' b h1 h2
    exact ⟨inj _ _ e1, e2, e3⟩
def X.rens : List (Nat × Nat) → X → X
  | [], x => x
  | (i, j) :: l, x => X.rens l (x.ren (swp i j))
theorem Rel.rens : ∀ (l : List (Nat × Nat)) {γ : Gh} {x : X}, Rel w0 own γ x.S a w → ∃ γ', γ'.F0 = γ.F0 ∧ Rel w0 own γ' (x.rens l).S a w
  | [], γ, x, h => ⟨γ, rfl, h⟩
  | (i, j) :: l, γ, x, h => by
    obtain ⟨γ', e, h'⟩ := Rel.rens l (h.ren (σ := swp i j) (Ztb i j))
    exact ⟨γ', e, h'⟩
theorem Zmy {c : Code} {Q : Exit → X → Prop} {x : X} (l : List (Nat × Nat)) (h : XWP P c Q (x.rens l)) : XWP P c Q x := fun w0 own γ a w hR => by
  obtain ⟨γ', e, h'⟩ := hR.rens l
  have := h w0 own γ' a w h'
  rw [e] at this; exact this
def arrS (s : List (Nat × XRoot)) : List Nat → List (Nat × XRoot)
  | [] => []
  | k :: l => match Zar s k with | some R => (k, R) :: arrS s l | none => arrS s l
theorem Zgl (s : List (Nat × XRoot)) : ∀ (l : List Nat) (k : Nat) (R : XRoot), Zar (arrS s l) k = some R → Zar s k = some R
  | [], k, R, h => by cases h
  | j :: l, k, R, h => by
    simp only [arrS] at h
    split at h
    · rename_i R0 hj
      simp only [Zar] at h
      split at h
      · rename_i e
        have := Zaa e; subst this
        cases h; exact hj
      · exact Zgl s l k R h
    · exact Zgl s l k R h
def X.arr (ts ks : List Nat) (x : X) : X := { tmps := Zi4 ts 0 x.tmps, store := arrS x.store ks, gens := x.gens, gs := x.gs }
theorem Rel.arr {x : X} (h : Rel w0 own γ x.S a w) (ts ks : List Nat) : Rel w0 own γ (x.arr ts ks).S a w := by
  have hst : ∀ k R, (x.arr ts ks).S.store k = some R → x.S.store k = some R := by
    intro k R hk
    simp only [X.S, X.arr] at hk ⊢
    obtain ⟨R0, h0, rfl⟩ := Option.map_eq_some_iff.1 hk
    rw [Zgl _ _ _ _ h0]; rfl
  exact { env := h.env, size := by rw [h.size]; simp [X.S, X.arr, ZgV], defers := h.defers
          tmps := fun i => by
            have := h.tmps i
            simp only [X.S, X.arr] at this ⊢
            rcases Zgu ts x.tmps 0 i with e | e
            · rw [e]; exact this
            · rw [e]; exact .dead _
          ghost := h.ghost, gen := h.gen
          tag := fun k R hk => h.tag k R (hst k R hk), mem := fun k R hk => h.mem k R (hst k R hk)
          inj := fun k R k' R' b h1 h2 => h.inj k R k' R' b (hst k R h1) (hst k' R' h2)
          rootF := fun k R b h1 => h.rootF k R b (hst k R h1), fpF := h.fpF, fpD := h.fpD, fs := h.fs, lt := h.lt, ltβ := h.ltβ }
theorem Zgc {c : Code} {Q : Exit → X → Prop} {x : X} (ts ks : List Nat) (h : XWP P c Q (x.arr ts ks)) : XWP P c Q x := fun w0 own γ a w hR => h w0 own γ a w (hR.arr ts ks)
theorem ZkR {c : Code} {Q : Exit → X → Prop} {x : X} (ts ks : List Nat) (h : XWP P c (fun e y => Q e (y.arr ts ks)) x) : XWP P c Q x := fun w0 own γ a w hR =>
  Code.wp_mono (fun e a' w' ⟨γ', x', h1, h2, h3⟩ => ⟨γ', _, h1, h2.arr ts ks, h3⟩) (h w0 own γ a w hR)
end

section
open Go Go.ChangeShapes Go.WideShapes
inductive Sh (N : Nat) : D → Prop
  | v (x : Value) : Sh N (.v x)
  | s (t z : Nat) (rows sp : List (List D)) : rows.length ≤ N → (∀ r ∈ rows, ∀ d ∈ r, Sh N d) → Sh N (.s t z rows sp)
def ShL (N : Nat) (ds : List D) : Prop := ∀ d ∈ ds, Sh N d
theorem ShL.nil (N : Nat) : ShL N [] := fun d h => by cases h
theorem ShL.one {N : Nat} {d : D} (h : Sh N d) : ShL N [d] := fun d' h' => by
  rcases List.mem_cons.1 h' with rfl | h'
  · exact h
  · cases h'
theorem ShL.v (N : Nat) (x : Value) : ShL N [.v x] := ShL.one (.v x)
theorem ShL.append {N : Nat} {a b : List D} (h : ShL N a) (h' : ShL N b) : ShL N (a ++ b) := fun d hd => (List.mem_append.1 hd).elim (h d) (h' d)
theorem ShL.cons_inv {N : Nat} {d : D} {ds : List D} (h : ShL N (d :: ds)) : Sh N d ∧ ShL N ds := ⟨h d (by simp), fun e he => h e (by simp [he])⟩
structure Meas {H : Type} (μ : DataW H → Nat) : Prop where
  len : ∀ es sp, es.length ≤ μ (.slice es sp)
  el : ∀ es sp x, x ∈ es → μ x ≤ μ (.slice es sp)
  part : ∀ ps x, x ∈ ps → μ x ≤ μ (.agg ps)
variable {P : Program} {H : Type} {enc : TypeId × Value → H} {w : World} {base : Nat} {sp : Nat → Bool} {held : Bool} {μ : DataW H → Nat} {N : Nat}
theorem Zkt {m : Nat} (ih : ∀ (t : TypeId) (c : List KT), ctOf P m t = some c → ∀ (fuel : Nat) (cs : List Value) (x : DataW H × List MemPlace), DataW.trod enc P w base sp held fuel t cs = some x → Reach P t x.1 → μ x.1 ≤ N → ∃ ds, GoodL c ds ∧ DRL w cs ds ∧ ShL N ds) (cs : List Value) :
    ∀ (fs : List Field) (off : Nat) (c : List KT), ZeX P (ctOf P m) fs off = some c → cs.length = off + c.length → (∀ f ∈ fs, ∃ n y, DataW.trod enc P w base sp held n f.type ((cs.drop f.offset).take (P.cellsOf f.type)) = some y ∧ Reach P f.type y.1 ∧ μ y.1 ≤ N) → ∃ ds, GoodL c ds ∧ DRL w (cs.drop off) ds ∧ ShL N ds
  | [], off, c, h, hl, _ => by
    simp [ZeX] at h; subst h
    have : cs.drop off = [] := List.drop_eq_nil_of_le (by simp at hl; omega)
    rw [this]
    exact ⟨[], .nil, trivial, ShL.nil N⟩
  | f :: fs, off, c, h, hl, hf => by
    simp only [ZeX] at h
    split at h
    · rename_i c1 hc1
      split at h
      · rename_i hb
        simp only [Bool.and_eq_true] at hb
        have b1 := Zaa hb.1
        have b2 := Zaa hb.2
        obtain ⟨c2, hc2, rfl⟩ := Option.map_eq_some_iff.1 h
        obtain ⟨n, y, hy, hr, hu⟩ := hf f (by simp)
        obtain ⟨d1, g1, r1, s1⟩ := ih f.type c1 hc1 n _ y hy hr hu
        simp only [List.length_append] at hl
        obtain ⟨d2, g2, r2, s2⟩ := Zkt ih cs fs (off + c1.length) c2 hc2 (by omega) fun f' hm => hf f' (by simp [hm])
        refine ⟨d1 ++ d2, g1.append g2, ?_, s1.append s2⟩
        rw [b1, b2] at r1
        have e : cs.drop off = (cs.drop off).take c1.length ++ cs.drop (off + c1.length) := by
          rw [← List.drop_drop, List.take_append_drop]
        rw [e]
        exact r1.append r2
      · cases h
    · cases h
theorem Znd {m : Nat} {e : TypeId} {c : List KT} (ih : ∀ (fuel : Nat) (cs : List Value) (x : DataW H × List MemPlace), DataW.trod enc P w base sp held fuel e cs = some x → Reach P e x.1 → μ x.1 ≤ N → ∃ ds, GoodL c ds ∧ DRL w cs ds ∧ ShL N ds) (hb : P.cellsOf e = c.length) :
    ∀ (n : Nat) (cs : List Value), cs.length = n * c.length → (∀ i, i < n → ∃ k y, DataW.trod enc P w base sp held k e ((cs.drop (i * c.length)).take c.length) = some y ∧ Reach P e y.1 ∧ μ y.1 ≤ N) → ∃ ds, GoodL (List.replicate n c).flatten ds ∧ DRL w cs ds ∧ ShL N ds
  | 0, cs, hl, _ => by
    have : cs = [] := List.eq_nil_of_length_eq_zero (by simpa using hl)
    subst this
    exact ⟨[], .nil, trivial, ShL.nil N⟩
  | n + 1, cs, hl, h => by
    obtain ⟨k, y, hy, hr, hu⟩ := h 0 (Nat.succ_pos _)
    simp only [Nat.zero_mul, List.drop_zero] at hy
    obtain ⟨d1, g1, r1, s1⟩ := ih k _ y hy hr hu
    have hl' : cs.length = n * c.length + c.length := by rw [hl, Nat.succ_mul]
    obtain ⟨d2, g2, r2, s2⟩ := Znd (m := m) ih hb n (cs.drop c.length) (by simp; omega) fun i hi => by
      obtain ⟨k, y, hy, hr, hu⟩ := h (i + 1) (by omega)
      refine ⟨k, y, ?_, hr, hu⟩
      rw [List.drop_drop]
      have : c.length + i * c.length = (i + 1) * c.length := by rw [Nat.succ_mul]; omega
      rw [this]; exact hy
    refine ⟨d1 ++ d2, ?_, ?_, s1.append s2⟩
    · simp only [List.replicate_succ, List.flatten_cons]; exact g1.append g2
    · have e : cs = cs.take c.length ++ cs.drop c.length := (List.take_append_drop _ _).symm
      rw [e]; exact r1.append r2
theorem rdCU (hm : Meas μ) : ∀ (m : Nat) (t : TypeId) (c : List KT), ctOf P m t = some c → ∀ (fuel : Nat) (cs : List Value) (x : DataW H × List MemPlace), DataW.trod enc P w base sp held fuel t cs = some x → Reach P t x.1 → μ x.1 ≤ N → ∃ ds, GoodL c ds ∧ DRL w cs ds ∧ ShL N ds
  | 0, t, c, h, _, _, _, _, _, _ => by simp [ctOf] at h
  | m + 1, t, c, h, fuel, cs, x, hx, hr, hN => by
    simp only [ctOf] at h
    split at h
    · rename_i hu
      cases h
      obtain ⟨n, rfl, rfl, hw⟩ := DataW.trod_int hu hx
      exact ⟨[vI n], .cons (.int n hw) .nil, ⟨.v _ rfl, trivial⟩, ShL.v N _⟩
    · rename_i hu
      cases h
      obtain ⟨b, rfl, rfl⟩ := DataW.trod_bool hu hx
      exact ⟨[.v (.bool b)], .cons (.bool b) .nil, ⟨.v _ rfl, trivial⟩, ShL.v N _⟩
    · rename_i fs hu
      split at h
      · rename_i c' hc'
        split at h
        · rename_i hb
          cases h
          have hb := Zaa hb
          obtain ⟨xs, n, _, rfl, hl, hxs, hf⟩ := DataW.trod_struct hu hx
          obtain ⟨ds, g1, g2, g3⟩ := Zkt (rdCU hm m) cs fs.toList 0 c hc' (by rw [hl, hb]; simp) fun f hmem => by
            obtain ⟨i, hi⟩ := List.getElem?_of_mem hmem
            have hi' : fs[i]? = some f := by rw [← Array.getElem?_toList]; exact hi
            have hlt : i < xs.length := by rw [hxs]; exact (Array.getElem?_eq_some_iff.1 hi').1
            refine ⟨n, xs[i], by rw [hf i f hi', List.getElem?_eq_getElem hlt], fun k hk => hr k ?_, Nat.le_trans (hm.part _ _ (List.mem_map.2 ⟨xs[i], List.getElem_mem hlt, rfl⟩)) hN⟩
            simp only [DataW.weights, hu]
            exact DataW.weights_mem_each (j := i) (by rw [List.getElem?_map, hi]; rfl) (by rw [List.getElem?_map, List.getElem?_eq_getElem hlt]; rfl) k hk
          exact ⟨ds, g1, by simpa using g2, g3⟩
        · cases h
      · cases h
    · rename_i n e hu
      split at h
      · rename_i c' hc'
        split at h
        · rename_i hb
          cases h
          simp only [Bool.and_eq_true] at hb
          have b1 := Zaa hb.1
          have b2 := Zaa hb.2
          obtain ⟨xs, k, _, rfl, hl, hxs, hf⟩ := DataW.trod_array hu hx
          refine Znd (m := m) (rdCU hm m e c' hc') b1 n cs (by rw [hl, b2]) fun i hi => ?_
          have hlt : i < xs.length := by omega
          have := hf i hi
          rw [b1, List.getElem?_eq_getElem hlt] at this
          refine ⟨k, _, this, fun q hq => hr q ?_, Nat.le_trans (hm.part _ _ (List.mem_map.2 ⟨xs[i], List.getElem_mem hlt, rfl⟩)) hN⟩
          simp only [DataW.weights, hu]
          exact Zcm (List.mem_map.2 ⟨xs[i], List.getElem_mem hlt, rfl⟩) hq
        · cases h
      · cases h
    · rename_i e hu
      split at h
      · rename_i c' hc'
        split at h
        · rename_i hb
          cases h
          simp only [Bool.and_eq_true] at hb
          have b1 := Zaa hb.1
          have b2 := Nat.le_of_ble_eq_true hb.2
          rcases Deep.open_slice hu hx with ⟨rfl, rfl⟩ | ⟨a, len, cap, q, n, D0, Pl, rfl, hba, hlc, hcm, hqq, rfl, hcell⟩
          · exact ⟨[.s 0 c'.length [] []], .cons (.sl _ _ [] (by simp) (by simp) (by simp)) .nil, ⟨.e none 0 c'.length 0, trivial⟩, ShL.one (.s 0 _ [] [] (Nat.zero_le _) (by simp))⟩
          · have hlq : len ≤ q := by rw [hqq]; split <;> omega
            have hsz : (len + (q - len)) * P.bytesOf e ≤ reachBytes := hr _ (by simp [DataW.weights, hu])
            obtain ⟨V, hV⟩ := Deep.choose_lt (α := List Value × List D) (n := len) (p := fun i r => w.cells? base (a.add (i * c'.length)) c'.length = some r.1 ∧ GoodL c' r.2 ∧ DRL w r.1 r.2 ∧ ShL N r.2) (fun i hi => by
              obtain ⟨cs', g1, g2⟩ := hcell i (by omega)
              rw [b1] at g1
              obtain ⟨ds, q1, q2, q3⟩ := rdCU hm m e c' hc' n cs' _ g2 (fun k hk => hr k (by
                simp only [DataW.weights, hu]
                refine List.mem_cons_of_mem _ (List.mem_append_left _ (Zcm (List.mem_map.2 ⟨i, by simpa using hi, rfl⟩) hk)))) (Nat.le_trans (hm.el _ _ _ (List.mem_map.2 ⟨i, by simpa using hi, rfl⟩)) hN)
              exact ⟨(cs', ds), g1, q1, q2, q3⟩)
            have hlen9 : len ≤ 9223372036854775807 := Nat.le_trans hlc hcm
            have hlN : len ≤ N := Nat.le_trans (Nat.le_trans (Nat.le_of_eq (by simp)) (hm.len _ _)) hN
            refine ⟨[.s 0 c'.length ((List.range len).map fun i => (V i).2) []], .cons (.sl _ _ _ ?_ (by simpa using hlen9) fun r hr' => ?_) .nil, ⟨?_, trivial⟩, ShL.one (.s 0 _ _ [] (by simpa using hlN) fun r hr' d hd => ?_)⟩
            · rw [List.length_map, List.length_range]
              refine Nat.le_trans ?_ hsz
              exact Nat.mul_le_mul_right _ (Nat.le_add_right _ _)
            · obtain ⟨i, hi, rfl⟩ := List.mem_map.1 hr'
              exact (hV i (by simpa using hi)).2.1
            · rcases Nat.eq_zero_or_pos len with hz0 | hpos
              · subst hz0; simpa using DR.e (w := w) (G := (· < w.heap.size)) (some a) 0 c'.length cap
              · have hrl : ∀ i, i < len → (V i).2.length = c'.length ∧ (V i).1.length = c'.length := fun i hi => by
                  obtain ⟨_, g, r, _⟩ := hV i hi
                  exact ⟨g.len.symm, by rw [r.get.1, g.len]⟩
                have hcl : ∀ i j, i < len → j < c'.length → w.cell? ((a.add (i * c'.length)).add j) = some ((V i).1.getD j undef) := fun i j hi hj => by
                  obtain ⟨q1, _, _, _⟩ := hV i hi
                  obtain ⟨_, _, q4⟩ := World.cells?_some q1
                  rw [q4 j hj]
                  have : j < (V i).1.length := by rw [(hrl i hi).2]; exact hj
                  simp [List.getD_eq_getElem?_getD, this]
                have hspot : a.spot = none ∧ a.block < w.heap.size := by
                  have := hcl 0 0 hpos b2
                  simp only [Nat.zero_mul, Addr.add, if_true] at this
                  unfold World.cell? at this
                  split at this
                  · rename_i hh
                    refine ⟨?_, ?_⟩
                    · cases hs : a.spot with
                      | none => rfl
                      | some q => rw [hs] at this; simp at this
                    · rcases Nat.lt_or_ge a.block w.heap.size with h' | h'
                      · exact h'
                      · rw [Array.getElem?_eq_none h'] at hh; cases hh
                  · cases this
                obtain ⟨b, off, spot⟩ := a
                simp only at hspot
                obtain ⟨rfl, hblk⟩ := hspot
                have key := DR.s (w := w) (G := (· < w.heap.size)) 0 ((List.range len).map fun i => (V i).2) [] b off cap c'.length (fun i j => (V i).1.getD j undef) hblk (fun r hr' => by
                  simp only [List.append_nil] at hr'
                  obtain ⟨i, hi, rfl⟩ := List.mem_map.1 hr'
                  exact (hrl i (by simpa using hi)).1) (by simpa using hlc) (fun i j hi hj => by
                  have := hcl i j (by simpa using hi) hj
                  rw [addr_add, addr_add] at this
                  rw [← Nat.add_assoc]; exact this) (fun i j r d h1 h2 => by
                  simp only [List.append_nil, List.getElem?_map] at h1
                  obtain ⟨i', hi', rfl⟩ := Option.map_eq_some_iff.1 h1
                  have hi2 := List.getElem?_eq_some_iff.1 hi'
                  obtain ⟨hlt, he⟩ := hi2
                  simp at hlt he
                  subst he
                  obtain ⟨_, _, r, _⟩ := hV i hlt
                  have hj : j < (V i).1.length := by rw [r.get.1]; exact (List.getElem?_eq_some_iff.1 h2).1
                  rw [show (V i).1.getD j undef = (V i).1[j] by simp [List.getD_eq_getElem?_getD, hj]]
                  exact r.get.2 j _ d (List.getElem?_eq_getElem hj) h2)
                simpa using key
            · obtain ⟨i, hi, rfl⟩ := List.mem_map.1 hr'
              exact (hV i (by simpa using hi)).2.2.2 d hd
        · cases h
      · cases h
    · cases h
theorem rd_aggU {t : TypeId} {c : List KT} {v : Value} {d : DataW H} {ps : List MemPlace} (hm : Meas μ) (m : Nat) (hc : ctOf P m t = some c) (hv : ∃ cs, v = .agg cs) (hd : DataW.Trod enc P w base sp held t v d ps) {ts : List TypeId} {dd : List (DataW H)}
    (hs : (DataW.weightsEach P ts dd).all (· ≤ reachBytes) = true) {j : Nat} (h1 : ts[j]? = some t) (h2 : dd[j]? = some d) (hN : μ d ≤ N) : ∃ ds, (GoodL c ds ∧ ShL N ds) ∧ OV w (· < w.heap.size) v (.agg ds) fun _ => False := by
  obtain ⟨cs, rfl⟩ := hv
  obtain ⟨fuel, hf⟩ := hd
  obtain ⟨ds, g, r, s⟩ := rdCU hm m t c hc fuel cs.toList _ (show DataW.trod enc P w base sp held fuel t cs.toList = some _ from hf) (ZqR hs h1 h2) hN
  obtain ⟨l, r⟩ := r.get
  refine ⟨ds, ⟨g, s⟩, .agg _ _ _ (fun _ _ => False) (by simpa using l) (fun i d hd => ?_) (fun _ _ h => h.elim) (fun _ _ _ h => h.elim)⟩
  have hlt : i < cs.toList.length := by rw [l]; exact (List.getElem?_eq_some_iff.1 hd).1
  obtain ⟨k, hk⟩ := g.mem d (List.mem_of_getElem? hd)
  have e : cs.getD i undef = cs.toList[i] := by
    have : i < cs.size := by simpa using hlt
    simp [Array.getD_eq_getD_getElem?, this]
  rw [e]
  exact .r _ _ _ hk.not_own (r i _ d (List.getElem?_eq_getElem hlt) hd)
end

section
open Go
def wI (y : X) (i : Nat) (K : Int → Prop) : Prop := match y.tmps.getD i .dead with | .c (.d (.v (.int .i64 n))) => K n | _ => False
def wB (y : X) (i : Nat) (K : Bool → Prop) : Prop := match y.tmps.getD i .dead with | .c (.d (.v (.bool n))) => K n | _ => False
def wL (y : X) (k : Nat) (K : List (List D) → Prop) : Prop := match Zar y.store k with | some (.sl _ _ rows) => K rows | _ => False
def wR (y : X) (k : Nat) (K : List C → Prop) : Prop := match Zar y.store k with | some (.bx _ _ row) => K row | _ => False
def wC (r : List C) (K : C → List C → Prop) : Prop := match r with | c :: r => K c r | [] => False
def cS (c : C) (K : Nat → Nat → Prop) : Prop := match c with | .rs _ _ _ _ n m => K n m | _ => False
theorem Za7 {y : X} {i : Nat} {K : Int → Prop} (h : wI y i K) : ∃ n, K n := by unfold wI at h; split at h; exact ⟨_, h⟩; exact h.elim
theorem ZdM {y : X} {i : Nat} {K : Bool → Prop} (h : wB y i K) : ∃ n, K n := by unfold wB at h; split at h; exact ⟨_, h⟩; exact h.elim
theorem Zb8 {y : X} {i : Nat} {K : List (List D) → Prop} (h : wL y i K) : ∃ n, K n := by unfold wL at h; split at h; exact ⟨_, h⟩; exact h.elim
theorem Zq6 {y : X} {i : Nat} {K : List C → Prop} (h : wR y i K) : ∃ n, K n := by unfold wR at h; split at h; exact ⟨_, h⟩; exact h.elim
theorem Zug {r : List C} {K : C → List C → Prop} (h : wC r K) : ∃ a b, K a b := by unfold wC at h; split at h; exact ⟨_, _, h⟩; exact h.elim
theorem Zqs {c : C} {K : Nat → Nat → Prop} (h : cS c K) : ∃ n m, K n m := by unfold cS at h; split at h; exact ⟨_, _, h⟩; exact h.elim
abbrev Vw := X → (X → Prop) → Prop
def VwOK (V : Vw) : Prop := ∀ y K, V y K → ∃ z, K z
def Zqx (V : Vw) (N : X → Prop) (y : X) : Prop := V y fun z => y = z ∧ N z
theorem ZdD {V : Vw} (hV : VwOK V) {N : X → Prop} {y : X} (h : Zqx V N y) : N y := by
  obtain ⟨z, e, h⟩ := hV y _ h
  rw [e]; exact h
def ZaX (P : Program) (H : Hooks) (fn : Func) (i : Nat) (sw : List (Nat × Nat)) (ts ks : List Nat) (V : Vw) (VE : Exit → Vw) (N : X → Prop) (E : Exit → X → Prop) (x : X) : Prop :=
  evp P H 200 (Zal fn i) (fun e y => match e with | .normal => Zqx V N ((y.rens sw).arr ts ks) | e => Zqx (VE e) (E e) (y.arr ts ks)) x
abbrev ZcC (P : Program) (H : Hooks) (fn : Func) (i : Nat) (sw : List (Nat × Nat)) (ts ks : List Nat) (V VE : Vw) (N : X → Prop) (E : Exit → X → Prop) (x : X) : Prop := ZaX P H fn i sw ts ks V (fun _ => VE) N E x
variable {P : Program}
theorem ZnQ {ι : Type} {fn : Func} {i : Nat} (sw : List (Nat × Nat)) {ts ks : List Nat} (hm : P.follows .mixedOrders = true) (St : ι → X) (inv : ι → Prop) (μ : ι → Nat) {Q : Exit → X → Prop} {x : X} (i0 : ι) (V : Vw) (VE : Exit → Vw) (hV : VwOK V) (hVE : ∀ e, VwOK (VE e))
    (hr : ∀ p, inv p → ∃ H, Zam P H ∧ Zaz P H (Zal fn i) ∧ ZaX P H fn i sw ts ks V VE (fun y => ∃ p', μ p' < μ p ∧ inv p' ∧ y = St p') Q (St p)) (h0 : inv i0) (hx : x.arr ts ks = St i0) : XWP P (.loop (Zal fn i)) Q x := by
  refine Zgc ts ks (ZkR ts ks ?_)
  rw [hx]
  refine ZfW (ι := ι) (fun p y => inv p ∧ (y.rens sw).arr ts ks = St p ∨ inv p ∧ y = St p) μ i0 (.inr ⟨h0, rfl⟩) fun p y hy => ?_
  have key : XWP P (Zal fn i) (fun e y => match e with | .normal => ∃ p', μ p' < μ p ∧ (inv p' ∧ (y.rens sw).arr ts ks = St p' ∨ inv p' ∧ y = St p') | e => Q e (y.arr ts ks)) (St p) := by
    have hp : inv p := hy.elim And.left And.left
    obtain ⟨H, hH, hl, hr⟩ := hr p hp
    refine Zcc (Zbk hH hm 200 _ _ _ hl hr) fun e y he => ?_
    cases e with
    | normal => obtain ⟨p', h1, h2, h3⟩ := ZdD hV he; exact ⟨p', h1, .inl ⟨h2, h3⟩⟩
    | _ => exact ZdD (hVE _) he
  rcases hy with ⟨_, h⟩ | ⟨_, rfl⟩
  · exact Zmy sw (Zgc ts ks (by rw [h]; exact key))
  · exact key
end

section
open Go
def firstAt (bad : Nat → Bool) (n i : Nat) : Prop := i < n ∧ bad i = true ∧ ∀ j, j < i → bad j = false
def noneTo (bad : Nat → Bool) (n : Nat) : Prop := ∀ j, j < n → bad j = false
def Zde (ts ks : List Nat) (St Sr : Nat → X) (n : Nat) (bad : Nat → Bool) (r e : Exit) : LSum := fun Q x => x.arr ts ks = St 0 ∧ (∀ i : Nat, firstAt bad n i → Q r (Sr i)) ∧ (noneTo bad n → Q e (St n))
variable {P : Program}
theorem Zbq {fn : Func} {k : Nat} {sw : List (Nat × Nat)} {ts ks : List Nat} {V : Vw} {VE : Exit → Vw} (hm : P.follows .mixedOrders = true) (hV : VwOK V) (hVE : ∀ e, VwOK (VE e))
    (St Sr : Nat → X) (n : Nat) (bad : Nat → Bool) (r e : Exit)
    (hs : ∀ i, i < n → ∃ H, Zam P H ∧ Zaz P H (Zal fn k) ∧ ∀ (N : X → Prop) (E : Exit → X → Prop), (bad i = true → E r (Sr i)) → (bad i = false → N (St (i + 1))) → ZaX P H fn k sw ts ks V VE N E (St i))
    (he : ∃ H, Zam P H ∧ Zaz P H (Zal fn k) ∧ ∀ (N : X → Prop) (E : Exit → X → Prop), E e (St n) → ZaX P H fn k sw ts ks V VE N E (St n))
    (Q : Exit → X → Prop) (x : X) (h : Zde ts ks St Sr n bad r e Q x) : XWP P (.loop (Zal fn k)) Q x := by
  obtain ⟨h1, h2, h3⟩ := h
  refine ZnQ (ι := Nat) sw hm St (fun i => i ≤ n ∧ ∀ j, j < i → bad j = false) (fun i => n - i) 0 V VE hV hVE (fun i hp => ?_) ⟨Nat.zero_le _, fun j hj => by omega⟩ h1
  obtain ⟨hi, hj⟩ := hp
  by_cases hl : i < n
  · obtain ⟨H, c1, c2, c3⟩ := hs i hl
    refine ⟨H, c1, c2, c3 _ _ (fun hb => h2 i ⟨hl, hb, hj⟩) (fun hb => ⟨i + 1, by omega, ⟨hl, fun j hji => ?_⟩, rfl⟩)⟩
    rcases Nat.lt_succ_iff_lt_or_eq.1 hji with hji | rfl
    · exact hj j hji
    · exact hb
  · have e : i = n := by omega
    subst e
    obtain ⟨H, c1, c2, c3⟩ := he
    exact ⟨H, c1, c2, c3 _ _ (h3 hj)⟩
theorem Zjp {fn : Func} {k : Nat} {sw : List (Nat × Nat)} {ts ks : List Nat} {V VE : Vw} (hm : P.follows .mixedOrders = true) (hV : VwOK V) (hVE : VwOK VE)
    (St Sr : Nat → X) (n : Nat) (bad : Nat → Bool) (r e : Exit)
    (hs : ∀ i, i < n → ∃ H, Zam P H ∧ Zaz P H (Zal fn k) ∧ ∀ (N : X → Prop) (E : Exit → X → Prop), (bad i = true → E r (Sr i)) → (bad i = false → N (St (i + 1))) → ZcC P H fn k sw ts ks V VE N E (St i))
    (he : ∃ H, Zam P H ∧ Zaz P H (Zal fn k) ∧ ∀ (N : X → Prop) (E : Exit → X → Prop), E e (St n) → ZcC P H fn k sw ts ks V VE N E (St n))
    (Q : Exit → X → Prop) (x : X) (h : Zde ts ks St Sr n bad r e Q x) : XWP P (.loop (Zal fn k)) Q x :=
  Zbq (VE := fun _ => VE) hm hV (fun _ => hVE) St Sr n bad r e hs he Q x h
theorem Zcd {H : Hooks} {fn : Func} {k : Nat} {sw : List (Nat × Nat)} {ts ks : List Nat} {V VE : Vw} (hH : Zam P H) (hm : P.follows .mixedOrders = true) (hl : Zaz P H (Zal fn k)) (hV : VwOK V) (hVE : VwOK VE)
    (St Sr : Nat → X) (n : Nat) (bad : Nat → Bool) (r e : Exit)
    (hs : ∀ i, i < n → ∀ (N : X → Prop) (E : Exit → X → Prop), (bad i = true → E r (Sr i)) → (bad i = false → N (St (i + 1))) → ZcC P H fn k sw ts ks V VE N E (St i))
    (he : ∀ (N : X → Prop) (E : Exit → X → Prop), E e (St n) → ZcC P H fn k sw ts ks V VE N E (St n))
    (Q : Exit → X → Prop) (x : X) (h : Zde ts ks St Sr n bad r e Q x) : XWP P (.loop (Zal fn k)) Q x :=
  Zjp hm hV hVE St Sr n bad r e (fun i hi => ⟨H, hH, hl, hs i hi⟩) ⟨H, hH, hl, he⟩ Q x h
theorem firstAt.b {bad : Nat → Bool} {n i : Nat} (h : firstAt bad n i) : (List.range n).any bad = true := List.any_eq_true.2 ⟨i, by simpa using h.1, h.2.1⟩
theorem noneTo.b {bad : Nat → Bool} {n : Nat} (h : noneTo bad n) : (List.range n).any bad = false := by
  rw [List.any_eq_false]; intro x hx; simp at hx; simp [h x hx]
theorem firstAt.any {α : Type} {l : List α} {d : α} {p : α → Bool} {i : Nat} (h : firstAt (fun i => p (l.getD i d)) l.length i) : l.any p = true := by
  obtain ⟨h1, h2, _⟩ := h
  refine List.any_eq_true.2 ⟨l[i], List.getElem_mem h1, ?_⟩
  simpa [List.getD_eq_getElem?_getD, h1] using h2
theorem noneTo.any {α : Type} {l : List α} {d : α} {p : α → Bool} (h : noneTo (fun i => p (l.getD i d)) l.length) : l.any p = false := by
  rw [List.any_eq_false]
  intro x hx
  obtain ⟨j, hj, rfl⟩ := List.mem_iff_getElem.1 hx
  have := h j hj
  simpa [List.getD_eq_getElem?_getD, hj] using this
theorem firstAt.find {α : Type} {l : List α} {d : α} {p : α → Bool} {i : Nat} (h : firstAt (fun i => p (l.getD i d)) l.length i) : l.findIdx? p = some i := by
  obtain ⟨h1, h2, h3⟩ := h
  rw [List.findIdx?_eq_some_iff_getElem]
  refine ⟨h1, by simpa [List.getD_eq_getElem?_getD, h1] using h2, fun j hji => ?_⟩
  have := h3 j hji
  simpa [List.getD_eq_getElem?_getD, Nat.lt_trans hji h1] using this
theorem noneTo.find {α : Type} {l : List α} {d : α} {p : α → Bool} (h : noneTo (fun i => p (l.getD i d)) l.length) : l.findIdx? p = none := by
  rw [List.findIdx?_eq_none_iff]
  intro x hx
  obtain ⟨j, hj, rfl⟩ := List.mem_iff_getElem.1 hx
  have := h j hj
  simpa [List.getD_eq_getElem?_getD, hj] using this
end

section
open Go
variable {P : Program} {w0 : World} {own : Nat → Prop} {γ : Gh} {a : Act} {w : World}
def isP : D → Bool
  | .v _ => true
  | _ => false
def ZfG : List C → Option (List D)
  | [] => some []
  | .d x :: l => match x.top0 with | true => (ZfG l).map (x :: ·) | false => none
  | _ :: _ => none
def frz0 (k t : Nat) (row : List D) : C → C
  | .rp k' g wd i j => match Nat.beq k' k && (Nat.beq g t && Nat.beq i 0) with | true => .d (.p 0 row j) | false => .rp k' g wd i j
  | c => c
def frzC (k t : Nat) (row : List D) : C → C
  | .cf fn fs cs => match ZfG (fs.map (frz0 k t row)), ZfG (cs.map (frz0 k t row)) with | some a, some b => .d (.f fn a b) | _, _ => .cf fn fs cs
  | c => frz0 k t row c
def frzA (k t : Nat) (row : List D) : A → A
  | .c y => .c (frzC k t row y)
  | y => y
def X.frz (k t : Nat) (row : List D) (x : X) : X := { x with tmps := x.tmps.map (frzA k t row), store := x.store.filter fun p => !Nat.beq p.1 k }
theorem ZgJ (k : Nat) : ∀ (s : List (Nat × XRoot)) (i : Nat), Zar (s.filter fun p => !Nat.beq p.1 k) i = match Nat.beq i k with | true => none | false => Zar s i
  | [], i => by cases Nat.beq i k <;> rfl
  | (j, R) :: l, i => by
    have ih := ZgJ k l i
    cases hj : Nat.beq j k with
    | true =>
      have e : (((j, R) :: l).filter fun p => !Nat.beq p.1 k) = l.filter fun p => !Nat.beq p.1 k := by simp [List.filter, hj]
      rw [e, ih]
      cases hi : Nat.beq i k with
      | true => rfl
      | false =>
        simp only [Zar]
        have : Nat.beq j i = false := by
          have := Zaa hj; subst this
          exact ZkT fun e => Zbi hi e.symm
        rw [this]
    | false =>
      have e : (((j, R) :: l).filter fun p => !Nat.beq p.1 k) = (j, R) :: l.filter fun p => !Nat.beq p.1 k := by simp [List.filter, hj]
      rw [e]
      simp only [Zar]
      cases hji : Nat.beq j i with
      | true =>
        have := Zaa hji; subst this
        rw [hj]
      | false => rw [ih]
theorem Zef : ∀ (l : List C) (r : List D), ZfG l = some r → l = r.map C.d ∧ r.all D.top0 = true
  | [], r, h => by simp [ZfG] at h; subst h; exact ⟨rfl, rfl⟩
  | c :: l, r, h => by
    cases c with
    | d x =>
      simp only [ZfG] at h
      split at h
      · rename_i ht
        obtain ⟨r', h1, rfl⟩ := Option.map_eq_some_iff.1 h
        obtain ⟨i1, i2⟩ := Zef l r' h1
        exact ⟨by rw [i1]; rfl, by simp [ht, i2]⟩
      · cases h
    | _ => simp [ZfG] at h
theorem Rel.frz {x : X} (h : Rel w0 own γ x.S a w) {k t wd : Nat} {row : List D} (hk : Zar x.store k = some (.bx t wd (row.map C.d))) (hp : row.all isP = true) : ∃ γ', γ'.F0 = γ.F0 ∧ Rel w0 own γ' (x.frz k t row).S a w := by
  have hk' : x.S.store k = some ⟨t, true, wd, [row.map C.d]⟩ := by simp [X.S, hk, XRoot.root]
  have hm := h.mem k _ hk'
  unfold RootOK at hm
  simp only at hm
  cases hβ : γ.β k t with
  | none => rw [hβ] at hm; cases hm
  | some b =>
    rw [hβ] at hm
    obtain ⟨arr, E, harr, hw, hsz, hcell⟩ := hm
    obtain ⟨r1, r2, r3⟩ := h.rootF k _ b hk' hβ
    have hlt : b < w.heap.size := h.ltβ k t b (by rw [h.gen]; exact h.tag k _ hk') hβ
    have hst : ∀ i R, (x.frz k t row).S.store i = some R → i ≠ k ∧ x.S.store i = some R := by
      intro i R hi
      simp only [X.S, X.frz, ZgJ] at hi ⊢
      cases e : Nat.beq i k with
      | true => rw [e] at hi; cases hi
      | false => rw [e] at hi; exact ⟨Zbi e, hi⟩
    have h1 : Rel w0 own γ { x.S with store := (x.frz k t row).S.store } a w :=
      { env := h.env, size := h.size, defers := h.defers, tmps := h.tmps, ghost := h.ghost, gen := h.gen
        tag := fun i R hi => h.tag i R (hst i R hi).2, mem := fun i R hi => h.mem i R (hst i R hi).2
        inj := fun i R j R' c q1 q2 => h.inj i R j R' c (hst i R q1).2 (hst j R' q2).2
        rootF := fun i R c q1 => h.rootF i R c (hst i R q1).2, fpF := h.fpF, fpD := h.fpD, fs := h.fs, lt := h.lt, ltβ := h.ltβ }
    have hfree : Free w0 own γ { x.S with store := (x.frz k t row).S.store } w (fun c => c = b) := by
      rintro c rfl
      refine ⟨fun hG => ?_, fun i R hi hc => ?_, r3, hlt⟩
      · rcases hG with hG | ⟨i, j, l, hG⟩
        · exact r1 hG
        · exact r2 _ _ _ hG
      · obtain ⟨n1, n2⟩ := hst i R hi
        exact n1 (h.inj i R k _ c n2 hk' hc hβ)
    obtain ⟨h2, hle⟩ := h1.still hfree
    refine ⟨γ.still fun c => c = b, rfl, ?_⟩
    have hF : (γ.still fun c => c = b).F b := .inr rfl
    have hrow : row.length = wd := by have := hw (row.map C.d) (by simp); simpa using this
    -- a pointer into the box
    have key : ∀ v c, CR γ w v c → CR (γ.still fun c => c = b) w v (frz0 k t row c) := by
      intro v c hc
      have hc' := hc.mono hle (.refl _ _) (.refl _)
      unfold frz0
      split
      · rename_i k' g wd' i j
        split
        · rename_i hb
          simp only [Bool.and_eq_true] at hb
          obtain ⟨e1, e2, e3⟩ := hb
          have e1 := Zaa e1; have e2 := Zaa e2; have e3 := Zaa e3
          subst e1 e2 e3
          obtain ⟨b', rfl, hb', _⟩ := (AR.c (γ := γ) _ _ hc).rp_inv
          rw [hβ] at hb'
          cases hb'
          refine .d _ _ ?_
          simp only [D.top0, Gh.at, beq_self_eq_true, if_true, Nat.zero_mul, Nat.zero_add]
          have := DR.p (w := w) (G := (γ.still fun c => c = b).F) 0 row b 0 j (fun q => arr.getD q undef) hF (fun q hq => by
            have hsz' : wd ≤ arr.size := by simpa using hsz
            have hpos : q < arr.size := by omega
            simp [World.cell?, harr, hpos]) (fun q d hd => by
            have hd2 : (row.map C.d)[q]? = some (.d d) := by simp [hd]
            have := hcell 0 q _ _ rfl hd2
            have hpd := List.all_eq_true.1 hp d (List.mem_of_getElem? hd)
            cases d with
            | v y =>
              have this : CR γ w (arr.getD (0 * wd + q) undef) (.d (.v y)) := this
              simp only [Nat.zero_mul, Nat.zero_add] at this
              obtain ⟨e1, e2⟩ := CR.sc_inv this
              rw [e1]
              exact .v y e2
            | _ => simp [isP] at hpd)
          simpa using this
        · exact hc'
      · exact hc'
    have en : (x.frz k t row).S = { ({ x.S with store := (x.frz k t row).S.store } : St) with tmps := (x.frz k t row).S.tmps } := by
      have e1 : (x.frz k t row).S.n = x.S.n := by simp [X.S, X.frz]
      have e2 : (x.frz k t row).S.gen = x.S.gen := rfl
      have e3 : (x.frz k t row).S.lvl = x.S.lvl := rfl
      have e4 : (x.frz k t row).S.gs = x.S.gs := rfl
      revert e1 e2 e3 e4
      generalize (x.frz k t row).S = s
      rintro e1 e2 e3 e4
      cases s; simp_all
    rw [en]
    refine h2.know (f := (x.frz k t row).S.tmps) fun i => ?_
    have h3 := h.tmps i
    have e : (x.frz k t row).S.tmps i = frzA k t row (x.S.tmps i) := by
      simp only [X.S, X.frz, List.getD_eq_getElem?_getD, List.getElem?_map]
      cases x.tmps[i]? <;> rfl
    have h4 : AR (γ.still fun c => c = b) w (a.tmps.getD i undef) (frzA k t row (x.S.tmps i)) := by
      generalize a.tmps.getD i undef = v at h3 ⊢
      generalize x.S.tmps i = y at h3
      have hmono := h3.mono hle (.refl _ _) (.refl _)
      cases y with
      | c y =>
        simp only [frzA]
        have hy : CR γ w v y := by cases h3 with | c _ _ h => exact h
        refine .c _ _ ?_
        cases y with
        | cf fn fs cs =>
          simp only [frzC]
          split
          · rename_i p q hp1 hq1
            obtain ⟨e1, t1⟩ := Zef _ _ hp1
            obtain ⟨e2, t2⟩ := Zef _ _ hq1
            cases hy with
            | ca _ vs s1 c1 =>
              refine .d _ _ ?_
              show DR w (γ.still fun c => c = b).F _ _
              have l2 : cs.length = q.length := by have := congrArg List.length e2; simpa using this
              simp only [ZfG, List.map_nil, Option.some.injEq] at hp1
              subst hp1
              refine .a q vs (by omega) (fun j d hd => ?_)
              have hj : j < cs.length := by have := (List.getElem?_eq_some_iff.1 hd).1; omega
              have hk2 := key _ _ (c1 j cs[j] (List.getElem?_eq_getElem hj))
              have : (cs.map (frz0 k t row))[j]? = some (.d d) := by rw [e2]; simp [hd]
              rw [List.getElem?_map, List.getElem?_eq_getElem hj] at this
              simp only [Option.map_some, Option.some.injEq] at this
              rw [this] at hk2
              have h5 := (AR.c (γ := γ.still fun c => c = b) _ _ hk2).d_inv
              rw [List.all_eq_true.1 t2 d (List.mem_of_getElem? hd)] at h5
              exact h5
            | cf _ _ _ fv cv s0 s1 s2 c1 c2 =>
              refine .d _ _ ?_
              show DR w (γ.still fun c => c = b).F _ _
              have l1 : fs.length = p.length := by have := congrArg List.length e1; simpa using this
              have l2 : cs.length = q.length := by have := congrArg List.length e2; simpa using this
              refine .f fn p q fv cv s0 (by omega) (by omega) (fun j d hd => ?_) (fun j d hd => ?_)
              · have hj : j < fs.length := by have := (List.getElem?_eq_some_iff.1 hd).1; omega
                have hk2 := key _ _ (c1 j fs[j] (List.getElem?_eq_getElem hj))
                have : (fs.map (frz0 k t row))[j]? = some (.d d) := by rw [e1]; simp [hd]
                rw [List.getElem?_map, List.getElem?_eq_getElem hj] at this
                simp only [Option.map_some, Option.some.injEq] at this
                rw [this] at hk2
                have h5 := (AR.c (γ := γ.still fun c => c = b) _ _ hk2).d_inv
                rw [List.all_eq_true.1 t1 d (List.mem_of_getElem? hd)] at h5
                exact h5
              · have hj : j < cs.length := by have := (List.getElem?_eq_some_iff.1 hd).1; omega
                have hk2 := key _ _ (c2 j cs[j] (List.getElem?_eq_getElem hj))
                have : (cs.map (frz0 k t row))[j]? = some (.d d) := by rw [e2]; simp [hd]
                rw [List.getElem?_map, List.getElem?_eq_getElem hj] at this
                simp only [Option.map_some, Option.some.injEq] at this
                rw [this] at hk2
                have h5 := (AR.c (γ := γ.still fun c => c = b) _ _ hk2).d_inv
                rw [List.all_eq_true.1 t2 d (List.mem_of_getElem? hd)] at h5
                exact h5
          · cases hmono with | c _ _ h => exact h
        | _ => simp only [frzC]; exact key _ _ hy
      | _ => exact hmono
    rw [← e] at h4
    exact h4
def finF (P : Program) (fn : Func) (k : Nat) (K : DV → Prop) (e : Exit) (x : X) : Prop :=
  match Zar x.store k with
  | some (.bx t wd row) => match strip.stripRow row with
    | some r => match r.all isP with | true => finX P fn K e (x.frz k t r) | false => False
    | none => False
  | _ => False
theorem Zoe {H : Hooks} (k : Nat) (hH : Zam P H) (hm : P.follows .mixedOrders = true) {f : FuncId} {fn : Func} {c : Code} {args : List DV} {res : DV} (n : Nat) (hf : P.funcs[f]? = some fn) (hb : fn.body = some c) (hl : Zaz P H c) (hn : args.length ≤ fn.ntmps) (hfit : (DV.tup args).fit32 = true)
    (h : evp P H n c (finF P fn k fun r => r = res) (Zb6 fn.ntmps args)) : CT P f args res := by
  refine Zo2 hf hb hn hfit ?_
  intro w0 own γ a w hR
  refine Code.wp_mono (fun e a' w' hp => ?_) (Zbk hH hm n _ _ _ hl h w0 own γ a w hR)
  obtain ⟨γ', x', g1, g2, hq⟩ := hp
  unfold finF at hq
  split at hq
  · rename_i t wd row hk
    split at hq
    · rename_i r hr
      split at hq
      · rename_i hp
        have e := Za0 _ _ hr
        subst e
        obtain ⟨γ2, q1, q2⟩ := g2.frz hk hp
        exact ⟨γ2, _, q1.trans g1, q2, hq⟩
      · exact hq.elim
    · exact hq.elim
  · exact hq.elim
end

section
open Go
variable {P : Program} {w0 : World} {own : Nat → Prop} {γ : Gh} {st : St} {a : Act} {w : World} {o : Oper} {x : X}
theorem CR.fx {v : Value} {c : C} (f : Fx) (h : CR γ w v c) : CR { γ with F0 := f } w v c := by
  induction h with
  | d v x h => exact .d v x h
  | rs k g wd lo len kn cap b E n h1 h2 h3 h4 h5 h6 => exact .rs k g wd lo len kn cap b E n h1 h2 h3 h4 h5 h6
  | rn a k g wd h1 h2 => exact .rn a k g wd h1 h2
  | rp k g wd i j b h1 h2 => exact .rp k g wd i j b h1 h2
  | cf fn first caps fv cv h0 h1 h2 _ _ i1 i2 => exact .cf fn first caps fv cv h0 h1 h2 i1 i2
  | ca cells vs h1 _ ih => exact .ca cells vs h1 ih
  | non v => exact .non v
theorem AR.fx {v : Value} {c : A} (f : Fx) (h : AR γ w v c) : AR { γ with F0 := f } w v c := by
  induction h with
  | dead v => exact .dead v
  | c v x h => exact .c v x (h.fx f)
  | agg vs xs h1 h2 => exact .agg vs xs h1 fun i c hc => (h2 i c hc).fx f
  | tup vs xs h1 _ ih => exact .tup vs xs h1 ih
  | bb b q h => exact .bb b q h
  | rx k g wd lo len cap b E n h1 h2 h3 h4 h5 => exact .rx k g wd lo len cap b E n h1 h2 h3 h4 h5
theorem SR.fx {v : Value} {c : C} {S : Nat → Prop} (f : Fx) (h : SR γ w v c S) : SR { γ with F0 := f } w v c S := by
  unfold SR at *
  split
  · exact h
  · rename_i hne
    cases c with
    | d x => cases x with
      | s t z rows spare =>
        match t with
        | 1 => exact (hne z rows spare rfl).elim
        | 0 => exact CR.fx f h
        | (t + 2) => exact CR.fx f h
      | _ => exact CR.fx f h
    | _ => exact CR.fx f h
theorem RootOK.fx {k : Nat} {R : Root} (f : Fx) (h : RootOK γ w k R) : RootOK { γ with F0 := f } w k R := by
  unfold RootOK at *
  simp only
  split
  · rename_i e; rw [e] at h; exact h
  · rename_i b e
    rw [e] at h
    obtain ⟨arr, E, h1, h2, h3, h4⟩ := h
    exact ⟨arr, E, h1, h2, h3, fun i j r c hr hc => (h4 i j r c hr hc).fx f⟩
theorem Rel.frame (h : Rel w0 own γ st a w) (f : Fx) (hf : f.p = γ.F0.p) {a' : Act} {st' : St} (hs : st'.store = st.store) (hg : st'.gen = st.gen) (hz : a'.tmps.size = st'.n) (hd : a'.defers = [])
    (ht : ∀ i, AR γ w (a'.tmps.getD i undef) (st'.tmps i)) (hgh : ∀ i, AR γ w (f.gv i) (st'.gs i)) : Rel w0 own { γ with F0 := f } st' a' w where
  env := h.env
  size := hz
  defers := hd
  tmps := fun i => (ht i).fx f
  ghost := fun i => (hgh i).fx f
  gen := by rw [hg]; exact h.gen
  tag := fun k R hk => by rw [hs] at hk; rw [hg]; exact h.tag k R hk
  mem := fun k R hk => by rw [hs] at hk; exact (h.mem k R hk).fx f
  inj := fun k R k' R' b hk hk' => by rw [hs] at hk hk'; exact h.inj k R k' R' b hk hk'
  rootF := fun k R b hk => by rw [hs] at hk; exact h.rootF k R b hk
  fpF := h.fpF
  fpD := h.fpD
  fs := fun b hb => by
    have := h.fs b hb
    rw [← hf] at this
    exact this
  lt := h.lt
  ltβ := h.ltβ
abbrev gOff : Nat := 1000000000
def sgq (q k : Nat) : Nat := match Nat.ble gOff k with
  | false => k + q
  | true => match Nat.ble q k && Nat.ble (k + 1) (q + gOff) with
    | true => k - q
    | false => k
theorem Zse {q : Nat} (hq : gOff ≤ q) (k : Nat) : sgq q (sgq q k) = k := by
  unfold sgq
  cases e1 : Nat.ble gOff k with
  | false =>
    have h1 : ¬ gOff ≤ k := fun h => by rw [Nat.ble_eq_true_of_le h] at e1; cases e1
    have e2 : Nat.ble gOff (k + q) = true := Nat.ble_eq_true_of_le (by omega)
    have e3 : (Nat.ble q (k + q) && Nat.ble (k + q + 1) (q + gOff)) = true := by
      rw [Bool.and_eq_true]; exact ⟨Nat.ble_eq_true_of_le (by omega), Nat.ble_eq_true_of_le (by omega)⟩
    simp only [e2, e3]
    omega
  | true =>
    have h1 := Nat.le_of_ble_eq_true e1
    simp only
    cases e2 : (Nat.ble q k && Nat.ble (k + 1) (q + gOff)) with
    | true =>
      rw [Bool.and_eq_true] at e2
      have h2 := Nat.le_of_ble_eq_true e2.1
      have h3 := Nat.le_of_ble_eq_true e2.2
      simp only
      have e4 : Nat.ble gOff (k - q) = false := by
        cases e : Nat.ble gOff (k - q)
        · rfl
        · have := Nat.le_of_ble_eq_true e; omega
      simp only [e4]
      omega
    | false => simp only [e1, e2]
def inRange (q : Nat) : List (Nat × XRoot) → Bool
  | [] => false
  | (k, _) :: l => (Nat.ble q k && Nat.ble (k + 1) (q + gOff)) || inRange q l
def Zq3 (s : List (Nat × XRoot)) (K : Nat → Prop) : Nat → Nat → Prop
  | 0, _ => False
  | n + 1, q => match inRange q s with | true => Zq3 s K n (q + gOff) | false => K q
theorem ZhO {s : List (Nat × XRoot)} {K : Nat → Prop} : ∀ (n q : Nat), gOff ≤ q → Zq3 s K n q → ∃ q, gOff ≤ q ∧ K q
  | 0, _, _, h => h.elim
  | n + 1, q, hq, h => by
    unfold Zq3 at h
    split at h
    · exact ZhO n _ (by omega) h
    · exact ⟨q, hq, h⟩
def oneA (ys : List A) : A := match ys with | [y] => y | ys => .tup ys
def finI (P : Program) (fn : Func) (m : Nat) (K : A → X → Prop) (e : Exit) (x : X) : Prop :=
  match e with
  | .ret => body
  | .normal => body
  | _ => False
where
  back (y : A) : Prop := match Nat.ble m x.gs.length with | true => K y { tmps := x.gs.take m, store := x.store, gens := x.gens, gs := x.gs.drop m } | false => False
  body := ZkO P x fn.results.toList fun ys => back (oneA ys)
def inlX (P : Program) (H : Hooks) (n : Nat) (fn : Func) (args : List Operand) (dst : Option Nat) (x : X) (K : X → Prop) : Prop :=
  Zq3 x.store (fun q => (x.ren (sgq q)).force fun x1 => match Nat.ble args.length fn.ntmps with
    | true => evp P H n (Zav fn) (finI P fn x1.tmps.length fun y x2 => match (x2.ren (sgq q)).fits dst with
        | true => K ((x2.ren (sgq q)).put dst (y.ren (sgq q)))
        | false => False)
      { tmps := padA (args.map (evA x1.S)) fn.ntmps, store := x1.store, gens := x1.gens, gs := x1.tmps ++ x1.gs }
    | false => False) 30 gOff
theorem ZqH (l m : List A) (i : Nat) : (l ++ m).getD i .dead = if i < l.length then l.getD i .dead else m.getD (i - l.length) .dead := by
  simp only [List.getD_eq_getElem?_getD]
  split
  · rename_i h; rw [List.getElem?_append_left h]
  · rename_i h; rw [List.getElem?_append_right (by omega)]
theorem Zov {fn : Func} {m : Nat} {K : A → X → Prop} {e : Exit} (h : finI P fn m K e x) : (e = .normal ∨ e = .ret) ∧ ∃ ys, Zd4 P x.S fn.results.toList = some ys ∧ m ≤ x.gs.length ∧
    K (oneA ys) { tmps := x.gs.take m, store := x.store, gens := x.gens, gs := x.gs.drop m } := by
  have key : finI.body P fn m K x → ∃ ys, Zd4 P x.S fn.results.toList = some ys ∧ m ≤ x.gs.length ∧ K (oneA ys) { tmps := x.gs.take m, store := x.store, gens := x.gens, gs := x.gs.drop m } := by
    intro h
    unfold finI.body at h
    obtain ⟨ys, h1, h2⟩ := Zcv _ _ h
    refine ⟨ys, h1, ?_⟩
    have hb : ∀ {y}, finI.back m K x y → m ≤ x.gs.length ∧ K y { tmps := x.gs.take m, store := x.store, gens := x.gens, gs := x.gs.drop m } := by
      intro y h
      unfold finI.back at h
      split at h
      · rename_i hl; exact ⟨Nat.le_of_ble_eq_true hl, h⟩
      · exact h.elim
    exact hb h2
  unfold finI at h
  split at h
  · exact ⟨.inr rfl, key h⟩
  · exact ⟨.inl rfl, key h⟩
  · exact h.elim
theorem ZrV {H : Hooks} (hH : Zam P H) (hm : P.follows .mixedOrders = true) {f : FuncId} {fn : Func} (n : Nat) (hf : P.funcs[f]? = some fn) (hb : fn.body.isSome = true) (hg : Goes P f) (hl : Zaz P H (Zav fn)) : Zbt P f (inlX P H n fn) := by
  intro o args tys ho x K hF w0 own γ a w hR next Q hn
  unfold inlX at hF
  obtain ⟨q, hq, hF⟩ := ZhO _ _ (Nat.le_refl _) hF
  have hσ : ∀ k, sgq q (sgq q k) = k := Zse hq
  have hR1 := hR.ren hσ
  have hF := Ze7 hF
  generalize x.ren (sgq q) = x1 at hF hR1
  split at hF
  rotate_left
  · exact hF.elim
  rename_i hlen
  have hlen := Nat.le_of_ble_eq_true hlen
  obtain ⟨c, hc⟩ := Option.isSome_iff_exists.1 hb
  have ec : Zav fn = c := by simp [Zav, hc]
  rw [ec] at hF hl
  have hsz : a.tmps.size = x1.tmps.length := hR1.size
  have hex : (execOp a.eval o).run P w = .ok (.enter f (args.toList.map a.eval).toArray) w := by
    unfold execOp
    rw [ho]
    simp only [resolve, Act.eval, Deferred.ofValue, Sem.run_bind]
    have e : args.map a.eval = (args.toList.map a.eval).toArray := by apply Array.ext'; simp
    simp [Sem.run, invoke, hg _ w, e]
  simp only [Oper.wp, hex, Oper.upon_enter]
  let gvc : Nat → Value := fun i => if i < a.tmps.size then a.tmps.getD i undef else γ.F0.gv (i - a.tmps.size)
  have hRc := hR1.frame (f := ⟨γ.F0.p, gvc⟩) rfl (a' := { tmps := (args.toList.map a.eval).toArray ++ Array.replicate (fn.ntmps - (args.toList.map a.eval).toArray.size) undef, defers := [] })
    (st' := ({ tmps := padA (args.toList.map (evA x1.S)) fn.ntmps, store := x1.store, gens := x1.gens, gs := x1.tmps ++ x1.gs } : X).S) rfl rfl (by
      show ((args.toList.map a.eval).toArray ++ Array.replicate (fn.ntmps - (args.toList.map a.eval).toArray.size) undef).size = (padA (args.toList.map (evA x1.S)) fn.ntmps).length
      rw [ZdT _ _ (by simpa using hlen)]
      simp at hlen ⊢
      omega) rfl (fun i => by
      simp only [X.S]
      rw [Zd1]
      by_cases hi : i < args.toList.length
      · have e1 : ((args.toList.map a.eval).toArray ++ Array.replicate (fn.ntmps - (args.toList.map a.eval).toArray.size) undef).getD i undef = a.eval args.toList[i] := by
          have hi' : i < args.size := by simpa using hi
          simp [Array.getD_eq_getD_getElem?, Array.getElem?_append, hi']
        have e2 : (args.toList.map (evA x1.S)).getD i .dead = evA x1.S args.toList[i] := by
          simp [List.getD_eq_getElem?_getD, List.getElem?_map, List.getElem?_eq_getElem hi]
        rw [e1]
        have := hR1.ev args.toList[i]
        rw [← e2] at this
        exact this
      · have e2 : (args.toList.map (evA x1.S)).getD i .dead = .dead := by
          simp only [List.getD_eq_getElem?_getD]
          rw [List.getElem?_eq_none (by simpa using hi)]; rfl
        have : AR (γ.ren (sgq q)) w (((args.toList.map a.eval).toArray ++ Array.replicate (fn.ntmps - (args.toList.map a.eval).toArray.size) undef).getD i undef) ((args.toList.map (evA x1.S)).getD i .dead) := by
          rw [e2]; exact .dead _
        exact this) (fun i => by
      simp only [X.S]
      rw [ZqH]
      show AR _ _ (if i < a.tmps.size then _ else _) _
      rw [hsz]
      split
      · exact hR1.tmps i
      · exact hR1.ghost _)
  refine calls_of_wp hf hc (Code.wp_mono (fun e a' w' hp => ?_) (Zbk hH hm n _ _ _ hl hF w0 own _ _ w hRc))
  obtain ⟨γ', x2, g1, g2, hfin⟩ := hp
  obtain ⟨he, ys, r1, hml, hK⟩ := Zov hfin
  have hF0 : γ'.F0 = ⟨γ.F0.p, gvc⟩ := g1
  obtain ⟨us, u1, u2, u3⟩ := Zch g2 _ _ r1
  have hv : AR γ' w' (Zlm us) (oneA ys) := by
    match us, ys, u2, u3 with
    | [u], [y], _, u3 => exact u3 0 y rfl
    | [], [], _, _ => exact .tup _ _ rfl (by simp)
    | u :: u' :: us, y :: y' :: ys, u2, u3 =>
      refine .tup _ _ (by simpa using u2) fun i c hc => ?_
      have := u3 i c hc
      simpa [Array.getD_eq_getD_getElem?, List.getD_eq_getElem?_getD] using this
    | [], _ :: _, u2, _ => simp at u2
    | [_], [], u2, _ => simp at u2
    | [_], _ :: _ :: _, u2, _ => simp at u2
    | _ :: _ :: _, [], u2, _ => simp at u2
    | _ :: _ :: _, [_], u2, _ => simp at u2
  have hgh : ∀ i, AR γ' w' (gvc i) (x2.gs.getD i .dead) := fun i => by
    have := g2.ghost i
    rw [hF0] at this
    exact this
  have hRb := g2.frame (f := γ.F0) (by rw [hF0]) (a' := a) (st' := ({ tmps := x2.gs.take x1.tmps.length, store := x2.store, gens := x2.gens, gs := x2.gs.drop x1.tmps.length } : X).S) rfl rfl (by
      simp only [X.S, List.length_take]; omega) hR.defers (fun i => by
      simp only [X.S]
      by_cases hi : i < x1.tmps.length
      · have := hgh i
        simp only [gvc] at this
        rw [if_pos (by omega)] at this
        have e : (x2.gs.take x1.tmps.length).getD i .dead = x2.gs.getD i .dead := by
          simp [List.getD_eq_getElem?_getD, List.getElem?_take, hi]
        rw [e]; exact this
      · have e : (x2.gs.take x1.tmps.length).getD i .dead = .dead := by
          simp [List.getD_eq_getElem?_getD, List.getElem?_take, hi]
        rw [e]; exact .dead _) (fun i => by
      simp only [X.S]
      have := hgh (x1.tmps.length + i)
      simp only [gvc] at this
      rw [if_neg (by omega), hsz, Nat.add_sub_cancel_left] at this
      have e : (x2.gs.drop x1.tmps.length).getD i .dead = x2.gs.getD (x1.tmps.length + i) .dead := by
        simp [List.getD_eq_getElem?_getD, List.getElem?_drop]
      rw [e]; exact this)
  have hRr := hRb.ren hσ
  have hvr := (hv.fx γ.F0).ren (σ := sgq q) hσ
  split at hK
  rotate_left
  · exact hK.elim
  rename_i hfit
  rw [ZmL] at hfit
  have hnext : next (a.put o.dst (Zlm us)) w' := by
    refine hn (Gh.ren (sgq q) { γ' with F0 := γ.F0 }) _ _ _ rfl ?_ hK
    · rw [Ztv _ _ _ hfit]
      have := hRr.put hvr hfit
      have e : ∀ (s : St) (d : Option Nat) (y : A), s.patch ⟨d, y, []⟩ = s.put d y := by
        intro s d y
        cases d with
        | none => simp [St.patch, St.put, Za4]
        | some d =>
          simp only [St.patch, St.put, Za4]
          congr 1
          funext i
          by_cases hi : i = d
          · simp [hi]
          · simp [hi, Ne.symm hi]
      rw [e]
      exact this
  rcases he with rfl | rfl
  · exact ⟨g2.defers, Zlm us, ZbT u1, hnext⟩
  · exact ⟨g2.defers, Zlm us, ZbT u1, hnext⟩
end

section
open Go
variable {P : Program}
abbrev Inl := List Operand → Option Nat → X → (X → Prop) → Prop
def Zqm : List (FuncId × Inl) → FuncId → Option Inl
  | [], _ => none
  | (k, s) :: l, f => match Nat.beq k f with | true => some s | false => Zqm l f
def hasF : List (FuncId × Spec) → FuncId → Bool
  | [], _ => false
  | (k, _) :: l, f => match Nat.beq k f with | true => true | false => hasF l f
def ZlB (P : Program) (f : FuncId) (s : Spec) : Prop := ∀ ds Q, s ds Q → Goes P f ∧ ∃ r, CT P f ds r ∧ r.fit32 = true ∧ Q r
inductive SpecsFOK (P : Program) : List (FuncId × Spec) → Prop
  | nil : SpecsFOK P []
  | cons {f s l} : ZlB P f s → SpecsFOK P l → SpecsFOK P ((f, s) :: l)
inductive InlsLOK (P : Program) : List (FuncId × Inl) → Prop
  | nil : InlsLOK P []
  | cons {f s l} : Zbt P f s → InlsLOK P l → InlsLOK P ((f, s) :: l)
theorem Zm5 : ∀ {l : List (FuncId × Spec)}, SpecsFOK P l → ∀ f, ZlB P f (Zkf l f)
  | [], _, f => fun ds Q h => h.elim
  | (k, s) :: l, .cons h1 h2, f => by
    unfold Zkf
    split
    · rename_i hb
      have := Zaa hb; subst this
      exact h1
    · exact Zm5 h2 f
theorem Znj : ∀ {l : List (FuncId × Inl)}, InlsLOK P l → ∀ f F, Zqm l f = some F → Zbt P f F
  | [], _, f, F, h => by cases h
  | (k, s) :: l, .cons h1 h2, f, F, h => by
    unfold Zqm at h
    split at h
    · rename_i hb
      have := Zaa hb; subst this
      cases h; exact h1
    · exact Znj h2 f F h
def hkX (an bo : Int → Int → Int) (l lf : List (FuncId × Spec)) (li : List (FuncId × Inl)) : Hooks := { hk l with and := an, or := bo, free := hasF lf, callF := Zkf lf, inl := Zqm li }
theorem Zng {l lf : List (FuncId × Spec)} {li : List (FuncId × Inl)} (h : SpecsOK P l) (hf : SpecsFOK P lf) (hi : InlsLOK P li) : Zam P (hkX band bor l lf li) :=
  ⟨fun _ _ => rfl, fun _ _ => rfl, ⟨fun _ => rfl, fun _ => rfl, fun _ => rfl⟩, fun f ds Q hq => Zf0 h f ds Q hq, fun f F hF => Znj hi f F hF, fun f ds Q hq => Zm5 hf f ds Q hq⟩
def askX (P : Program) (an bo : Int → Int → Int) (l lf : List (FuncId × Spec)) (li : List (FuncId × Inl)) (fn : Func) (args : List DV) (K : DV → Prop) : Prop := evp P (hkX an bo l lf li) 200 (Zav fn) (finX P fn K) (Zb6 fn.ntmps args)
theorem ZsH {l lf : List (FuncId × Spec)} {li : List (FuncId × Inl)} (h : SpecsOK P l) (hlf : SpecsFOK P lf) (hi : InlsLOK P li) (hm : P.follows .mixedOrders = true) {f : FuncId} {fn : Func} {args : List DV} {res : DV} (hf : P.funcs[f]? = some fn) (hb : fn.body.isSome = true) (hn : Nat.ble args.length fn.ntmps = true) (hfit : (DV.tup args).fit32 = true)
    (hq : askX P band bor l lf li fn args fun r => r = res) : CT P f args res := by
  obtain ⟨c, hc⟩ := Option.isSome_iff_exists.1 hb
  have e : Zav fn = c := by simp [Zav, hc]
  unfold askX at hq
  rw [e] at hq
  exact ZcS (Zng h hlf hi) hm 200 hf hc (fun b hb s hs => by cases hs) (Nat.le_of_ble_eq_true hn) hfit hq
def inlB (P : Program) (an bo : Int → Int → Int) (l lf : List (FuncId × Spec)) (li : List (FuncId × Inl)) (fn : Func) : Inl := inlX P (hkX an bo l lf li) 200 fn
theorem Zqb {l lf : List (FuncId × Spec)} {li : List (FuncId × Inl)} (h : SpecsOK P l) (hlf : SpecsFOK P lf) (hi : InlsLOK P li) (hm : P.follows .mixedOrders = true) {f : FuncId} {fn : Func} (hf : P.funcs[f]? = some fn) (hb : fn.body.isSome = true) (hg : Goes P f) : Zbt P f (inlB P band bor l lf li fn) :=
  ZrV (Zng h hlf hi) hm 200 hf hb hg fun b hb s hs => by cases hs
end

section
open Go
variable {P : Program} {w0 : World} {own : Nat → Prop} {γ : Gh} {st : St} {a : Act} {w : World} {x : X}
theorem Rel.adoptBox (h : Rel w0 own γ st a w) (k : Nat) {b : Nat} {row : List C} {arr : Array Value} {E : TypeId} (hb : Free w0 own γ st w (fun c => c = b)) (harr : w.heap[b]? = some (.cells arr E (0, 0))) (hsz : row.length ≤ arr.size)
    (hc : ∀ (j : Nat) c, row[j]? = some c → CR γ w (arr.getD j undef) c ∧ c.flat = true) :
    Rel w0 own (γ.fresh k (some b)) (st.root k true row.length [row]) a w ∧ ∀ S2, Free w0 own γ st w S2 → ¬ S2 b → Free w0 own (γ.fresh k (some b)) (st.root k true row.length [row]) w S2 := by
  have hle := γ.fresh_le k (some b)
  have hgk : γ.gen k = st.gen k := congrFun h.gen k
  obtain ⟨b1, b2, b3, b4⟩ := hb b rfl
  have hold : ∀ k' R, k' ≠ k → st.store k' = some R → (γ.fresh k (some b)).β k' R.tag = γ.β k' R.tag := fun k' R hk hst => by simp [Gh.fresh, hk]
  have hst : ∀ k' R, (st.root k true row.length [row]).store k' = some R → (k' = k ∧ R = ⟨st.gen k + 1, true, row.length, [row]⟩) ∨ (k' ≠ k ∧ st.store k' = some R) := by
    intro k' R h1
    simp only [St.root] at h1
    split at h1
    · cases h1; exact .inl ⟨‹_›, rfl⟩
    · exact .inr ⟨‹_›, h1⟩
  have hroot : ∀ k' R c, (st.root k true row.length [row]).store k' = some R → (γ.fresh k (some b)).β k' R.tag = some c → (k' = k ∧ b = c) ∨ (k' ≠ k ∧ st.store k' = some R ∧ γ.β k' R.tag = some c) := by
    intro k' R c h1 h2
    rcases hst k' R h1 with ⟨rfl, rfl⟩ | ⟨n1, h3⟩
    · left; refine ⟨rfl, ?_⟩
      have h2' : (γ.fresh k' (some b)).β k' (st.gen k' + 1) = some c := h2
      rw [← hgk, Gh.fresh_new] at h2'
      cases h2'; rfl
    · right; rw [hold k' R n1 h3] at h2; exact ⟨n1, h3, h2⟩
  refine ⟨{ env := h.env, size := h.size, defers := h.defers, tmps := fun i => (h.tmps i).mono hle (.refl _ _) (.refl _), ghost := fun i => (h.ghost i).mono hle (.refl _ _) (.refl _), gen := ?_, tag := ?_, mem := ?_, inj := ?_, rootF := ?_, fpF := ?_, fpD := ?_, fs := fun b hF => hF.elim (h.fs b) fun ⟨i, j, hf⟩ => .inr (h.fpF _ _ _ _ hf).2, lt := ?_, ltβ := ?_ }, ?_⟩
  · funext k'; simp only [Gh.fresh, St.root]; split
    · rw [hgk]
    · exact congrFun h.gen k'
  · intro k' R h1
    rcases hst k' R h1 with ⟨rfl, rfl⟩ | ⟨n1, h3⟩
    · simp [St.root]
    · simp [St.root, n1]; exact h.tag k' R h3
  · intro k' R h1
    rcases hst k' R h1 with ⟨rfl, rfl⟩ | ⟨n1, h3⟩
    · unfold RootOK
      simp only [← hgk, Gh.fresh_new]
      refine ⟨arr, E, harr, fun r hr => ?_, by simpa using hsz, fun i j r c hr hcc => ?_⟩
      · rw [List.mem_singleton] at hr; rw [hr]
      · match i, hr with
        | 0, hr =>
          simp only [List.getElem?_cons_zero, Option.some.injEq] at hr
          subst hr
          obtain ⟨c1, c2⟩ := hc j c hcc
          rw [Nat.zero_mul, Nat.zero_add]
          exact SR.of_CR (c1.mono hle (.refl _ _) (.refl _)) c2
        | i + 1, hr => simp at hr
    · refine (h.mem k' R h3).mono hle (.refl _ _) (.refl _) (by rw [h.gen]; exact h.tag k' R h3) (fun _ _ => rfl) (fun i j r c _ _ x => ?_)
      simp [Gh.fresh, n1]
  · intro k1 R1 k2 R2 c h1 h2 h3 h4
    rcases hroot k1 R1 c h1 h3 with ⟨rfl, e1⟩ | ⟨n1, g1, e1⟩ <;> rcases hroot k2 R2 c h2 h4 with ⟨rfl, e2⟩ | ⟨n2, g2, e2⟩
    · rfl
    · exact (b2 k2 R2 g2 (by rw [e1]; exact e2)).elim
    · exact (b2 k1 R1 g1 (by rw [e2]; exact e1)).elim
    · exact h.inj k1 R1 k2 R2 c g1 g2 e1 e2
  · intro k1 R1 c h1 h3
    rcases hroot k1 R1 c h1 h3 with ⟨rfl, rfl⟩ | ⟨n1, g1, e1⟩
    · refine ⟨fun hF => b1 ((γ.fresh_G k1 (some b) b).1 (.inl hF)), fun k' i j hf => b1 ((γ.fresh_G k1 (some b) b).1 (.inr ⟨k', i, j, hf⟩)), b3⟩
    · obtain ⟨p1, p2, p3⟩ := h.rootF k1 R1 c g1 e1
      exact ⟨fun hF => hF.elim p1 fun ⟨i, j, hf⟩ => p2 _ _ _ hf, fun k' i j hf => p2 k' i j hf.2, p3⟩
  · rintro k1 i j c ⟨hne, hf⟩
    obtain ⟨q1, q2⟩ := h.fpF k1 i j c hf
    exact ⟨fun hF => hF.elim q1 fun ⟨i', j', hf'⟩ => hne (h.fpD _ _ _ _ _ _ _ hf hf').1, q2⟩
  · rintro k1 i j k2 i2 j2 c ⟨_, hf⟩ ⟨_, hf2⟩
    exact h.fpD _ _ _ _ _ _ _ hf hf2
  · intro c hG
    exact h.lt c ((γ.fresh_G k _ c).1 hG)
  · intro k1 g c hg hβ
    by_cases e : k1 = k ∧ g = γ.gen k + 1
    · obtain ⟨rfl, rfl⟩ := e
      rw [Gh.fresh_new] at hβ
      cases hβ; exact b4
    · have hβ' : γ.β k1 g = some c := by
        have : (γ.fresh k (some b)).β k1 g = γ.β k1 g := by simp only [Gh.fresh]; rw [if_neg e]
        rw [this] at hβ; exact hβ
      refine h.ltβ k1 g c ?_ hβ'
      have hg' : g ≤ if k1 = k then γ.gen k + 1 else γ.gen k1 := hg
      split at hg'
      · rename_i e1; subst e1; simp at e; omega
      · exact hg'
  · intro S2 hS2 hnb c hc2
    obtain ⟨f1, f2, f3, f4⟩ := hS2 c hc2
    refine ⟨fun hG => f1 ((γ.fresh_G k _ c).1 hG), fun k' R h1 h2 => ?_, f3, f4⟩
    rcases hroot k' R c h1 h2 with ⟨rfl, rfl⟩ | ⟨n1, g1, e1⟩
    · exact hnb hc2
    · exact f2 k' R g1 e1
def kb (k : Nat) : Nat := 100000000 + 128 * k
def Zfg (x : X) (k : Nat) (d : D) (K : X → C → Prop) : Prop :=
  match d with
  | .s t z rows sp => match Nat.beq t 1 with
    | true => K (x.up1 k (some (.sl (x.gen k + 1) z (rows ++ sp))) (x.gen k + 1)) (.rs k (x.gen k + 1) z 0 rows.length (rows.length + sp.length))
    | false => K x (.d (.s t z rows sp))
  | d => K x (.d d)
def Zq0 (x : X) (k : Nat) : List D → (X → List C → Prop) → Prop
  | [], K => K x []
  | d :: l, K => Zfg x k d fun x c => frcN (k + 1) fun k' => Zq0 x k' l fun x cs => K x (c :: cs)
def Zqw (x : X) (k : Nat) (d : D) (K : X → C → Prop) : Prop :=
  match d with
  | .s t z rows sp => match Nat.beq t 1 && Nat.beq z 17 with
    | true => match rows with
      | [] => Zfg x k (.s t z [] sp) K
      | r :: l => match sp with
        | [] => frcN (kb k) fun k' => Zq0 x k' (r :: l).flatten fun x cs => K (x.up1 k (some (.bx (x.gen k + 1) cs.length cs)) (x.gen k + 1)) (.rs k (x.gen k + 1) z 0 (r :: l).length (r :: l).length)
        | _ => False
    | false => Zfg x k (.s t z rows sp) K
  | d => K x (.d d)
def Zp5 (x : X) (k : Nat) : List D → (X → List C → Prop) → Prop
  | [], K => K x []
  | d :: l, K => Zqw x k d fun x c => frcN (k + 1) fun k' => Zp5 x k' l fun x cs => K x (c :: cs)
def ZsI (x : X) (k : Nat) (d : DV) (K : X → A → Prop) : Prop :=
  match d with
  | .c d => Zqw x k d fun x c => K x (.c c)
  | .agg xs => Zp5 x k xs fun x cs => K x (.agg cs)
  | .tup _ => False
def Zry (x : X) (k : Nat) : List DV → (X → List A → Prop) → Prop
  | [], K => K x []
  | d :: l, K => ZsI x k d fun x c => frcN (k + 32) fun k' => Zry x k' l fun x cs => K x (c :: cs)
def matX (x : X) (k : Nat) (d : DV) (K : X → A → Prop) : Prop :=
  match d with
  | .tup xs => Zry x k xs fun x cs => K x (.tup cs)
  | d => ZsI x k d K
def Zi5 (w0 : World) (own : Nat → Prop) (γ : Gh) (x : X) (a : Act) (w : World) (S : Nat → Prop) (K : Gh → X → Prop) : Prop :=
  ∃ γ' x', γ.le γ' ∧ Rel w0 own γ' x'.S a w ∧ K γ' x' ∧ (∀ S2, Free w0 own γ x.S w S2 → (∀ b, S b → ¬ S2 b) → Free w0 own γ' x'.S w S2)
theorem ZmP (x : X) (k z : Nat) (rows : List (List D)) : (x.up1 k (some (.sl (x.gen k + 1) z rows)) (x.gen k + 1)).S = x.S.root k false z (emb rows) := by
  rw [ZsY]; rfl
theorem Zp2 (x : X) (k z : Nat) (row : List C) : (x.up1 k (some (.bx (x.gen k + 1) z row)) (x.gen k + 1)).S = x.S.root k true z [row] := by
  rw [ZsY]; rfl
theorem ZdV (h : Rel w0 own γ x.S a w) (k : Nat) {v : Value} {d : D} {S : Nat → Prop} (hv : OD w γ.F v d S) (hS : Free w0 own γ x.S w S) {K : X → C → Prop} (hK : Zfg x k d K) :
    Zi5 w0 own γ x a w S fun γ' x' => ∃ c, CR γ' w v c ∧ c.flat = true ∧ K x' c := by
  have stay : (∀ z rows sp, d ≠ .s 1 z rows sp) → K x (.d d) → Zi5 w0 own γ x a w S fun γ' x' => ∃ c, CR γ' w v c ∧ c.flat = true ∧ K x' c := fun hne hK => by
    have hdr := hv.not_own hne
    refine ⟨γ, x, γ.le_refl, h, ⟨_, .d _ _ (hdr.mono (fun c hc => ?_) (.refl _ _)), ?_, hK⟩, fun S2 h2 _ => h2⟩
    · cases d.top0
      · exact .inl hc
      · exact hc
    · cases d with
      | s t z rows sp =>
        match t, hne z rows sp with
        | 0, _ => rfl
        | 1, h => exact (h rfl).elim
        | t + 2, _ => rfl
      | _ => rfl
  unfold Zfg at hK
  split at hK
  · rename_i t z rows sp
    split at hK
    · rename_i ht
      have := Zaa ht; subst this
      obtain ⟨γ', q1, q2, q3, q4, q5⟩ := h.adopt k hv hS
      refine ⟨γ', _, q1, ?_, ⟨_, q3, rfl, hK⟩, ?_⟩
      · rw [ZmP]; exact q2
      · rw [ZmP]; exact q5
    · rename_i ht
      exact stay (fun z' r' s' e => by cases e; exact Zbi ht rfl) hK
  · rename_i hne
    exact stay (fun z' r' s' e => hne _ _ _ _ e) hK
theorem Zfv : ∀ (ds : List D) (γ : Gh) (x : X) (k : Nat) (vs : Nat → Value) (sub : Nat → Nat → Prop) (K : X → List C → Prop), Rel w0 own γ x.S a w → (∀ i d, ds[i]? = some d → OD w γ.F (vs i) d (sub i)) → (∀ i, Free w0 own γ x.S w (sub i)) → (∀ i i' b, sub i b → sub i' b → i = i') → Zq0 x k ds K →
    Zi5 w0 own γ x a w (fun b => ∃ i, sub i b) fun γ' x' => ∃ cs, cs.length = ds.length ∧ (∀ i c, cs[i]? = some c → CR γ' w (vs i) c ∧ c.flat = true) ∧ K x' cs
  | [], γ, x, k, vs, sub, K, h, _, _, _, hK => ⟨γ, x, γ.le_refl, h, ⟨[], rfl, by simp, hK⟩, fun S2 h2 _ => h2⟩
  | d :: ds, γ, x, k, vs, sub, K, h, hv, hS, hdis, hK => by
    obtain ⟨γ1, x1, q1, q2, ⟨c, q3, q3f, hK1⟩, q4⟩ := ZdV h k (hv 0 d rfl) (hS 0) hK
    obtain ⟨γ2, x2, r1, r2, ⟨cs, r3, r4, hK2⟩, r5⟩ := Zfv ds γ1 x1 (k + 1) (fun i => vs (i + 1)) (fun i => sub (i + 1)) _ q2 (fun i d' hd => (hv (i + 1) d' (by simpa using hd)).mono q1.F (.refl _ _) (.refl _ _))
      (fun i => q4 _ (hS (i + 1)) fun b hb hb' => by have := hdis _ _ b hb hb'; omega) (fun i i' b h1 h2 => by have := hdis _ _ b h1 h2; omega) (Zbj (K := _) hK1)
    refine ⟨γ2, x2, Gh.le_trans q1 r1, r2, ⟨c :: cs, by simp [r3], fun i c' hc => ?_, hK2⟩, fun S2 h2 hd => r5 S2 (q4 S2 h2 fun b hb => hd b ⟨0, hb⟩) fun b ⟨i, hb⟩ => hd b ⟨i + 1, hb⟩⟩
    cases i with
    | zero => simp at hc; subst hc; exact ⟨q3.mono r1 (.refl _ _) (.refl _), q3f⟩
    | succ i => exact r4 i c' (by simpa using hc)
theorem Zh3 (h : Rel w0 own γ x.S a w) (k : Nat) {v : Value} {d : D} {S : Nat → Prop} (hv : OD w γ.F v d S) (hS : Free w0 own γ x.S w S) {K : X → C → Prop} (hK : Zqw x k d K) :
    Zi5 w0 own γ x a w S fun γ' x' => ∃ c, CR γ' w v c ∧ c.flat = true ∧ K x' c := by
  unfold Zqw at hK
  split at hK
  · rename_i t z rows sp
    split at hK
    · rename_i htz
      rw [Bool.and_eq_true] at htz
      have h1 := Zaa htz.1
      subst h1
      split at hK
      · exact ZdV h k hv hS hK
      · rename_i r l
        split at hK
        · generalize hd : D.s 1 z (r :: l) [] = d at hv
          cases hv with
          | r _ _ _ hne _ => exact (hne _ _ _ hd.symm).elim
          | n => cases hd
          | s rows' sp' b cap sz arr E _ sub hb ha hr hl hc hn hsub hdis =>
            cases hd
            simp only [List.append_nil, List.length_nil, Nat.add_zero] at hr hl hn
            obtain ⟨f1, f2⟩ := Zc4 _ hr
            have hfl : ∀ (q : Nat) d, ((r :: l).flatten)[q]? = some d → ∃ i j r0, (r :: l)[i]? = some r0 ∧ r0[j]? = some d ∧ i = q / z ∧ j = q % z ∧ i * z + j = q := by
              intro q d hq
              have hlt : q < (r :: l).length * z := by rw [← f1]; exact (List.getElem?_eq_some_iff.1 hq).1
              have hw0 : 0 < z := by
                rcases Nat.eq_zero_or_pos z with e | e
                · subst e; simp at hlt
                · exact e
              have hi : q / z < (r :: l).length := Nat.div_lt_of_lt_mul (by rw [Nat.mul_comm]; exact hlt)
              have hm : q % z < z := Nat.mod_lt _ hw0
              have hdm : q / z * z + q % z = q := by rw [Nat.mul_comm]; exact Nat.div_add_mod q z
              have hg := f2 (q / z) (q % z) hi hm
              rw [hdm, hq] at hg
              obtain ⟨r0, g1, g2⟩ := Option.bind_eq_some_iff.1 hg.symm
              exact ⟨_, _, r0, g1, g2, rfl, rfl, hdm⟩
            have hK := Zbj hK
            obtain ⟨γ1, x1, q1, q2, ⟨cs, q3, q4, hK1⟩, q5⟩ := Zfv (r :: l).flatten γ x (kb k) (fun q => arr.getD q undef) (fun q => fun c => q < (r :: l).length * z ∧ sub (q / z) (q % z) c) _ h (fun q d hq => by
                obtain ⟨i, j, r0, g1, g2, e1, e2, e3⟩ := hfl q d hq
                have := hn i j r0 d g1 g2
                rw [e3, e1, e2] at this
                exact this.wider fun c hc => ⟨by rw [← f1]; exact (List.getElem?_eq_some_iff.1 hq).1, hc⟩)
              (fun q c hc => hS c (hsub _ _ c hc.2).1) (fun q q' c h1 h2 => by
                obtain ⟨e1, e2⟩ := hdis _ _ _ _ _ h1.2 h2.2
                rw [← Nat.div_add_mod q z, ← Nat.div_add_mod q' z, e1, e2]) hK
            have hbf := q5 (fun c => c = b) (fun c hc => by cases hc; exact hS b hb) (fun c ⟨q, hc⟩ e => (hsub _ _ c hc.2).2 e)
            have hlen : cs.length = (r :: l).length * z := by rw [q3, f1]
            obtain ⟨p1, p2⟩ := q2.adoptBox k (b := b) (row := cs) hbf ha (by rw [hlen]; exact Nat.le_trans (Nat.mul_le_mul_right _ hl) hc) (fun j c hc => q4 j c hc)
            have hle2 := γ1.fresh_le k (some b)
            have hgk : γ1.gen k = x1.gen k := congrFun q2.gen k
            refine ⟨γ1.fresh k (some b), _, Gh.le_trans q1 hle2, ?_, ⟨_, ?_, rfl, hK1⟩, fun S2 h2 hd => ?_⟩
            · rw [Zp2]; exact p1
            · have := CR.rs (γ := γ1.fresh k (some b)) (w := w) k (x1.gen k + 1) z 0 (r :: l).length (r :: l).length cap b E arr.size (by rw [← hgk]; exact Nat.le_of_eq (γ1.fresh_gen k (some b)).symm) (by rw [← hgk]; exact γ1.fresh_new k (some b))
                (by simp [World.shape?, ha]) (by simpa using hc) hl hl
              simpa using this
            · rw [Zp2]
              refine p2 S2 (q5 S2 h2 fun c ⟨q, hc⟩ => hd c (hsub _ _ c hc.2).1) fun hb2 => hd b hb hb2
        · exact hK.elim
    · exact ZdV h k hv hS hK
  · rename_i hne
    exact ZdV (d := d) h k hv hS (K := K) (by
      unfold Zfg
      split
      · exact (hne _ _ _ _ rfl).elim
      · exact hK)
theorem ZgK : ∀ (ds : List D) (γ : Gh) (x : X) (k : Nat) (vs : Nat → Value) (sub : Nat → Nat → Prop) (K : X → List C → Prop), Rel w0 own γ x.S a w → (∀ i d, ds[i]? = some d → OD w γ.F (vs i) d (sub i)) → (∀ i, Free w0 own γ x.S w (sub i)) → (∀ i i' b, sub i b → sub i' b → i = i') → Zp5 x k ds K →
    Zi5 w0 own γ x a w (fun b => ∃ i, sub i b) fun γ' x' => ∃ cs, cs.length = ds.length ∧ (∀ i c, cs[i]? = some c → CR γ' w (vs i) c) ∧ K x' cs
  | [], γ, x, k, vs, sub, K, h, _, _, _, hK => ⟨γ, x, γ.le_refl, h, ⟨[], rfl, by simp, hK⟩, fun S2 h2 _ => h2⟩
  | d :: ds, γ, x, k, vs, sub, K, h, hv, hS, hdis, hK => by
    obtain ⟨γ1, x1, q1, q2, ⟨c, q3, q3f, hK1⟩, q4⟩ := Zh3 h k (hv 0 d rfl) (hS 0) hK
    obtain ⟨γ2, x2, r1, r2, ⟨cs, r3, r4, hK2⟩, r5⟩ := ZgK ds γ1 x1 (k + 1) (fun i => vs (i + 1)) (fun i => sub (i + 1)) _ q2 (fun i d' hd => (hv (i + 1) d' (by simpa using hd)).mono q1.F (.refl _ _) (.refl _ _))
      (fun i => q4 _ (hS (i + 1)) fun b hb hb' => by have := hdis _ _ b hb hb'; omega) (fun i i' b h1 h2 => by have := hdis _ _ b h1 h2; omega) (Zbj (K := _) hK1)
    refine ⟨γ2, x2, Gh.le_trans q1 r1, r2, ⟨c :: cs, by simp [r3], fun i c' hc => ?_, hK2⟩, fun S2 h2 hd => r5 S2 (q4 S2 h2 fun b hb => hd b ⟨0, hb⟩) fun b ⟨i, hb⟩ => hd b ⟨i + 1, hb⟩⟩
    cases i with
    | zero => simp at hc; subst hc; exact q3.mono r1 (.refl _ _) (.refl _)
    | succ i => exact r4 i c' (by simpa using hc)
theorem Zht (h : Rel w0 own γ x.S a w) (k : Nat) {v : Value} {d : DV} {S : Nat → Prop} (hv : OV w γ.F v d S) (hS : Free w0 own γ x.S w S) {K : X → A → Prop} (hK : ZsI x k d K) :
    Zi5 w0 own γ x a w S fun γ' x' => ∃ c, AR γ' w v c ∧ K x' c := by
  cases hv with
  | c _ y _ hx =>
    obtain ⟨γ1, x1, q1, q2, ⟨c, q3, _, q4⟩, q5⟩ := Zh3 h k hx hS hK
    exact ⟨γ1, x1, q1, q2, ⟨_, .c _ _ q3, q4⟩, q5⟩
  | agg vs xs _ sub hs hx hsub hdis =>
    obtain ⟨γ1, x1, q1, q2, ⟨cs, q3, q4, q5⟩, q6⟩ := ZgK xs γ x k (fun i => vs.getD i undef) sub _ h hx (fun i b hb => hS b (hsub i b hb)) hdis hK
    exact ⟨γ1, x1, q1, q2, ⟨_, .agg _ _ (by rw [q3]; exact hs) q4, q5⟩, fun S2 h2 hd => q6 S2 h2 fun b ⟨i, hb⟩ => hd b (hsub i b hb)⟩
  | tup vs xs _ sub hs hx hsub hdis => exact hK.elim
theorem Ze9 : ∀ (ds : List DV) (γ : Gh) (x : X) (k : Nat) (vs : Nat → Value) (sub : Nat → Nat → Prop) (K : X → List A → Prop), Rel w0 own γ x.S a w → (∀ i d, ds[i]? = some d → OV w γ.F (vs i) d (sub i)) → (∀ i, Free w0 own γ x.S w (sub i)) → (∀ i i' b, sub i b → sub i' b → i = i') → Zry x k ds K →
    Zi5 w0 own γ x a w (fun b => ∃ i, sub i b) fun γ' x' => ∃ cs, cs.length = ds.length ∧ (∀ i c, cs[i]? = some c → AR γ' w (vs i) c) ∧ K x' cs
  | [], γ, x, k, vs, sub, K, h, _, _, _, hK => ⟨γ, x, γ.le_refl, h, ⟨[], rfl, by simp, hK⟩, fun S2 h2 _ => h2⟩
  | d :: ds, γ, x, k, vs, sub, K, h, hv, hS, hdis, hK => by
    obtain ⟨γ1, x1, q1, q2, ⟨c, q3, hK1⟩, q4⟩ := Zht h k (hv 0 d rfl) (hS 0) hK
    obtain ⟨γ2, x2, r1, r2, ⟨cs, r3, r4, hK2⟩, r5⟩ := Ze9 ds γ1 x1 (k + 32) (fun i => vs (i + 1)) (fun i => sub (i + 1)) _ q2 (fun i d' hd => (hv (i + 1) d' (by simpa using hd)).mono q1.F (.refl _ _) (.refl _ _))
      (fun i => q4 _ (hS (i + 1)) fun b hb hb' => by have := hdis _ _ b hb hb'; omega) (fun i i' b h1 h2 => by have := hdis _ _ b h1 h2; omega) (Zbj (K := _) hK1)
    refine ⟨γ2, x2, Gh.le_trans q1 r1, r2, ⟨c :: cs, by simp [r3], fun i c' hc => ?_, hK2⟩, fun S2 h2 hd => r5 S2 (q4 S2 h2 fun b hb => hd b ⟨0, hb⟩) fun b ⟨i, hb⟩ => hd b ⟨i + 1, hb⟩⟩
    cases i with
    | zero => simp at hc; subst hc; exact q3.mono r1 (.refl _ _) (.refl _)
    | succ i => exact r4 i c' (by simpa using hc)
theorem Zp9 (h : Rel w0 own γ x.S a w) (k : Nat) {v : Value} {d : DV} {S : Nat → Prop} (hv : OV w γ.F v d S) (hS : Free w0 own γ x.S w S) {K : X → A → Prop} (hK : matX x k d K) :
    Zi5 w0 own γ x a w S fun γ' x' => ∃ c, AR γ' w v c ∧ K x' c := by
  unfold matX at hK
  split at hK
  · rename_i xs
    cases hv with
    | tup vs _ _ sub hs hx hsub hdis =>
      obtain ⟨γ1, x1, q1, q2, ⟨cs, q3, q4, q5⟩, q6⟩ := Ze9 xs γ x k (fun i => vs.getD i undef) sub _ h hx (fun i b hb => hS b (hsub i b hb)) hdis hK
      exact ⟨γ1, x1, q1, q2, ⟨_, .tup _ _ (by rw [q3]; exact hs) q4, q5⟩, fun S2 h2 hd => q6 S2 h2 fun b ⟨i, hb⟩ => hd b (hsub i b hb)⟩
  · exact Zht h k hv hS hK
def keyD (dst : Option Nat) : Nat := match dst with | some d => 1000 * (d + 1) | none => 0
abbrev Mat := X → Nat → DV → (X → A → Prop) → Prop
def Zuk (mat : Mat) : Prop := ∀ {w0 : World} {own : Nat → Prop} {γ : Gh} {x : X} {a : Act} {w : World}, Rel w0 own γ x.S a w → ∀ (k : Nat) {v : Value} {d : DV} {S : Nat → Prop}, OV w γ.F v d S → Free w0 own γ x.S w S → ∀ {K : X → A → Prop}, mat x k d K →
    Zi5 w0 own γ x a w S fun γ' x' => ∃ c, AR γ' w v c ∧ K x' c
def Zrv (P : Program) (tys : List TypeId) (s : Spec) (mat : Mat) : Inl := fun args dst x K =>
  Zk0 P x args tys fun ds => s ds fun r => mat x (ZrF x.store (keyD dst) 31 (keyD dst)) r fun x' y => match x'.fits dst with | true => K (x'.put dst y) | false => False
def ZkG (P : Program) (tys : List TypeId) (s : Spec) : Inl := Zrv P tys s matX
theorem ZtW (x : X) (d : Option Nat) (y : A) (h : x.S.fits d = true) : (x.put d y).S = x.S.put d y := by
  rw [Ztv _ _ _ h]
  cases d with
  | none => simp [St.patch, St.put, Za4]
  | some d =>
    simp only [St.patch, St.put, Za4]
    congr 1
    funext i
    by_cases hi : i = d
    · simp [hi]
    · simp [hi, Ne.symm hi]
theorem Ziw {f : FuncId} {tys : List TypeId} {s : Spec} {mat : Mat} (hmat : Zuk mat) (hs : Zad P f s) : Zbt P f (Zrv P tys s mat) := by
  intro o args tys' ho x K hF w0 own γ a w hR next Q hn
  unfold Zrv at hF
  obtain ⟨ds, h1, h2, h3⟩ := Zdl args.toList tys _ hF
  obtain ⟨hg, res, hct, hp, _, hK⟩ := hs ds _ h1
  have hex : (execOp a.eval o).run P w = .ok (.enter f (args.toList.map a.eval).toArray) w := by
    unfold execOp
    rw [ho]
    simp only [resolve, Act.eval, Deferred.ofValue, Sem.run_bind]
    have e : args.map a.eval = (args.toList.map a.eval).toArray := by apply Array.ext'; simp
    simp [Sem.run, invoke, hg _ w, e]
  have hov : OV w (· < w.heap.size) (.tuple (args.toList.map a.eval).toArray) (.tup ds) fun _ => False :=
    .tup _ _ _ (fun _ _ => False) (by simp [← h2]) (fun i d hd => by
      have hi : i < args.toList.length := by rw [h2]; exact (List.getElem?_eq_some_iff.1 hd).1
      have hi' : i < args.size := by simpa using hi
      have := h3 i _ d (List.getElem?_eq_getElem hi) hd w0 own γ x.S a w (a.eval args.toList[i]) hR (fun _ _ => rfl) (hR.ev _)
      simpa [Array.getD_eq_getD_getElem?, hi'] using this) (fun _ _ h => h) (fun _ _ _ h _ => h.elim)
  have hcall := ZkF hct hp w _ (fun _ => False) _ hov (fun b hb => ⟨hb, fun h => h⟩) (fun _ h => h.elim)
  simp only [Oper.wp, hex, Oper.upon_enter]
  refine hcall.mono fun e w' ⟨v, S', he, hv, hS', henv⟩ => ?_
  subst he
  simp only
  have hR1 := hR.world (w' := w') (fun b hb => henv.block b hb fun h => h) henv.size henv.os henv.tape henv.output
  have hfreshN : ∀ b, w.heap.size ≤ b → b < w'.heap.size → Free w0 own γ x.S w' (fun c => c = b) := by
    rintro b hb hb' c rfl
    refine ⟨fun hG => ?_, fun k' R hk hβ => ?_, .inr (Nat.le_trans hR.env.size hb), hb'⟩
    · have := hR.lt c hG; omega
    · have := hR.ltβ k' R.tag c (by rw [hR.gen]; exact hR.tag k' R hk) hβ; omega
  have hfree : ∀ S : Nat → Prop, (∀ b, S b → w.heap.size ≤ b ∧ b < w'.heap.size) → Free w0 own γ x.S w' S := fun S h b hb => hfreshN b (h b hb).1 (h b hb).2 b rfl
  have hSf : ∀ b, S' b → w.heap.size ≤ b ∧ b < w'.heap.size := fun b hb => ⟨(hS' b hb).1.elim (fun h => h.elim) id, (hS' b hb).2⟩
  obtain ⟨hR2, hle2⟩ := hR1.still (N := fun b => w.heap.size ≤ b ∧ b < w'.heap.size ∧ ¬ S' b) (hfree _ fun b hb => ⟨hb.1, hb.2.1⟩)
  have hv2 : OV w' (γ.still fun b => w.heap.size ≤ b ∧ b < w'.heap.size ∧ ¬ S' b).F v res S' := hv.mono (fun b ⟨h1, h2, h3⟩ => .inr ⟨h1.elim (fun h => h.elim) id, h2, h3⟩) (.refl _ _) (.refl _ _)
  have hfS : Free w0 own (γ.still fun b => w.heap.size ≤ b ∧ b < w'.heap.size ∧ ¬ S' b) x.S w' S' := by
    intro b hb
    obtain ⟨f1, f2, f3, f4⟩ := hfree S' hSf b hb
    refine ⟨fun hG => ?_, f2, f3, f4⟩
    rcases hG with (hF | hN) | hf
    · exact f1 (.inl hF)
    · exact hN.2.2 hb
    · exact f1 (.inr hf)
  obtain ⟨γ3, x3, q1, q2, ⟨y, q3, q4⟩, _⟩ := hmat hR2 _ hv2 hfS hK
  split at q4
  · rename_i hfit
    rw [ZmL] at hfit
    refine hn γ3 _ w' (x3.put o.dst y) (q1.F0.trans hle2.F0) ?_ q4
    rw [ZtW _ _ _ hfit]
    exact q2.put q3 hfit
  · exact q4.elim
theorem Zdp {f : FuncId} {tys : List TypeId} {s : Spec} (hs : Zad P f s) : Zbt P f (ZkG P tys s) := Ziw (fun h k => Zp9 h k) hs
def foX (x : X) (k i : Nat) (s : SesD) (K : X → Prop) : Prop := match Zar x.store k with
  | some (.sl t wd rows) => Ze2 rows i 1 s ∧ K { x with store := setN x.store k (.fo t wd rows i ((sesL 1 s).map C.d)) }
  | _ => False
theorem Zjl {α : Type} (l : List α) (i : Nat) (r : α) (h : l[i]? = some r) : l.set i r = l := by
  apply List.ext_getElem?
  intro j
  rw [List.getElem?_set]
  split
  · rename_i e
    subst e
    split
    · exact h.symm
    · rename_i hl
      rw [List.getElem?_eq_none (by omega)] at h
      cases h
  · rfl
theorem Zrj {x : X} {k i : Nat} {s : SesD} {K : X → Prop} (h : foX x k i s K) : ∃ x', x'.S = x.S ∧ K x' := by
  unfold foX at h
  split at h
  · rename_i t wd rows hk
    obtain ⟨h1, h2⟩ := h
    refine ⟨_, ?_, h2⟩
    simp only [X.S]
    congr 1
    funext q
    rw [Zci]
    split
    · rename_i e
      subst e
      have e2 : (emb rows)[i]? = some ((sesL 1 s).map C.d) := by
        have : rows[i]? = some (sesL 1 s) := h1
        simp only [emb, List.getElem?_map, this, Option.map_some]
      rw [hk]
      simp only [Option.map_some, XRoot.root, Zjl _ _ _ e2]
    · rfl
  · exact h.elim
def Zsz (x : X) (k : Nat) (d : D) (K : X → C → Prop) : Prop :=
  match d with
  | .s t z rows sp => match Nat.beq t 1, sp with
    | true, [] => K (x.up1 k (some (.sl (x.gen k + 1) z rows)) (x.gen k + 1)) (.rs k (x.gen k + 1) z 0 rows.length rows.length)
    | _, _ => Zfg x k (.s t z rows sp) K
  | d => K x (.d d)
theorem ZqM {x : X} {k : Nat} {d : D} {K : X → C → Prop} (h : Zsz x k d K) : Zfg x k d K := by
  unfold Zsz at h
  split at h
  · rename_i t z rows sp
    split at h
    · rename_i ht
      unfold Zfg
      simp only [ht, List.append_nil, List.length_nil, Nat.add_zero]
      exact h
    · exact h
  · rename_i hne
    unfold Zfg
    split
    · exact (hne _ _ _ _ rfl).elim
    · exact h
def Zsf (x : X) (k : Nat) : List D → (X → List C → Prop) → Prop
  | [], K => K x []
  | d :: l, K => Zsz x k d fun x c => frcN (k + 1) fun k' => Zsf x k' l fun x cs => K x (c :: cs)
theorem Znx {x : X} {k : Nat} {d : D} {K K' : X → C → Prop} (hK : ∀ x c, K x c → K' x c) (h : Zfg x k d K) : Zfg x k d K' := by
  cases d with
  | s t z rows sp =>
    simp only [Zfg] at h ⊢
    cases e : Nat.beq t 1 <;> rw [e] at h <;> exact hK _ _ h
  | _ => exact hK _ _ h
theorem Zsq {n : Nat} {K K' : Nat → Prop} (hK : K n → K' n) (h : frcN n K) : frcN n K' := by
  cases n <;> exact hK h
theorem Znb : ∀ {l : List D} {x : X} {k : Nat} {K : X → List C → Prop}, Zsf x k l K → Zq0 x k l K
  | [], x, k, K, h => h
  | d :: l, x, k, K, h => Znx (fun x c h => Zsq (fun h => Znb h) h) (ZqM h)
def matF (i : Nat) (s : SesD) : Mat := fun x k d K => match d with
  | .agg xs => Zsf x k xs fun x cs => frcN (k + 9) fun k' => foX x k' i s fun x => K x (.agg cs)
  | _ => False
theorem ZoD (i : Nat) (s : SesD) : Zuk (matF i s) := fun {w0 own γ x a w} h k {v d S} hv hS {K} hK => by
  unfold matF at hK
  split at hK
  · rename_i xs
    cases hv with
    | agg vs _ _ sub hs hx hsub hdis =>
      obtain ⟨γ1, x1, q1, q2, ⟨cs, q3, q4, q5⟩, q6⟩ := Zfv xs γ x k (fun i => vs.getD i undef) sub _ h hx (fun i b hb => hS b (hsub i b hb)) hdis (Znb hK)
      obtain ⟨x2, e2, h2⟩ := Zrj (Zbj q5)
      refine ⟨γ1, x2, q1, by rw [e2]; exact q2, ⟨_, .agg _ _ (by rw [q3]; exact hs) fun i c hc => (q4 i c hc).1, h2⟩, fun S2 h2 hd => ?_⟩
      rw [e2]
      exact q6 S2 h2 fun b ⟨i, hb⟩ => hd b (hsub i b hb)
  · exact hK.elim
end

section
open Go
variable {P : Program}
inductive All2 {α β : Type} (R : α → β → Prop) : List α → List β → Prop
  | nil : All2 R [] []
  | cons {a b l m} : R a b → All2 R l m → All2 R (a :: l) (b :: m)
theorem All2.len {α β : Type} {R : α → β → Prop} {l : List α} {m : List β} (h : All2 R l m) : l.length = m.length := by
  induction h with
  | nil => rfl
  | cons _ _ ih => simp [ih]
theorem All2.get {α β : Type} {R : α → β → Prop} {l : List α} {m : List β} (h : All2 R l m) : ∀ {i : Nat} {b : β}, m[i]? = some b → ∃ a, l[i]? = some a ∧ R a b := by
  induction h with
  | nil => intro i b h; simp at h
  | cons h1 _ ih =>
    intro i b h
    cases i with
    | zero => simp at h; subst h; exact ⟨_, rfl, h1⟩
    | succ i => simpa using ih (by simpa using h)
theorem All2.same {α : Type} {R : α → α → Prop} : ∀ {l : List α}, (∀ a ∈ l, R a a) → All2 R l l
  | [], _ => .nil
  | a :: l, h => .cons (h a (by simp)) (All2.same fun b hb => h b (by simp [hb]))
def RD (d e : D) : Prop := ∀ (w : World) (G : Nat → Prop) (v : Value), DR w G v d → DR w G v e
theorem RD.refl (d : D) : RD d d := fun _ _ _ h => h
theorem RD.rows {t t' z : Nat} {rows sp rows' : List (List D)} (h : All2 (All2 RD) rows rows') : RD (.s t z rows sp) (.s t' z rows' []) := fun w G v hv => by
  cases hv with
  | e a _ _ cap =>
    cases h
    exact .e a t' z cap
  | s _ _ _ b off cap sz vs hb hr hl hc hd =>
    rw [h.len]
    have hlen := h.len
    refine .s t' rows' [] b off cap z vs hb (fun r hm => ?_) (by simp; omega) (fun i j hi hj => hc i j (by simp at hi; omega) hj) fun i j r d h1 h2 => ?_
    · rw [List.append_nil] at hm
      obtain ⟨i, hi⟩ := List.getElem?_of_mem hm
      obtain ⟨r0, g1, g2⟩ := h.get hi
      rw [← g2.len]
      exact hr r0 (List.mem_append_left _ (List.mem_of_getElem? g1))
    · rw [List.append_nil] at h1
      obtain ⟨r0, g1, g2⟩ := h.get h1
      obtain ⟨d0, e1, e2⟩ := g2.get h2
      refine e2 _ _ _ (hd i j r0 d0 ?_ e1)
      rw [List.getElem?_append_left (List.getElem?_eq_some_iff.1 g1).1]; exact g1
theorem RD.slice {t t' z : Nat} {rows sp : List (List D)} : RD (.s t z rows sp) (.s t' z rows []) := RD.rows (.same fun r _ => .same fun d _ => .refl d)
theorem RD.nil (t z : Nat) : RD (.v (.slice none 0 0)) (.s t z [] []) := fun w G v hv => by
  cases hv with
  | v _ _ => exact .e none t z 0
theorem RD.cells {t t' off : Nat} {cs cs' : List D} (h : All2 RD cs cs') : RD (.p t cs off) (.p t' cs' off) := fun w G v hv => by
  cases hv with
  | p _ _ b o _ vs hb hc hd =>
    refine .p t' cs' b o off vs hb (fun j hj => hc j (by rw [h.len]; exact hj)) fun j d hj => ?_
    obtain ⟨d0, g1, g2⟩ := h.get hj
    exact g2 _ _ _ (hd j d0 g1)
def AL (x y : DV) : Prop := ∀ (w : World) (G : Nat → Prop) (v : Value) (S : Nat → Prop), OV w G v x S → OV w G v y S
theorem AL.refl (x : DV) : AL x x := fun _ _ _ _ h => h
theorem OD.rd {w : World} {G : Nat → Prop} {v : Value} {S : Nat → Prop} {d e : D} (h : RD d e) (hd : d.isOwn = false) (he : e.isOwn = false) (hv : OD w G v d S) : OD w G v e S := by
  have no : ∀ (x : D), x.isOwn = false → ∀ z rows sp, x ≠ .s 1 z rows sp := fun x hx z rows sp e => by subst e; cases hx
  exact .r _ _ _ (no e he) (h _ _ _ (hv.not_own (no d hd)))
theorem AL.c {d e : D} (h : RD d e) (hd : d.isOwn = false) (he : e.isOwn = false) : AL (.c d) (.c e) := fun w G v S hv => by
  cases hv with
  | c _ _ _ hx => exact .c _ _ _ (hx.rd h hd he)
theorem AL.agg {cs cs' : List D} (h : All2 RD cs cs') (hd : cs.all (fun d => !d.isOwn) = true) (he : cs'.all (fun d => !d.isOwn) = true) : AL (.agg cs) (.agg cs') := fun w G v S hv => by
  cases hv with
  | agg vs _ _ sub h1 h2 h3 h4 =>
    refine .agg vs cs' S sub (by rw [← h.len]; exact h1) (fun i e hi => ?_) h3 h4
    obtain ⟨d, g1, g2⟩ := h.get hi
    have a1 := List.all_eq_true.1 hd d (List.mem_of_getElem? g1)
    have a2 := List.all_eq_true.1 he e (List.mem_of_getElem? hi)
    exact (h2 i d g1).rd g2 (by simpa using a1) (by simpa using a2)
theorem CT.args {f : FuncId} {ds es : List DV} {r : DV} (h : All2 AL ds es) (hc : CT P f es r) : CT P f ds r := fun w vs S G hov => by
  refine hc w vs S G ?_
  cases hov with
  | tup _ _ _ sub h1 h2 h3 h4 =>
    refine .tup vs es S sub (by rw [← h.len]; exact h1) (fun i e hi => ?_) h3 h4
    obtain ⟨d, g1, g2⟩ := h.get hi
    exact g2 _ _ _ _ (h2 i d g1)
def ZbK (d : D) (K : Int → Prop) : Prop := match d with | .v x => (match x with | .int k n => (match k with | .i64 => K n | _ => False) | _ => False) | _ => False
theorem Zap {d : D} {K : Int → Prop} (h : ZbK d K) : ∃ n, K n ∧ RD d (.v (.int .i64 n)) := by
  unfold ZbK at h
  split at h
  · split at h
    · split at h
      · exact ⟨_, h, .refl _⟩
      · exact h.elim
    · exact h.elim
  · exact h.elim
def Zcg (z : Nat) (d : D) (K : List (List D) → Prop) : Prop := match d with
  | .s _ z' R _ => match Nat.beq z' z with | true => K R | false => False
  | .v x => match x with | .slice a n m => (match a, n, m with | none, 0, 0 => K [] | _, _, _ => False) | _ => False
  | _ => False
theorem Zay {z : Nat} {d : D} {K : List (List D) → Prop} (h : Zcg z d K) : ∃ R, K R ∧ RD d (.s 0 z R []) := by
  unfold Zcg at h
  split at h
  · split at h
    · rename_i hb
      have := Zaa hb; subst this
      exact ⟨_, h, .slice⟩
    · exact h.elim
  · split at h
    · split at h
      · exact ⟨_, h, .nil 0 z⟩
      · exact h.elim
    · exact h.elim
  · exact h.elim
structure Mh where
  w0 : List (List D)
  w1 : List (List D)
  w2 : List (List D)
  w3 : List (List D)
  c0 : Int
  c1 : Int
  c2 : Int
  c3 : Int
  ce : Int
  tr : List (List D)
def macL (t : Nat) (h : Mh) (ss : List SesD) : List D := [.s t 3 h.w0 [], .s t 3 h.w1 [], .s t 3 h.w2 [], .s t 3 h.w3 [], vN h.c0, vN h.c1, vN h.c2, vN h.c3, vN h.ce, .s t 17 (ss.map (sesL t)) [], .s t 4 h.tr []]
def sesK (r : List D) (K : SesD → Prop) : Prop := match r with
  | [a0, a1, a2, a3, a4, a5, a6, a7, a8, a9, a10, a11, a12, a13, a14, a15, a16] =>
    ZbK a0 fun x0 => ZbK a1 fun x1 => ZbK a2 fun x2 => Zcg 4 a3 fun x3 => ZbK a4 fun x4 => ZbK a5 fun x5 => ZbK a6 fun x6 => ZbK a7 fun x7 => ZbK a8 fun x8 => ZbK a9 fun x9 => Zcg 3 a10 fun x10 => Zcg 3 a11 fun x11 =>
      ZbK a12 fun x12 => ZbK a13 fun x13 => ZbK a14 fun x14 => ZbK a15 fun x15 => ZbK a16 fun x16 => K ⟨x0, x1, x2, x3, x4, x5, x6, x7, x8, x9, x10, x11, x12, x13, x14, x15, x16⟩
  | _ => False
theorem ZkI {r : List D} {K : SesD → Prop} (h : sesK r K) : ∃ s, K s ∧ All2 RD r (sesL 0 s) := by
  unfold sesK at h
  split at h
  · obtain ⟨x0, h, e0⟩ := Zap h
    obtain ⟨x1, h, e1⟩ := Zap h
    obtain ⟨x2, h, e2⟩ := Zap h
    obtain ⟨x3, h, e3⟩ := Zay h
    obtain ⟨x4, h, e4⟩ := Zap h
    obtain ⟨x5, h, e5⟩ := Zap h
    obtain ⟨x6, h, e6⟩ := Zap h
    obtain ⟨x7, h, e7⟩ := Zap h
    obtain ⟨x8, h, e8⟩ := Zap h
    obtain ⟨x9, h, e9⟩ := Zap h
    obtain ⟨x10, h, e10⟩ := Zay h
    obtain ⟨x11, h, e11⟩ := Zay h
    obtain ⟨x12, h, e12⟩ := Zap h
    obtain ⟨x13, h, e13⟩ := Zap h
    obtain ⟨x14, h, e14⟩ := Zap h
    obtain ⟨x15, h, e15⟩ := Zap h
    obtain ⟨x16, h, e16⟩ := Zap h
    exact ⟨_, h, .cons e0 (.cons e1 (.cons e2 (.cons e3 (.cons e4 (.cons e5 (.cons e6 (.cons e7 (.cons e8 (.cons e9 (.cons e10 (.cons e11 (.cons e12 (.cons e13 (.cons e14 (.cons e15 (.cons e16 .nil))))))))))))))))⟩
  · exact h.elim
def Ztl : List (List D) → (List SesD → Prop) → Prop
  | [], K => K []
  | r :: l, K => sesK r fun s => Ztl l fun ss => K (s :: ss)
theorem ZhS : ∀ {rows : List (List D)} {K : List SesD → Prop}, Ztl rows K → ∃ ss, K ss ∧ All2 (All2 RD) rows (ss.map (sesL 0))
  | [], K, h => ⟨[], h, .nil⟩
  | r :: l, K, h => by
    obtain ⟨s, h, e1⟩ := ZkI h
    obtain ⟨ss, h, e2⟩ := ZhS h
    exact ⟨_, h, .cons e1 e2⟩
def ZmD (d : D) (K : List SesD → Prop) : Prop := Zcg 17 d fun R => Ztl R K
theorem Zes {d : D} {K : List SesD → Prop} (h : ZmD d K) : ∃ ss, K ss ∧ RD d (.s 0 17 (ss.map (sesL 0)) []) := by
  obtain ⟨R, h, e1⟩ := Zay h
  obtain ⟨ss, h, e2⟩ := ZhS h
  exact ⟨ss, h, fun w G v hv => (RD.rows (t' := 0) (sp := []) e2) _ _ _ (e1 _ _ _ hv)⟩
def macK (cs : List D) (K : Mh → List SesD → Prop) : Prop := match cs with
  | [a0, a1, a2, a3, a4, a5, a6, a7, a8, a9, a10] =>
    Zcg 3 a0 fun x0 => Zcg 3 a1 fun x1 => Zcg 3 a2 fun x2 => Zcg 3 a3 fun x3 => ZbK a4 fun x4 => ZbK a5 fun x5 => ZbK a6 fun x6 => ZbK a7 fun x7 => ZbK a8 fun x8 => ZmD a9 fun x9 => Zcg 4 a10 fun x10 => K ⟨x0, x1, x2, x3, x4, x5, x6, x7, x8, x10⟩ x9
  | _ => False
theorem ZpF {cs : List D} {K : Mh → List SesD → Prop} (h : macK cs K) : ∃ m ss, K m ss ∧ All2 RD cs (macL 0 m ss) := by
  unfold macK at h
  split at h
  · obtain ⟨x0, h, e0⟩ := Zay h
    obtain ⟨x1, h, e1⟩ := Zay h
    obtain ⟨x2, h, e2⟩ := Zay h
    obtain ⟨x3, h, e3⟩ := Zay h
    obtain ⟨x4, h, e4⟩ := Zap h
    obtain ⟨x5, h, e5⟩ := Zap h
    obtain ⟨x6, h, e6⟩ := Zap h
    obtain ⟨x7, h, e7⟩ := Zap h
    obtain ⟨x8, h, e8⟩ := Zap h
    obtain ⟨x9, h, e9⟩ := Zes h
    obtain ⟨x10, h, e10⟩ := Zay h
    exact ⟨_, _, h, .cons e0 (.cons e1 (.cons e2 (.cons e3 (.cons e4 (.cons e5 (.cons e6 (.cons e7 (.cons e8 (.cons e9 (.cons e10 .nil))))))))))⟩
  · exact h.elim
def Zkl (cs : List D) : Bool := cs.all fun d => !d.isOwn
def macA (d : DV) (K : Mh → List SesD → Prop) : Prop := match d with
  | .agg cs => match Zkl cs with | true => macK cs K | false => False
  | _ => False
theorem ZbL {d : DV} {K : Mh → List SesD → Prop} (h : macA d K) : ∃ m ss, K m ss ∧ AL d (.agg (macL 0 m ss)) := by
  unfold macA at h
  split at h
  · split at h
    · rename_i hn
      obtain ⟨m, ss, h, e⟩ := ZpF h
      exact ⟨m, ss, h, .agg e hn rfl⟩
    · exact h.elim
  · exact h.elim
def macP (d : DV) (K : Mh → List SesD → Prop) : Prop := match d with
  | .c d => match d with
    | .p _ cs off => match off with | 0 => macK cs K | _ + 1 => False
    | _ => False
  | _ => False
def sesA (d : DV) (K : SesD → Prop) : Prop := match d with
  | .agg cs => match Zkl cs with | true => sesK cs K | false => False
  | _ => False
theorem ZbN {d : DV} {K : SesD → Prop} (h : sesA d K) : ∃ s, K s ∧ AL d (.agg (sesL 0 s)) := by
  unfold sesA at h
  split at h
  · split at h
    · rename_i hn
      obtain ⟨s, h, e⟩ := ZkI h
      exact ⟨s, h, .agg e hn rfl⟩
    · exact h.elim
  · exact h.elim
def inA (d : DV) (K : Int → Prop) : Prop := match d with | .c d => ZbK d K | _ => False
theorem Zrk {d : DV} {K : Int → Prop} (h : inA d K) : ∃ n, K n ∧ d = .c (vN n) := by
  unfold inA at h
  split at h
  · unfold ZbK at h
    split at h
    · split at h
      · split at h
        · exact ⟨_, h, rfl⟩
        · exact h.elim
      · exact h.elim
    · exact h.elim
  · exact h.elim
end

section
open Go
variable {P : Program} {x : X}
def seqs : Code → List Code
  | .seq a b => seqs a ++ seqs b
  | c => [c]
def XS (P : Program) : List Code → (Exit → X → Prop) → X → Prop
  | [], Q, x => Q .normal x
  | c :: l, Q, x => XWP P c (fun e x' => match e with | .normal => XS P l Q x' | e => Q e x') x
theorem Zr6 : ∀ (l m : List Code) (Q : Exit → X → Prop) (x : X), XS P (l ++ m) Q x → XS P l (fun e x' => match e with | .normal => XS P m Q x' | e => Q e x') x
  | [], m, Q, x, h => h
  | c :: l, m, Q, x, h => Zcc h fun e x' he => by
    cases e with
    | normal => exact Zr6 l m Q x' he
    | _ => exact he
theorem Zrn : ∀ (c : Code) (Q : Exit → X → Prop) (x : X), XS P (seqs c) Q x → XWP P c Q x := by
  intro c
  induction c with
  | seq a b iha ihb =>
    intro Q x h
    have h1 := iha _ x (Zr6 (seqs a) (seqs b) Q x h)
    refine ZpE (Zcc h1 fun e x' he => ?_)
    cases e with
    | normal => exact ihb Q x' he
    | _ => exact he
  | _ =>
    intro Q x h
    refine Zcc h fun e x' he => ?_
    cases e <;> exact he
def partOf (fn : Func) (i : Nat) : Code := ((seqs (Zav fn))[i]?).getD .skip
def Zmd (P : Program) (H : Hooks) (c : Code) (ts ks : List Nat) (V : Vw) (N : X → Prop) (x : X) : Prop := evp P H 200 c (fun e y => match e with | .normal => Zqx V N (y.arr ts ks) | _ => False) x
theorem Zvb {l : List Code} {Q : Exit → X → Prop} (ts ks : List Nat) (hl : l ≠ []) (h : XS P l Q (x.arr ts ks)) : XS P l Q x := by
  cases l with
  | nil => exact (hl rfl).elim
  | cons c l => exact Zgc ts ks h
theorem Zhb {H : Hooks} (hH : Zam P H) (hm : P.follows .mixedOrders = true) {c : Code} (hL : Zaz P H c) {l : List Code} (hl : l ≠ []) {Q : Exit → X → Prop} {ts ks : List Nat} {V : Vw} (hV : VwOK V) (h : Zmd P H c ts ks V (fun y => XS P l Q y) x) : XS P (c :: l) Q x := by
  refine Zcc (Zbk hH hm 200 _ _ _ hL h) fun e y he => ?_
  cases e with
  | normal => exact Zvb ts ks hl (ZdD hV he)
  | _ => exact he.elim
theorem ZsO {H : Hooks} (hH : Zam P H) (hm : P.follows .mixedOrders = true) {c : Code} (hL : Zaz P H c) {l : List Code} {Q : Exit → X → Prop} (h : evp P H 200 c (fun e y => match e with | .normal => XS P l Q y | e => Q e y) x) : XS P (c :: l) Q x :=
  Zbk hH hm 200 _ _ _ hL h
structure Said (p : Prop) : Prop where
  out : p
theorem ct_x {l lf : List (FuncId × Spec)} {li : List (FuncId × Inl)} (h : SpecsOK P l) (hlf : SpecsFOK P lf) (hi : InlsLOK P li) (hm : P.follows .mixedOrders = true) {f : FuncId} {fn : Func} {args : List DV} {res : DV} (hf : P.funcs[f]? = some fn) (hb : fn.body.isSome = true) (hn : Nat.ble args.length fn.ntmps = true) (hfit : (DV.tup args).fit32 = true)
    (hq : Said (askX P band bor l lf li fn args fun r => r = res)) : CT P f args res := ZsH h hlf hi hm hf hb hn hfit hq.out
theorem ct_s {l : List (FuncId × Spec)} (hH : SpecsOK P l) (hm : P.follows .mixedOrders = true) {f : FuncId} {fn : Func} {args : List DV} {res : DV} (hf : P.funcs[f]? = some fn) (hb : fn.body.isSome = true) (hn : Nat.ble args.length fn.ntmps = true) (hfit : (DV.tup args).fit32 = true)
    (h : Said (ask P l fn args fun r => r = res)) : CT P f args res := Zak hH hm hf hb hn hfit h.out
theorem Zjk {l : List (FuncId × Spec)} {m : List (Nat × LSum)} (hH : SpecsOK P l) (hm : P.follows .mixedOrders = true) {f : FuncId} {fn : Func} {args : List DV} {res : DV} (hL : Zaz P (hkl l m) (Zav fn)) (hf : P.funcs[f]? = some fn) (hb : fn.body.isSome = true) (hn : Nat.ble args.length fn.ntmps = true) (hfit : (DV.tup args).fit32 = true)
    (h : Said (askL P l m fn args fun r => r = res)) : CT P f args res := ZaB hH hm hL hf hb hn hfit h.out
def askH (P : Program) (H : Hooks) (fn : Func) (args : List DV) (K : DV → Prop) : Prop := evp P H 200 (Zav fn) (finX P fn K) (Zb6 fn.ntmps args)
theorem ct_h {H : Hooks} (hH : Zam P H) (hm : P.follows .mixedOrders = true) {f : FuncId} {fn : Func} {args : List DV} {res : DV} (hL : Zaz P H (Zav fn)) (hf : P.funcs[f]? = some fn) (hb : fn.body.isSome = true) (hn : Nat.ble args.length fn.ntmps = true) (hfit : (DV.tup args).fit32 = true)
    (h : Said (askH P H fn args fun r => r = res)) : CT P f args res := by
  obtain ⟨c, hc⟩ := Option.isSome_iff_exists.1 hb
  have e : Zav fn = c := by simp [Zav, hc]
  have h := h.out
  unfold askH at h
  rw [e] at h hL
  exact ZcS hH hm 200 hf hc hL (Nat.le_of_ble_eq_true hn) hfit h
def hkM (l lf : List (FuncId × Spec)) (li : List (FuncId × Inl)) : Hooks := { hkX band bor l lf li with spl := true }
def hkF (l lf : List (FuncId × Spec)) (li : List (FuncId × Inl)) : Hooks := { hkX band bor l lf li with spl := true, foc := true }
theorem ZeJ {l lf : List (FuncId × Spec)} {li : List (FuncId × Inl)} (h : SpecsOK P l) (hf : SpecsFOK P lf) (hi : InlsLOK P li) : Zam P (hkF l lf li) := Zng h hf hi
theorem Zpm {l lf : List (FuncId × Spec)} {li : List (FuncId × Inl)} {c : Code} : Zaz P (hkF l lf li) c := fun b hb s hs => by cases hs
theorem Zoq {l lf : List (FuncId × Spec)} {li : List (FuncId × Inl)} (h : SpecsOK P l) (hf : SpecsFOK P lf) (hi : InlsLOK P li) : Zam P (hkM l lf li) := Zng h hf hi
theorem Zg6 {l lf : List (FuncId × Spec)} {li : List (FuncId × Inl)} {c : Code} : Zaz P (hkM l lf li) c := fun b hb s hs => by cases hs
def inlM (P : Program) (l lf : List (FuncId × Spec)) (li : List (FuncId × Inl)) (fn : Func) : Inl := inlX P (hkM l lf li) 200 fn
theorem Zbl {l lf : List (FuncId × Spec)} {li : List (FuncId × Inl)} (h : SpecsOK P l) (hlf : SpecsFOK P lf) (hi : InlsLOK P li) (hm : P.follows .mixedOrders = true) {f : FuncId} {fn : Func} (hf : P.funcs[f]? = some fn) (hb : fn.body.isSome = true) (hg : Goes P f) : Zbt P f (inlM P l lf li fn) :=
  ZrV (Zoq h hlf hi) hm 200 hf hb hg Zg6
theorem ct_m {l lf : List (FuncId × Spec)} {li : List (FuncId × Inl)} (h : SpecsOK P l) (hlf : SpecsFOK P lf) (hi : InlsLOK P li) (hm : P.follows .mixedOrders = true) {f : FuncId} {fn : Func} {args : List DV} {res : DV} (hf : P.funcs[f]? = some fn) (hb : fn.body.isSome = true) (hn : Nat.ble args.length fn.ntmps = true) (hfit : (DV.tup args).fit32 = true)
    (hq : Said (askH P (hkM l lf li) fn args fun r => r = res)) : CT P f args res := ct_h (Zoq h hlf hi) hm Zg6 hf hb hn hfit hq
def sAtD (es : List DV) (r : DV) : Spec := fun ds Q => ds = es ∧ Q r
def sIf (c : Bool) (s : Spec) : Spec := fun ds Q => c = true ∧ s ds Q
theorem oIf {f : FuncId} {c : Bool} {s : Spec} (h : c = true → Zad P f s) : Zad P f (sIf c s) := fun ds Q hq => h hq.1 ds Q hq.2
theorem oAtZ {f : FuncId} {es : List DV} {r r0 : DV} (hg : Goes P f) (hc : CT P f es r) (hp : r.pureOwn = true) (hz : Frz r r0) (hfit : r0.fit32 = true) : Zad P f (sAtD es r0) := fun ds Q h => by
  obtain ⟨rfl, h⟩ := h
  have h1 := (ZkF hc (.inl hp)).frz hz
  exact ⟨hg, r0, h1.ct, .inr (.inr h1), hfit, h⟩
theorem oAtD {f : FuncId} {es : List DV} {r : DV} (hg : Goes P f) (hc : CT P f es r) (hp : r.pureOwn = true) (hfit : r.fit32 = true) : Zad P f (sAtD es r) := fun ds Q h => by
  obtain ⟨rfl, h⟩ := h
  exact ⟨hg, r, hc, .inl hp, hfit, h⟩
end

section
open Go
variable {P : Program}
def OL (d e : D) : Prop := ∀ (w : World) (G : Nat → Prop) (v : Value) (S : Nat → Prop), OD w G v d S → OD w G v e S
theorem OL.refl (d : D) : OL d d := fun _ _ _ _ h => h
theorem OL.nil (z : Nat) : OL (.v (.slice none 0 0)) (.s 1 z [] []) := fun w G v S h => by
  cases h with
  | r _ _ _ _ h => cases h with
    | v _ _ => exact .n none z S
theorem OL.rows {z : Nat} {rows rows' sp : List (List D)} (h : All2 (All2 OL) rows rows') : OL (.s 1 z rows sp) (.s 1 z rows' []) := fun w G v S hv => by
  cases hv with
  | r _ _ _ hne _ => exact (hne _ _ _ rfl).elim
  | n a _ _ => cases h; exact .n a z S
  | s _ _ b cap _ arr E _ sub hb ha hr hl hc hn hsub hdis =>
    rw [h.len]
    have hlen := h.len
    refine .s rows' [] b cap z arr E S sub hb ha (fun r hm => ?_) (by simp; omega) hc (fun i j r d h1 h2 => ?_) hsub hdis
    · rw [List.append_nil] at hm
      obtain ⟨i, hi⟩ := List.getElem?_of_mem hm
      obtain ⟨r0, g1, g2⟩ := h.get hi
      rw [← g2.len]
      exact hr r0 (List.mem_append_left _ (List.mem_of_getElem? g1))
    · rw [List.append_nil] at h1
      obtain ⟨r0, g1, g2⟩ := h.get h1
      obtain ⟨d0, e1, e2⟩ := g2.get h2
      refine e2 _ _ _ _ (hn i j r0 d0 ?_ e1)
      rw [List.getElem?_append_left (List.getElem?_eq_some_iff.1 g1).1]; exact g1
theorem AL.aggO {cs cs' : List D} (h : All2 OL cs cs') : AL (.agg cs) (.agg cs') := fun w G v S hv => by
  cases hv with
  | agg vs _ _ sub h1 h2 h3 h4 =>
    refine .agg vs cs' S sub (by rw [← h.len]; exact h1) (fun i e hi => ?_) h3 h4
    obtain ⟨d, g1, g2⟩ := h.get hi
    exact g2 _ _ _ _ (h2 i d g1)
theorem AL.tup {xs ys : List DV} (h : All2 AL xs ys) : AL (.tup xs) (.tup ys) := fun w G v S hv => by
  cases hv with
  | tup vs _ _ sub h1 h2 h3 h4 =>
    refine .tup vs ys S sub (by rw [← h.len]; exact h1) (fun i e hi => ?_) h3 h4
    obtain ⟨d, g1, g2⟩ := h.get hi
    exact g2 _ _ _ _ (h2 i d g1)
theorem CT.res {f : FuncId} {ds : List DV} {r r' : DV} (h : CT P f ds r) (hr : AL r r') : CT P f ds r' := fun w vs S G hov hG hS =>
  (h w vs S G hov hG hS).mono fun e w' ⟨v, S', he, hv, hS', henv⟩ => ⟨v, S', he, hr _ _ _ _ hv, hS', henv⟩
theorem ZhM {x : X} {fn : Func} {R : DV → Prop} {e : Exit} (h : finX P fn R e x) : ∃ res, R res ∧ FinA P fn res e x.S := by
  have key : ∀ h : finX.body P fn R x, ∃ res, R res ∧ ((∃ y ks, Zd4 P x.S fn.results.toList = some [y] ∧ OutA x.S y res ks ∧ ks.Nodup) ∨ (∃ xs ds ks, Zd4 P x.S fn.results.toList = some xs ∧ xs.length ≠ 1 ∧ res = .tup ds ∧ OutT x.S xs ds ks ∧ ks.Nodup)) := by
    intro h
    unfold finX.body at h
    obtain ⟨ys, h1, h2⟩ := Zcv _ _ h
    split at h2
    · rename_i y
      obtain ⟨d, ks, h3, h4⟩ := Zlr h2
      split at h4
      · rename_i hn
        exact ⟨d, h4, .inl ⟨y, ks, h1, h3, Zbr _ hn⟩⟩
      · exact h4.elim
    · rename_i hne
      obtain ⟨ds, ks, h3, h4⟩ := Zij _ _ h2
      split at h4
      · rename_i hn
        refine ⟨_, h4, .inr ⟨ys, ds, ks, h1, fun hl => ?_, rfl, h3, Zbr _ hn⟩⟩
        match ys, hl with
        | [y], _ => exact hne y rfl
      · exact h4.elim
  unfold finX at h
  split at h
  · obtain ⟨res, h1, h2⟩ := key h; exact ⟨res, h1, .inl rfl, h2⟩
  · obtain ⟨res, h1, h2⟩ := key h; exact ⟨res, h1, .inr rfl, h2⟩
  · exact h.elim
theorem Zpp {f : FuncId} {fn : Func} {c : Code} {args : List DV} {res : DV} {F : Exit → X → Prop} (hF : ∀ e x, F e x → ∃ res0, AL res0 res ∧ FinA P fn res0 e x.S) (hf : P.funcs[f]? = some fn) (hb : fn.body = some c) (hn : args.length ≤ fn.ntmps)
    (h : ∀ (w : World) (vs : Array Value) (S G : Nat → Prop) (sub : Nat → Nat → Prop) (γ : Gh), γ.F0 = ⟨G, fun _ => undef⟩ → vs.size = args.length → Rel w S γ (ZaZ fn) { tmps := vs ++ Array.replicate (fn.ntmps - vs.size) undef, defers := [] } w → (∀ i d, args[i]? = some d → OV w γ.F (vs.getD i undef) d (sub i)) → (∀ i, Free w S γ (ZaZ fn) w (sub i)) → (∀ i i' b, sub i b → sub i' b → i = i') →
      ∃ γ1 x, γ1.F0 = γ.F0 ∧ Rel w S γ1 x.S { tmps := vs ++ Array.replicate (fn.ntmps - vs.size) undef, defers := [] } w ∧ XWP P c F x) : CT P f args res := by
  intro w vs S G hov hG hS
  cases hov with
  | tup _ _ _ sub hs hx hsub hdis =>
    have h0 := Rel.start fn w vs S G hG (by omega)
    have hfree : ∀ i, Free w S { β := fun _ _ => none, F := G, FP := fun _ _ _ _ => False, gen := fun _ => 0, F0 := ⟨G, fun _ => undef⟩ } (ZaZ fn) w (sub i) := fun i b hb => by
      refine ⟨fun hg => ?_, fun k R hk => by simp [ZaZ] at hk, .inl (hsub i b hb), hS b (hsub i b hb)⟩
      rcases hg with hg | ⟨_, _, _, hg⟩
      · exact (hG b hg).2 (hsub i b hb)
      · exact hg.elim
    obtain ⟨γ1, x0, q1, hR, hx0⟩ := h w vs S G sub _ rfl hs h0 hx hfree hdis
    refine calls_of_wp hf hb (Code.wp_mono (fun e a' w' hp => ?_) (hx0 w S γ1 _ w hR))
    obtain ⟨γ', x', g1, g2, hq⟩ := hp
    obtain ⟨res0, hAL, hfin, hres⟩ := hF _ _ hq
    generalize hst' : x'.S = st' at g2 hres
    have hF0 : γ'.F0 = ⟨G, fun _ => undef⟩ := g1.trans q1
    have hfoot : ∀ ks b, γ'.foot st' ks b → (S b ∨ w.heap.size ≤ b) ∧ b < w'.heap.size ∧ ¬ γ'.F b := by
      rintro ks b ⟨k, R, _, hk, hc | ⟨i, j, hc⟩⟩
      · obtain ⟨p1, _, p3⟩ := g2.rootF k R b hk hc
        exact ⟨p3, g2.ltβ k R.tag b (by rw [g2.gen]; exact g2.tag k R hk) hc, p1⟩
      · obtain ⟨p1, p2⟩ := g2.fpF k i j b hc
        exact ⟨p2, g2.lt b (.inr ⟨k, i, j, hc⟩), p1⟩
    have hG' : ∀ ks b, γ'.F b → (G b ∨ S b ∨ w.heap.size ≤ b) ∧ b < w'.heap.size ∧ ¬ γ'.foot st' ks b := fun ks b hF => by
      refine ⟨?_, g2.lt b (.inl hF), fun hx => (hfoot ks b hx).2.2 hF⟩
      have := g2.fs b hF
      rw [hF0] at this
      exact this
    have key : ∃ v, (results fn a'.tmps).run P w' = .ok v w' ∧ ∃ ks, OV w' γ'.F v res (γ'.foot st' ks) := by
      suffices key0 : ∃ v, (results fn a'.tmps).run P w' = .ok v w' ∧ ∃ ks, OV w' γ'.F v res0 (γ'.foot st' ks) by
        obtain ⟨v, h1, ks, h2⟩ := key0
        exact ⟨v, h1, ks, hAL _ _ _ _ h2⟩
      rcases hres with ⟨x, ks, r1, r2, r3⟩ | ⟨xs, ds, ks, r1, r2, rfl, r4, r5⟩
      · obtain ⟨us, u1, u2, u3⟩ := Zch g2 _ _ r1
        obtain ⟨u, rfl⟩ : ∃ u, us = [u] := by
          match us, u2 with
          | [u], _ => exact ⟨u, rfl⟩
        exact ⟨_, ZbT u1, ks, Zhf g2 (show AR γ' w' u x by simpa using u3 0 x rfl) r2 r3⟩
      · obtain ⟨us, u1, u2, u3⟩ := Zch g2 _ _ r1
        obtain ⟨e1, sub', s1, s2, s3⟩ := ZeT g2 xs ds ks (fun i => us.getD i undef) r4 r5 u3
        refine ⟨_, ZbT u1, ks, ?_⟩
        have : Zlm us = .tuple us.toArray := by
          match us, u2 with
          | [u], h => simp at h; omega
          | [], _ => rfl
          | _ :: _ :: _, _ => rfl
        rw [this]
        exact .tup _ _ _ sub' (by simp; omega) (fun i d hd => by simpa [Array.getD_eq_getD_getElem?, List.getD] using s1 i d hd) s2 s3
    obtain ⟨v, v1, ks, v2⟩ := key
    have hpost : a'.defers = [] ∧ ∃ v, (results fn a'.tmps).run P w' = .ok v w' ∧ ∃ v' S', Ending.returned v = .returned v' ∧ OV w' (fun b => (G b ∨ S b ∨ w.heap.size ≤ b) ∧ b < w'.heap.size ∧ ¬ S' b) v' res S' ∧ (∀ b, S' b → (S b ∨ w.heap.size ≤ b) ∧ b < w'.heap.size) ∧ Env w S w' :=
      ⟨g2.defers, v, v1, v, γ'.foot st' ks, rfl, v2.mono (hG' ks) (.refl _ _) (.refl _ _), fun b hb => ⟨(hfoot ks b hb).1, (hfoot ks b hb).2.1⟩, g2.env⟩
    rcases hfin with rfl | rfl
    · exact hpost
    · exact hpost
theorem ZoH {f : FuncId} {fn : Func} {c : Code} {args : List DV} {res : DV} {F : Exit → X → Prop} (hF : ∀ e x, F e x → ∃ res0, AL res0 res ∧ FinA P fn res0 e x.S) (hf : P.funcs[f]? = some fn) (hb : fn.body = some c) (hn : args.length ≤ fn.ntmps) (hfit : (DV.tup args).fit32 = true)
    (h : XWP P c F (Zb6 fn.ntmps args)) : CT P f args res := Zpp hF hf hb hn fun w vs S G sub γ hF0 hs h0 hx hfree hdis => by
  obtain ⟨γ1, q1, q2, ⟨q3, q4⟩, _⟩ := ZeP args _ (ZaZ fn) 1000000 (fun i => vs.getD i undef) sub h0 hx hfree hdis
  have hR : Rel w S γ1 (entry fn args) { tmps := vs ++ Array.replicate (fn.ntmps - vs.size) undef, defers := [] } w := by
    refine q2.know fun i => ?_
    by_cases hi : i < args.length
    · have := q4 i ((matT (ZaZ fn) 1000000 args).2[i]'(by omega)) (List.getElem?_eq_getElem _)
      have e1 : (vs ++ Array.replicate (fn.ntmps - vs.size) undef).getD i undef = vs.getD i undef := by
        have : i < vs.size := by omega
        simp [Array.getD_eq_getD_getElem?, Array.getElem?_append, this]
      have e2 : (matT (ZaZ fn) 1000000 args).2.getD i .dead = (matT (ZaZ fn) 1000000 args).2[i]'(by omega) := by
        simp [List.getD, List.getElem?_eq_getElem (show i < (matT (ZaZ fn) 1000000 args).2.length by omega)]
      simp only [e2]
      show AR γ1 w ((vs ++ Array.replicate (fn.ntmps - vs.size) undef).getD i undef) _
      rw [e1]; exact this
    · have e2 : (matT (ZaZ fn) 1000000 args).2.getD i .dead = .dead := by
        simp [List.getD, List.getElem?_eq_none (show (matT (ZaZ fn) 1000000 args).2.length ≤ i by omega)]
      simp only [e2]
      exact .dead _
  exact ⟨γ1, Zb6 fn.ntmps args, q1.F0, by rw [Zmz fn hn hfit]; exact hR, h⟩
def ZrO (n : Nat) (args : List DV) (K : X → Prop) : Prop := Zry ⟨padA [] n, [], [], []⟩ 1000000 args fun x ys => K { x with tmps := padA ys n }
theorem Zqh (fn : Func) : (⟨padA [] fn.ntmps, [], [], []⟩ : X).S = ZaZ fn := by
  have h := ZdT [] fn.ntmps (Nat.zero_le _)
  simp only [X.S, ZaZ, Zar, h]
  congr 1
  · funext i; rw [Zd1]; simp
theorem Zsp {f : FuncId} {fn : Func} {c : Code} {args : List DV} {res : DV} {F : Exit → X → Prop} (hF : ∀ e x, F e x → ∃ res0, AL res0 res ∧ FinA P fn res0 e x.S) (hf : P.funcs[f]? = some fn) (hb : fn.body = some c) (hn : args.length ≤ fn.ntmps)
    {K : X → Prop} (hK : ∀ x, K x → XWP P c F x) (h : ZrO fn.ntmps args K) : CT P f args res := Zpp hF hf hb hn fun w vs S G sub γ hF0 hs h0 hx hfree hdis => by
  rw [← Zqh fn] at h0 hfree
  obtain ⟨γ1, x1, q1, q2, ⟨cs, q3, q4, q5⟩, _⟩ := Ze9 args γ _ 1000000 (fun i => vs.getD i undef) sub _ h0 hx hfree hdis h
  refine ⟨γ1, _, q1.F0, ?_, hK _ q5⟩
  have hsz : (vs ++ Array.replicate (fn.ntmps - vs.size) undef).size = fn.ntmps := by simp; omega
  have := q2.know (f := fun i => (padA cs fn.ntmps).getD i .dead) fun i => by
    rw [Zd1]
    by_cases hi : i < cs.length
    · have h4 := q4 i cs[i] (List.getElem?_eq_getElem hi)
      have e1 : (vs ++ Array.replicate (fn.ntmps - vs.size) undef).getD i undef = vs.getD i undef := by
        have : i < vs.size := by omega
        simp [Array.getD_eq_getD_getElem?, Array.getElem?_append, this]
      simp only [List.getD, List.getElem?_eq_getElem hi, Option.getD_some]
      rw [e1]; exact h4
    · simp only [List.getD, List.getElem?_eq_none (Nat.le_of_not_lt hi), Option.getD_none]
      exact .dead _
  have e : ({ x1 with tmps := padA cs fn.ntmps } : X).S = { x1.S with tmps := fun i => (padA cs fn.ntmps).getD i .dead } := by
    have hl := ZdT cs fn.ntmps (by omega)
    have hn1 : x1.tmps.length = fn.ntmps := by
      have := q2.size
      rw [hsz] at this
      exact this.symm
    simp only [X.S, hl, hn1]
    rfl
  rw [e]; exact this
theorem ZsP {f : FuncId} {fn : Func} {c : Code} {args : List DV} {res : DV} (hf : P.funcs[f]? = some fn) (hb : fn.body = some c) (hn : args.length ≤ fn.ntmps) (hfit : (DV.tup args).fit32 = true)
    (h : XWP P c (finX P fn fun r => AL r res) (Zb6 fn.ntmps args)) : CT P f args res := ZoH (fun _ _ h => ZhM h) hf hb hn hfit h
theorem Zu4 {H : Hooks} (hH : Zam P H) (hm : P.follows .mixedOrders = true) {f : FuncId} {fn : Func} {args : List DV} {res : DV} (hL : Zaz P H (Zav fn)) (hf : P.funcs[f]? = some fn) (hb : fn.body.isSome = true) (hn : Nat.ble args.length fn.ntmps = true) (hfit : (DV.tup args).fit32 = true)
    (h : Said (askH P H fn args fun r => AL r res)) : CT P f args res := by
  obtain ⟨c, hc⟩ := Option.isSome_iff_exists.1 hb
  have e : Zav fn = c := by simp [Zav, hc]
  have h := h.out
  unfold askH at h
  rw [e] at h hL
  exact ZsP hf hc (Nat.le_of_ble_eq_true hn) hfit (Zbk hH hm 200 _ _ _ hL h)
theorem ZsU {l lf : List (FuncId × Spec)} {li : List (FuncId × Inl)} (h : SpecsOK P l) (hlf : SpecsFOK P lf) (hi : InlsLOK P li) (hm : P.follows .mixedOrders = true) {f : FuncId} {fn : Func} {args : List DV} {res : DV} (hf : P.funcs[f]? = some fn) (hb : fn.body.isSome = true) (hn : Nat.ble args.length fn.ntmps = true) (hfit : (DV.tup args).fit32 = true)
    (hq : Said (askH P (hkM l lf li) fn args fun r => AL r res)) : CT P f args res := Zu4 (Zoq h hlf hi) hm Zg6 hf hb hn hfit hq
def h0 : Mh := ⟨[], [], [], [], 0, 0, 0, 0, 0, []⟩
abbrev nilV : D := .v (.slice none 0 0)
theorem Ztm : AL (.agg [nilV, nilV, nilV, nilV, vN 0, vN 0, vN 0, vN 0, vN 0, nilV, nilV]) (.agg (macL 1 h0 [])) :=
  .aggO (.cons (.nil 3) (.cons (.nil 3) (.cons (.nil 3) (.cons (.nil 3) (.cons (.refl _) (.cons (.refl _) (.cons (.refl _) (.cons (.refl _) (.cons (.refl _) (.cons (.nil 17) (.cons (.nil 4) .nil)))))))))))
theorem ZuJ (e : Int) : AL (.tup [.agg [nilV, nilV, nilV, nilV, vN 0, vN 0, vN 0, vN 0, vN 0, nilV, nilV], .c (vN e)]) (.tup [.agg (macL 1 h0 []), .c (vN e)]) := .tup (.cons Ztm (.cons (.refl _) .nil))
end

section
open Go
variable {P : Program} {x : X}
def ZqC (x : X) (c : C) (K : D → List Nat → Prop) : Prop :=
  match c with
  | .rs k g wd lo len kn => match Zar x.store k with
    | some (.sl tag wd' rows) => match Nat.beq tag g && (Nat.beq wd' wd && Nat.beq lo 0) with
      | true => whole len rows ∧ K (.s 1 wd rows []) [k]
      | false => False
    | some (.fo tag wd' rows i row) => match Nat.beq tag g && (Nat.beq wd' wd && Nat.beq lo 0) with
      | true => match strip.stripRow row with
        | some ds => whole len (rows.set i ds) ∧ K (.s 1 wd (rows.set i ds) []) [k]
        | none => False
      | false => False
    | _ => outC x (.rs k g wd lo len kn) K
  | c => outC x c K
theorem Zne {c : C} {K : D → List Nat → Prop} (h : ZqC x c K) : ∃ d ks, OutC x.S c d ks ∧ K d ks := by
  unfold ZqC at h
  split at h
  · rename_i k g wd lo len kn
    split at h
    · rename_i tag wd' rows hk
      split at h
      · rename_i hb
        simp only [Bool.and_eq_true] at hb
        obtain ⟨e1, e2, e3⟩ := hb
        have e1 := Zaa e1; have e2 := Zaa e2; have e3 := Zaa e3
        subst e1 e2 e3
        obtain ⟨⟨rfl, hk2⟩, h⟩ := h
        have := OutC.rs (st := x.S) k wd' rows.length kn _ rows (Za5 hk) rfl rfl (Nat.le_refl _) hk2
        simp only [List.take_length, List.drop_length, List.take_nil] at this
        exact ⟨_, _, this, h⟩
      · exact h.elim
    · rename_i tag wd' rows i row hk
      split at h
      · rename_i hb
        simp only [Bool.and_eq_true] at hb
        obtain ⟨e1, e2, e3⟩ := hb
        have e1 := Zaa e1; have e2 := Zaa e2; have e3 := Zaa e3
        subst e1 e2 e3
        split at h
        · rename_i ds hds
          obtain ⟨⟨rfl, hk2⟩, h⟩ := h
          have := OutC.rs (st := x.S) k wd' (rows.set i ds).length kn _ (rows.set i ds) (Za5 hk) rfl (by simp only [XRoot.root, Zip, ← Za0 _ _ hds]) (Nat.le_refl _) hk2
          simp only [List.take_length, List.drop_length, List.take_nil] at this
          exact ⟨_, _, this, h⟩
        · exact h.elim
      · exact h.elim
    · exact Ziy h
  · exact Ziy h
def ZtC (x : X) : List C → (List D → List Nat → Prop) → Prop
  | [], K => K [] []
  | c :: l, K => ZqC x c fun d ks => ZtC x l fun ds kss => K (d :: ds) (ks ++ kss)
theorem ZmQ : ∀ (l : List C) (K : List D → List Nat → Prop), ZtC x l K → ∃ ds ks, OutL x.S l ds ks ∧ K ds ks
  | [], K, h => ⟨_, _, .nil, h⟩
  | c :: l, K, h => by
    obtain ⟨d, ks, h1, h2⟩ := Zne h
    obtain ⟨ds, kss, h3, h4⟩ := ZmQ l _ h2
    exact ⟨_, _, .cons h1 h3, h4⟩
def Zrw (x : X) (y : A) (K : DV → List Nat → Prop) : Prop :=
  match y with
  | .c c => ZqC x c fun d ks => K (.c d) ks
  | .agg cs => ZtC x cs fun ds ks => K (.agg ds) ks
  | _ => False
theorem ZmW {y : A} {K : DV → List Nat → Prop} (h : Zrw x y K) : ∃ d ks, OutA x.S y d ks ∧ K d ks := by
  unfold Zrw at h
  split at h
  · obtain ⟨d, ks, h1, h2⟩ := Zne h; exact ⟨_, _, .c h1, h2⟩
  · obtain ⟨d, ks, h1, h2⟩ := ZmQ _ _ h; exact ⟨_, _, .agg h1, h2⟩
  · exact h.elim
def Zsn (x : X) : List A → (List DV → List Nat → Prop) → Prop
  | [], K => K [] []
  | c :: l, K => Zrw x c fun d ks => Zsn x l fun ds kss => K (d :: ds) (ks ++ kss)
theorem ZmZ : ∀ (l : List A) (K : List DV → List Nat → Prop), Zsn x l K → ∃ ds ks, OutT x.S l ds ks ∧ K ds ks
  | [], K, h => ⟨_, _, .nil, h⟩
  | c :: l, K, h => by
    obtain ⟨d, ks, h1, h2⟩ := ZmW h
    obtain ⟨ds, kss, h3, h4⟩ := ZmZ l _ h2
    exact ⟨_, _, .cons h1 h3, h4⟩
def finW (P : Program) (fn : Func) (K : DV → Prop) (e : Exit) (x : X) : Prop :=
  match e with
  | .ret => body
  | .normal => body
  | _ => False
where body := ZkO P x fn.results.toList fun ys => match ys with
  | [y] => Zrw x y fun d ks => match ZfI ks with | true => K d | false => False
  | ys => Zsn x ys fun ds ks => match ZfI ks with | true => K (.tup ds) | false => False
theorem Zo3 {fn : Func} {R : DV → Prop} {e : Exit} (h : finW P fn R e x) : ∃ res, R res ∧ FinA P fn res e x.S := by
  have key : ∀ h : finW.body P fn R x, ∃ res, R res ∧ ((∃ y ks, Zd4 P x.S fn.results.toList = some [y] ∧ OutA x.S y res ks ∧ ks.Nodup) ∨ (∃ xs ds ks, Zd4 P x.S fn.results.toList = some xs ∧ xs.length ≠ 1 ∧ res = .tup ds ∧ OutT x.S xs ds ks ∧ ks.Nodup)) := by
    intro h
    unfold finW.body at h
    obtain ⟨ys, h1, h2⟩ := Zcv _ _ h
    split at h2
    · rename_i y
      obtain ⟨d, ks, h3, h4⟩ := ZmW h2
      split at h4
      · rename_i hn
        exact ⟨d, h4, .inl ⟨y, ks, h1, h3, Zbr _ hn⟩⟩
      · exact h4.elim
    · rename_i hne
      obtain ⟨ds, ks, h3, h4⟩ := ZmZ _ _ h2
      split at h4
      · rename_i hn
        refine ⟨_, h4, .inr ⟨ys, ds, ks, h1, fun hl => ?_, rfl, h3, Zbr _ hn⟩⟩
        match ys, hl with
        | [y], _ => exact hne y rfl
      · exact h4.elim
  unfold finW at h
  split at h
  · obtain ⟨res, h1, h2⟩ := key h; exact ⟨res, h1, .inl rfl, h2⟩
  · obtain ⟨res, h1, h2⟩ := key h; exact ⟨res, h1, .inr rfl, h2⟩
  · exact h.elim
def askW (P : Program) (H : Hooks) (fn : Func) (args : List DV) (K : DV → Prop) : Prop := evp P H 200 (Zav fn) (finW P fn K) (Zb6 fn.ntmps args)
theorem ct_w {H : Hooks} (hH : Zam P H) (hm : P.follows .mixedOrders = true) {f : FuncId} {fn : Func} {args : List DV} {res : DV} (hL : Zaz P H (Zav fn)) (hf : P.funcs[f]? = some fn) (hb : fn.body.isSome = true) (hn : Nat.ble args.length fn.ntmps = true) (hfit : (DV.tup args).fit32 = true)
    (h : Said (askW P H fn args fun r => AL r res)) : CT P f args res := by
  obtain ⟨c, hc⟩ := Option.isSome_iff_exists.1 hb
  have e : Zav fn = c := by simp [Zav, hc]
  have h := h.out
  unfold askW at h
  rw [e] at h hL
  exact ZoH (fun _ _ h => Zo3 h) hf hc (Nat.le_of_ble_eq_true hn) hfit (Zbk hH hm 200 _ _ _ hL h)
theorem Zrt {l lf : List (FuncId × Spec)} {li : List (FuncId × Inl)} (h : SpecsOK P l) (hlf : SpecsFOK P lf) (hi : InlsLOK P li) (hm : P.follows .mixedOrders = true) {f : FuncId} {fn : Func} {args : List DV} {res : DV} (hf : P.funcs[f]? = some fn) (hb : fn.body.isSome = true) (hn : Nat.ble args.length fn.ntmps = true) (hfit : (DV.tup args).fit32 = true)
    (hq : Said (askW P (hkF l lf li) fn args fun r => AL r res)) : CT P f args res := ct_w (ZeJ h hlf hi) hm Zpm hf hb hn hfit hq
def ZfQ (t : Nat) (h : Mh) (R : List (List D)) : List D := [.s t 3 h.w0 [], .s t 3 h.w1 [], .s t 3 h.w2 [], .s t 3 h.w3 [], vN h.c0, vN h.c1, vN h.c2, vN h.c3, vN h.ce, .s t 17 R [], .s t 4 h.tr []]
def mac0 : List D := [nilV, nilV, nilV, nilV, vN 0, vN 0, vN 0, vN 0, vN 0, nilV, nilV]
theorem ZqI (t : Nat) (h : Mh) (ss : List SesD) : ZfQ t h (ss.map (sesL t)) = macL t h ss := rfl
theorem Zqz {i j n : Nat} : foAt (addN 0 i) j n ↔ i = j ∧ j < n := by simp [foAt, Zey]
theorem Zkg {ss : List SesD} {j t : Nat} {s : SesD} (h : ss[j]? = some s) : Ze2 (ss.map (sesL t)) j t s := by
  unfold Ze2; rw [List.getElem?_map, h]; rfl
theorem ZpM {ss : List SesD} {j t : Nat} {s : SesD} : (ss.map (sesL t)).set j (sesL t s) = (ss.set j s).map (sesL t) := by rw [List.map_set]
theorem ZiH (ss : List SesD) : allK (ss.map (sesL 1)) = true := by
  unfold allK
  rw [List.all_map, List.all_eq_true]
  intro s _
  rfl
theorem ZpS {ss : List SesD} {j n : Nat} {s : SesD} (hn : n = ss.length) : whole n ((ss.map (sesL 1)).set j (sesL 1 s)) := by
  rw [ZpM]
  exact ⟨by simp [hn], ZiH _⟩
theorem ZaN {R : List (List D)} (h : allK R = true) : whole R.length R := ⟨rfl, h⟩
def hkFL (l lf : List (FuncId × Spec)) (li : List (FuncId × Inl)) (m : List (Nat × LSum)) : Hooks := { hkF l lf li with loop := Zdu m }
theorem Zsj {l lf : List (FuncId × Spec)} {li : List (FuncId × Inl)} {m : List (Nat × LSum)} (h : SpecsOK P l) (hf : SpecsFOK P lf) (hi : InlsLOK P li) : Zam P (hkFL l lf li m) := ZeJ h hf hi
def ZcR (P : Program) (fn : Func) (m : List (Nat × LSum)) : Prop := ∀ i, i < (Zbd (Zav fn)).length → ∀ s, Zdu m (ZbI (Zal fn i)) = some s → ∀ Q x, s Q x → XWP P (.loop (Zal fn i)) Q x
theorem Zu9 {l lf : List (FuncId × Spec)} {li : List (FuncId × Inl)} {m : List (Nat × LSum)} {fn : Func} (h : ZcR P fn m) : Zaz P (hkFL l lf li m) (Zav fn) := Zc9 _ rfl h
theorem Zew {fn : Func} {i k : Nat} {s : LSum} (hu : ∀ j, j < (Zbd (Zav fn)).length → ZbI (Zal fn j) = k → j = i) (h : ∀ Q x, s Q x → XWP P (.loop (Zal fn i)) Q x) : ZcR P fn [(k, s)] := fun j hj s' hs Q x hq => by
  unfold Zdu at hs
  split at hs
  · rename_i hb
    cases hs
    rw [hu j hj (Zaa hb).symm]
    exact h Q x hq
  · cases hs
theorem Zq9 {l lf : List (FuncId × Spec)} {li : List (FuncId × Inl)} {m : List (Nat × LSum)} (h : SpecsOK P l) (hlf : SpecsFOK P lf) (hi : InlsLOK P li) (hm : P.follows .mixedOrders = true) {f : FuncId} {fn : Func} (hL : ZcR P fn m) {args : List DV} {res : DV} (hf : P.funcs[f]? = some fn) (hb : fn.body.isSome = true) (hn : Nat.ble args.length fn.ntmps = true) (hfit : (DV.tup args).fit32 = true)
    (hq : Said (askW P (hkFL l lf li m) fn args fun r => AL r res)) : CT P f args res := ct_w (Zsj h hlf hi) hm (Zu9 hL) hf hb hn hfit hq
def hkC (l lf : List (FuncId × Spec)) (li : List (FuncId × Inl)) (m : List (Nat × LSum)) : Hooks := { hkFL l lf li m with cpy := true }
theorem Zh5 {l lf : List (FuncId × Spec)} {li : List (FuncId × Inl)} {m : List (Nat × LSum)} (h : SpecsOK P l) (hf : SpecsFOK P lf) (hi : InlsLOK P li) : Zam P (hkC l lf li m) := ZeJ h hf hi
theorem Zjd {l lf : List (FuncId × Spec)} {li : List (FuncId × Inl)} {m : List (Nat × LSum)} (h : SpecsOK P l) (hlf : SpecsFOK P lf) (hi : InlsLOK P li) (hm : P.follows .mixedOrders = true) {f : FuncId} {fn : Func} (hL : ZcR P fn m) {args : List DV} {res : DV} (hf : P.funcs[f]? = some fn) (hb : fn.body.isSome = true) (hn : Nat.ble args.length fn.ntmps = true) (hfit : (DV.tup args).fit32 = true)
    (hq : Said (askW P (hkC l lf li m) fn args fun r => AL r res)) : CT P f args res := ct_w (Zh5 h hlf hi) hm (Zc9 _ rfl hL) hf hb hn hfit hq
def askB (P : Program) (H : Hooks) (fn : Func) (args : List DV) (K : DV → Prop) : Prop := ZrO fn.ntmps args (evp P H 200 (Zav fn) (finX P fn K))
theorem Zpb {H : Hooks} (hH : Zam P H) (hm : P.follows .mixedOrders = true) {f : FuncId} {fn : Func} {args : List DV} {res : DV} (hL : Zaz P H (Zav fn)) (hf : P.funcs[f]? = some fn) (hb : fn.body.isSome = true) (hn : Nat.ble args.length fn.ntmps = true)
    (hq : Said (askB P H fn args fun r => AL r res)) : CT P f args res := by
  obtain ⟨c, hc⟩ := Option.isSome_iff_exists.1 hb
  have e : Zav fn = c := by simp [Zav, hc]
  have hq := hq.out
  unfold askB at hq
  rw [e] at hq hL
  exact Zsp (fun _ _ h => ZhM h) hf hc (Nat.le_of_ble_eq_true hn) (fun x hx => Zbk hH hm 200 _ _ x hL hx) hq
def hkG (l : List (FuncId × Spec)) (li : List (FuncId × Inl)) (g : Nat → Bool) : Hooks := { hkF l [] li with give := g }
theorem Zpn {l : List (FuncId × Spec)} {li : List (FuncId × Inl)} {g : Nat → Bool} (h : SpecsOK P l) (hi : InlsLOK P li) : Zam P (hkG l li g) := ZeJ h .nil hi
theorem Zcl {l : List (FuncId × Spec)} {li : List (FuncId × Inl)} {g : Nat → Bool} {c : Code} : Zaz P (hkG l li g) c := fun b hb s hs => by cases hs
theorem Zwc (p q : Bool) (X : DV) : (bif p then AL (B q) X else AL (B false) X) = AL (B (bif p then q else false)) X := by cases p <;> rfl
theorem Zu3 (p q : Bool) (X : DV) : (bif !p then AL (B false) X else AL (B q) X) = AL (B (bif p then q else false)) X := by cases p <;> rfl
end

section
open Go Go.Proofs
theorem mixed : Tryz.prog.follows .mixedOrders = true := by kernel_rfl
def upto (x lo hi : Int) : Bool := decide (x ≥ lo) && decide (x ≤ hi)
def clk (x : Int) : Bool := upto x 0 65535
def lab (x : Int) : Bool := upto x 0 3
def val8 (x : Int) : Bool := upto x 0 255
def idm (x : Int) : Bool := upto x 0 254
def sB (p : Int → Bool) : Spec := fun ds Q => match ds with | [.c (.v (.int .i64 x))] => Q (B (p x)) | _ => False
theorem oB {f : FuncId} {fn : Func} {p : Int → Bool} (hf : Tryz.prog.funcs[f]? = some fn) (hn : (fn.name == "runtime.NumGoroutine") = false) (hb : fn.body.isNone = false) (hc : ∀ x, CT Tryz.prog f [I x] (B (p x))) : Zad Tryz.prog f (sB p) := fun ds Q h => by
  unfold sB at h; split at h
  · exact ⟨Zaq hf hn hb, _, hc _, .inl rfl, rfl, h⟩
  · exact h.elim
theorem o_of {f : FuncId} {fn : Func} {s : Spec} (hf : Tryz.prog.funcs[f]? = some fn) (hn : (fn.name == "runtime.NumGoroutine") = false) (hb : fn.body.isNone = false) (hc : ∀ ds Q, s ds Q → ∃ r, CT Tryz.prog f ds r ∧ r.pureOwn = true ∧ r.fit32 = true ∧ Q r) : Zad Tryz.prog f s := fun ds Q h => ⟨Zaq hf hn hb, by
  obtain ⟨r, h1, h2, h3, h4⟩ := hc ds Q h
  exact ⟨r, h1, .inl h2, h3, h4⟩⟩
theorem ZwM {f : FuncId} {fn : Func} {s : Spec} (hf : Tryz.prog.funcs[f]? = some fn) (hn : (fn.name == "runtime.NumGoroutine") = false) (hb : fn.body.isNone = false) (hc : ∀ ds Q, s ds Q → ∃ r, CT Tryz.prog f ds r ∧ (DV.tup ds).pureOwn = true ∧ r.fit32 = true ∧ Q r) : Zad Tryz.prog f s := fun ds Q h => ⟨Zaq hf hn hb, by
  obtain ⟨r, h1, h2, h3, h4⟩ := hc ds Q h
  exact ⟨r, h1, .inr (.inl h2), h3, h4⟩⟩
def sI : Spec := fun ds Q => match ds with | [.c (.v (.int .i64 x))] => Q (I x) | _ => False
theorem oNum : Zad Tryz.prog 25 sI := o_of Tryz.func25 (by kernel_rfl) rfl fun ds Q h => by
  unfold sI at h; split at h
  · refine ⟨_, Zak .nil mixed Tryz.func25 rfl rfl rfl ?_, rfl, rfl, h⟩
    have e : ∀ x, ask Tryz.prog [] Tryz.f25 [I x] (fun r => r = I x) = (I x = I x) := fun x => by kernel_rfl
    rw [e]
  · exact h.elim
theorem eIn (x m : Int) (K : DV → Prop) : (ask Tryz.prog [] Tryz.f150 [I x, I m] K) = (bif decide (x ≥ 0) then K (DV.c (D.v (Value.bool (decide (x ≤ m))))) else K (DV.c (D.v (Value.bool false)))) := by kernel_rfl
def sIn : Spec := fun ds Q => match ds with | [.c (.v (.int .i64 x)), .c (.v (.int .i64 m))] => Q (B (upto x 0 m)) | _ => False
theorem oIn : Zad Tryz.prog 150 sIn := o_of Tryz.func150 (by kernel_rfl) rfl fun ds Q h => by
  unfold sIn at h; split at h
  · refine ⟨_, Zak .nil mixed Tryz.func150 rfl rfl rfl ?_, rfl, rfl, h⟩
    rw [eIn]; rename_i x m; unfold upto; cases decide (x ≥ 0) <;> rfl
  · exact h.elim
theorem eUp (x l m : Int) (K : DV → Prop) : (ask Tryz.prog [] Tryz.f119 [I x, I l, I m] K) = (bif decide (x ≥ l) then K (DV.c (D.v (Value.bool (decide (x ≤ m))))) else K (DV.c (D.v (Value.bool false)))) := by kernel_rfl
def sUp : Spec := fun ds Q => match ds with | [.c (.v (.int .i64 x)), .c (.v (.int .i64 l)), .c (.v (.int .i64 m))] => Q (B (upto x l m)) | _ => False
theorem oUp : Zad Tryz.prog 119 sUp := o_of Tryz.func119 (by kernel_rfl) rfl fun ds Q h => by
  unfold sUp at h; split at h
  · refine ⟨_, Zak .nil mixed Tryz.func119 rfl rfl rfl ?_, rfl, rfl, h⟩
    rw [eUp]; rename_i x l m; unfold upto; cases decide (x ≥ l) <;> rfl
  · exact h.elim
theorem oVal : Zad Tryz.prog 115 (sB val8) := oB Tryz.func115 (by kernel_rfl) rfl fun x => Zak (.cons oIn .nil) mixed Tryz.func115 rfl rfl rfl (by
  have e : ask Tryz.prog [(150, sIn)] Tryz.f115 [I x] (fun r => r = B (val8 x)) = (B (val8 x) = B (val8 x)) := by kernel_rfl
  rw [e])
theorem ZgR : Zad Tryz.prog 91 (sB val8) := oB Tryz.func91 (by kernel_rfl) rfl fun x => Zak (.cons oUp .nil) mixed Tryz.func91 rfl rfl rfl (by
  have e : ask Tryz.prog [(119, sUp)] Tryz.f91 [I x] (fun r => r = B (val8 x)) = (B (val8 x) = B (val8 x)) := by kernel_rfl
  rw [e])
theorem Zok : Zad Tryz.prog 71 (sB lab) := oB Tryz.func71 (by kernel_rfl) rfl fun x => Zak (.cons oUp .nil) mixed Tryz.func71 rfl rfl rfl (by
  have e : ask Tryz.prog [(119, sUp)] Tryz.f71 [I x] (fun r => r = B (lab x)) = (B (lab x) = B (lab x)) := by kernel_rfl
  rw [e])
theorem eLab (x : Int) (K : DV → Prop) : (ask Tryz.prog [] Tryz.f64 [I x] K) = (bif decide (x ≥ 0) then K (DV.c (D.v (Value.bool (decide (x < 4))))) else K (DV.c (D.v (Value.bool false)))) := by kernel_rfl
theorem lt4 (x : Int) : decide (x < 4) = decide (x ≤ 3) := by congr 1; exact propext ⟨fun h => by omega, fun h => by omega⟩
theorem oLab : Zad Tryz.prog 64 (sB lab) := oB Tryz.func64 (by kernel_rfl) rfl fun x => Zak .nil mixed Tryz.func64 rfl rfl rfl (by
  rw [eLab]; unfold lab upto; rw [lt4]; cases decide (x ≥ 0) <;> rfl)
theorem ZoG {l : Int} (h : lab l = true) : l = 0 ∨ l = 1 ∨ l = 2 ∨ l = 3 := by unfold lab upto at h; simp at h; omega
end

end Vm
