/- An interpreter for Go's texts over plain data, and its proof: what it answers is what the model does. My own work. -/
import Derived.Test.YtdfehiebnempaaaGF
import Derived.KernelRfl
import Derived.WalkKit
import Derived.ProofKit
import Derived.OpenShut
import Derived.ShutString
import Derived.ChangeOld
import Derived.Below
import Derived.SizedLaws
import Derived.Carry
import Derived.Lib.SmallJoins
import Derived.Deep.Slices
namespace Vm
section
open Go
set_option linter.unusedSimpArgs false
set_option linter.unusedVariables false

variable {P : Program} {w0 : World} {own : Nat → Prop} {γ : Gh} {st : St} {a : Act} {w : World} {o : Oper} {x : X} {ops : Array Oper}

/-! ### one operation -/
/-- 'x & 3', value by value. -/
def evAnd3 (v : Int) (K : Int → Prop) : Prop := cond (v == 0) (K 0) (cond (v == 1) (K 1) (cond (v == 2) (K 2) (cond (v == 3) (K 3) False)))
theorem evAnd3_spec {v : Int} {K : Int → Prop} (h : evAnd3 v K) : K v := by
  unfold evAnd3 at h
  cases h0 : (v == 0) with
  | true => rw [h0] at h; have : v = 0 := by simpa using h0
            subst this; exact h
  | false =>
    rw [h0] at h
    cases h1 : (v == 1) with
    | true => rw [h1] at h; have : v = 1 := by simpa using h1
              subst this; exact h
    | false =>
      rw [h1] at h
      cases h2 : (v == 2) with
      | true => rw [h2] at h; have : v = 2 := by simpa using h2
                subst this; exact h
      | false =>
        rw [h2] at h
        obtain ⟨h3, h⟩ := cond_P h
        have : v = 3 := by simpa using h3
        subst this; exact h
def isThree (z : Operand) : Bool := match z with | .const (.int .i64 n) => decide (n = 3) | _ => false
def evBinOp (P : Program) (H : Hooks) (k : Nat) (x : X) (b : BinOp) (t : TypeId) (y z : Operand) (K : KO) : Prop :=
  match evA x.S y, evA x.S z, b with
  | .agg cs, .agg ds, .eql => evEq P x false t cs ds K
  | .agg cs, .agg ds, .neq => evEq P x true t cs ds K
  | .c (.d (.v (.int .i64 p))), .c (.d (.v (.int .i64 q))), .and => match H.pick k with
    | some g => H.and p q = g ∧ K [] ⟨sc (.int .i64 g), []⟩ x
    | none => match H.split && isThree z with
    | true => evAnd3 (H.and p q) fun v => K [] ⟨sc (.int .i64 v), []⟩ x
    | false => K [] ⟨sc (.int .i64 (H.and p q)), []⟩ x
  | .c (.d (.v (.int .i64 p))), .c (.d (.v (.int .i64 q))), .or => K [] ⟨sc (.int .i64 (H.or p q)), []⟩ x
  | .c (.d (.v (.int .i64 p))), .c (.d (.v (.int .i64 q))), .xor => K [] ⟨sc (.int .i64 (bxor p q)), []⟩ x
  | .c (.d (.v (.int k p))), .c (.d (.v (.int k' q))), .rem => match decide (k = k') with
    | true => cond (decide (q = 0)) False (K [] ⟨sc (.int k (Int.tmod p q)), []⟩ x)
    | false => False
  | _, _, .eql => evEqNil P x t y z K
  | _, _, _ => evBin P x b t y z K
theorem evBinOp_sound {H : Hooks} (hH : CallsOK P H) {b : BinOp} {t u : TypeId} {y z : Operand} (ho : o.op = .binOp b t y z u) : Sound P o x (evBinOp P H (keyO o) x b t y z) := fun K h hd => by
  unfold evBinOp at h
  split at h
  · rename_i h1 h2; exact evEq_sound (neg := false) (.inl ⟨rfl, rfl⟩) ho h1 h2 K h hd
  · rename_i h1 h2; exact evEq_sound (neg := true) (.inr ⟨rfl, rfl⟩) ho h1 h2 K h hd
  · rename_i p q h1 h2
    have h : K [] ⟨sc (.int .i64 (band p q)), []⟩ x := by
      rw [← hH.1]
      split at h
      · obtain ⟨h1, h2⟩ := h
        rw [h1]; exact h2
      · split at h
        · exact evAnd3_spec h
        · exact h
    exact ⟨_, _, h, fun w0 own ops => pk_bin hd ho (p := .int .i64 p) (q := .int .i64 q) (by rw [h1]; rfl) (by rw [h2]; rfl) rfl rfl⟩
  · rename_i p q h1 h2
    rw [hH.2.1] at h
    exact ⟨_, _, h, fun w0 own ops => pk_bin hd ho (p := .int .i64 p) (q := .int .i64 q) (by rw [h1]; rfl) (by rw [h2]; rfl) rfl rfl⟩
  · rename_i p q h1 h2
    exact ⟨_, _, h, fun w0 own ops => pk_bin hd ho (p := .int .i64 p) (q := .int .i64 q) (by rw [h1]; rfl) (by rw [h2]; rfl) rfl rfl⟩
  · rename_i k p k' q h1 h2
    split at h
    · rename_i hk
      have hk := of_decide_eq_true hk
      subst hk
      cases hq : decide (q = 0) with
      | true => rw [hq] at h; exact h.elim
      | false =>
        rw [hq] at h
        have hq := of_decide_eq_false hq
        exact ⟨_, _, h, fun w0 own ops => pk_bin hd ho (p := .int k p) (q := .int k q) (by rw [h1]; rfl) (by rw [h2]; rfl) (by
          have e : binOp .rem t (.int k p) (.int k q) = .pure (.int k (Int.tmod p q)) := by
            simp only [binOp, ne_eq, not_true_eq_false, if_false, Op.intDiv, if_neg hq]; rfl
          have e2 : eqGuard .rem t y z (.int k p) (.int k q) = .pure () := rfl
          rw [e, e2]; rfl) rfl⟩
    · exact h.elim
  · exact evEqNil_sound ho K h hd
  · exact evBin_sound ho K h hd

theorem pureRun_bind {α β : Type} (P : Program) {a : α} (f : α → Sem β) : ∀ (s : Sem α), pureRun P s = some a → pureRun P (s >>= f) = pureRun P (f a)
  | .pure b, h => by simp [pureRun] at h; subst h; rfl
  | .program k, h => by
    simp only [pureRun] at h
    exact pureRun_bind P f (k P) h
  | .load .., h | .store .., h | .new .., h | .shape .., h | .freeze .., h | .frozen .., h | .getObj .., h | .setObj .., h | .choose .., h | .sys .., h | .mark .., h | .halt .., h => by simp [pureRun] at h
theorem pureRun_under {t : TypeId} {d : TypeDesc} (h : P.underlying t = some d) : pureRun P (underlying t) = some d := by
  unfold underlying
  rw [pureRun_bind P (a := P) _ program rfl]
  simp [h, pureRun]
  rfl
def evConvF (P : Program) (H : Hooks) (x : X) (t u : TypeId) (y : Operand) (K : KO) : Prop :=
  match evA x.S y, P.underlying t, P.underlying u with
  | .c (.d (.v (.int .i64 n))), some (.int _), some (.float .f64) => K [] ⟨sc (.float .f64 (H.i2f n)), []⟩ x
  | .c (.d (.v (.float .f64 b))), some (.float _), some (.int .i64) => cond (H.fok b) (K [] ⟨sc (.int .i64 (H.f2i b)), []⟩ x) False
  | _, _, _ => evConv P x t u y K
theorem evConvF_sound {H : Hooks} (hH : CallsOK P H) {t u : TypeId} {y : Operand} (ho : o.op = .convert t u y) : Sound P o x (evConvF P H x t u y) := fun K h hd => by
  unfold evConvF at h
  split at h
  · rename_i n k h1 h2 h3
    rw [hH.2.2.1.1] at h
    refine ⟨_, _, h, fun w0 own ops => pk_conv hd ho (p := .int .i64 n) (by rw [h1]; rfl) ?_ rfl⟩
    unfold convert
    rw [pureRun_bind P _ _ (pureRun_under h2), pureRun_bind P _ _ (pureRun_under h3)]
    rfl
  · rename_i b k h1 h2 h3
    obtain ⟨hc, h⟩ := cond_P h
    rw [hH.2.2.1.2.1] at h
    rw [hH.2.2.1.2.2] at hc
    refine ⟨_, _, h, fun w0 own ops => pk_conv hd ho (p := .float .f64 b) (by rw [h1]; rfl) ?_ rfl⟩
    unfold convert
    rw [pureRun_bind P _ _ (pureRun_under h2), pureRun_bind P _ _ (pureRun_under h3)]
    exact run_f2i hc
  · exact evConv_sound ho K h hd

def evCalls (P : Program) (H : Hooks) (o : Oper) (x : X) (c : Call) (K : KO) : Prop :=
  match c.callee with
  | .value f => match f with
    | .func n => match H.give n with
      | true => evCallOwn H o x n c.args K
      | false => match H.over n with
        | true => evOver P x n c.args K
        | false => evCall P H o x f c.args c.argTypes K
    | _ => evCall P H o x f c.args c.argTypes K
  | .builtin .len => evLen P o x c.args c.argTypes K
  | .builtin .append => evAppends P o x c.args c.argTypes K
  | .builtin .copy => evCopy P x c.args c.argTypes K
  | .builtin .cap => evCap P x c.args c.argTypes K
  | .builtin b => evNumB P o x b c.args c.argTypes K
  | _ => False
theorem evCalls_sound {H : Hooks} (hH : CallsOK P H) {c : Call} (ho : o.op = .call c) : Sound P o x (evCalls P H o x c) := fun K h hd => by
  obtain ⟨cal, args, tys⟩ := c
  unfold evCalls at h
  split at h
  · rename_i f hf
    simp only at hf
    subst hf
    split at h
    · split at h
      · exact evCallOwn_sound hH ho K h hd
      · split at h
        · exact evOver_sound ho K h hd
        · exact evCall_sound hH ho K h hd
    · exact evCall_sound hH ho K h hd
  · rename_i hf; simp only at hf; subst hf; exact evLen_sound ho K h hd
  · rename_i hf; simp only at hf; subst hf; exact evAppends_sound ho K h hd
  · rename_i hf; simp only at hf; subst hf; exact evCopy_sound ho K h hd
  · rename_i hf; simp only at hf; subst hf; exact evCap_sound ho K h hd
  · rename_i b _ hf; simp only at hf; subst hf; exact evNumB_sound ho K h hd
  · exact h.elim

def evOp (P : Program) (H : Hooks) (o : Oper) (x : X) (K : KO) : Prop :=
  match o.op with
  | .move y => evMove x y K
  | .assign y => evAssign P o x y K
  | .pick c y z => evPick x c y z K
  | .alloc t => evAlloc P o x t K
  | .box _ y => evBox o x y K
  | .load t y => evLoad P x t y K
  | .store t y z => evStore P x t y z K
  | .nilCheck y => evNil x y K
  | .binOp b t y z _ => evBinOp P H (keyO o) x b t y z K
  | .unOp b _ y => evUn P x b y K
  | .convert t u y => evConvF P H x t u y K
  | .makeFunc (.func f) fst cap => evMakeFunc x f fst cap K
  | .fieldAddr t y f => evFieldAddr P x t y f K
  | .field t y f => evField P x t y f K
  | .indexAddr t y i => evIndexAddr P x t y i K
  | .index t y i => evIndex P x t y i K
  | .extract y i => evExtract x y i K
  | .build t ps => evBuild P x t ps K
  | .buildSlice t n ps => evBuildSlice P o x t n ps K
  | .slice t y lo hi mx => evSlice P o x t y lo hi mx K
  | .makeSlice t l c => evMake P o x t l c K
  | .call c => evCalls P H o x c K
  | _ => False

theorem evOp_sound {H : Hooks} (hH : CallsOK P H) : Sound P o x (evOp P H o x) := fun K h hd => by
  unfold evOp at h
  split at h
  · exact evMove_sound (.inl ‹_›) K h hd
  · exact evAssign_sound ‹_› K h hd
  · exact evPick_sound ‹_› K h hd
  · exact evAlloc_sound ‹_› K h hd
  · exact evBox_sound ‹_› K h hd
  · exact evLoad_sound ‹_› K h hd
  · exact evStore_sound ‹_› K h hd
  · exact evNil_sound ‹_› K h hd
  · exact evBinOp_sound hH ‹_› K h hd
  · exact evUn_sound ‹_› K h hd
  · exact evConvF_sound hH ‹_› K h hd
  · exact evMakeFunc_sound ‹_› K h hd
  · exact evFieldAddr_sound ‹_› K h hd
  · exact evField_sound ‹_› K h hd
  · exact evIndexAddr_sound ‹_› K h hd
  · exact evIndex_sound ‹_› K h hd
  · exact evExtract_sound ‹_› K h hd
  · exact evBuild_sound ‹_› K h hd
  · exact evBuildSlice_sound ‹_› K h hd
  · exact evSlice_sound ‹_› K h hd
  · exact evMake_sound ‹_› K h hd
  · exact evCalls_sound hH ‹_› K h hd
  · exact h.elim

/-! ### a region -/
def X.fits (x : X) (d : Option Nat) : Bool := match d with | none => true | some d => Nat.ble (d + 1) x.tmps.length
theorem fits_S (d : Option Nat) : x.fits d = x.S.fits d := by
  cases d with
  | none => rfl
  | some d =>
    show Nat.ble (d + 1) x.tmps.length = decide (d < x.tmps.length)
    by_cases h : d < x.tmps.length
    · rw [decide_eq_true h]; exact Nat.ble_eq_true_of_le h
    · rw [decide_eq_false h]
      cases e : Nat.ble (d + 1) x.tmps.length
      · rfl
      · exact (h (Nat.le_of_ble_eq_true e)).elim

abbrev Foot := List (List Nat × List Nat)

def evGuard (ops : Array Oper) (o : Oper) (x : X) (K : Bool → X → Prop) : Prop :=
  match o.guard with
  | none => K true x
  | some (j, want) => match (ops[j]?).bind (·.dst) with
    | some d => match x.tmps.getD d .dead with
      | .tup [] => K false x
      | _ => evB x (.tmp d) fun b x' => match b, want with
        | true, true => K true x'
        | false, false => K true x'
        | _, _ => K false x'
    | none => False

theorem evGuard_spec {K : Bool → X → Prop} (h : evGuard ops o x K) : ∃ b, guardA ops x.S o = some b ∧ K b x := by
  unfold evGuard at h
  unfold guardA
  split at h
  · rename_i hg; rw [hg]; exact ⟨true, rfl, h⟩
  · rename_i j want hg
    rw [hg]
    simp only
    split at h
    · rename_i d hd
      rw [hd]
      split at h
      · rename_i ht
        have ht' : x.S.tmps d = .tup [] := ht
        have hlt : d < x.S.n := by
          simp only [X.S, List.getD_eq_getElem?_getD] at ht' ⊢
          rcases Nat.lt_or_ge d x.tmps.length with h' | h'
          · exact h'
          · rw [List.getElem?_eq_none h'] at ht'; simp at ht'
        simp only [ht', hlt, if_true]
        exact ⟨false, rfl, h⟩
      obtain ⟨b, hb, h⟩ := evB_spec h
      have hb' : x.S.tmps d = .c (.d (.v (.bool b))) := hb
      have hlt : d < x.S.n := by
        simp only [X.S, List.getD_eq_getElem?_getD] at hb' ⊢
        rcases Nat.lt_or_ge d x.tmps.length with h' | h'
        · exact h'
        · rw [List.getElem?_eq_none h'] at hb'; simp at hb'
      simp only [hb', hlt, if_true]
      cases b <;> cases want <;> exact ⟨_, rfl, h⟩
    · exact h.elim

def evOps (P : Program) (H : Hooks) (ops : Array Oper) (K : Foot → X → Prop) : List Oper → Foot → X → Prop
  | [], acc, x => K acc x
  | o :: l, acc, x => match x.fits o.dst with
    | true => evGuard ops o x fun b x => match b with
      | true => evOp P H o x fun Ks p x => evOps P H ops K l ((Ks, p.ups.map (·.1)) :: acc) (x.patch o.dst p)
      | false => evOps P H ops K l (([], []) :: acc) (x.patch o.dst ⟨.tup [], []⟩)
    | false => False

theorem evOps_sound {H : Hooks} (hH : CallsOK P H) (K : Foot → X → Prop) : ∀ (l : List Oper) (acc : Foot) (x : X), evOps P H ops K l acc x → ALex P w0 own ops (fun acc st => ∃ x', st = x'.S ∧ K acc x') l acc x.S
  | [], acc, x, h => ⟨x, rfl, h⟩
  | o :: l, acc, x, h => by
    unfold evOps at h
    split at h
    · rename_i hf
      rw [fits_S] at hf
      obtain ⟨b, hb, h⟩ := evGuard_spec h
      cases b with
      | true =>
        obtain ⟨Ks, p, h1, h2⟩ := evOp_sound hH _ h hf
        have ih := evOps_sound hH K l _ _ h1
        rw [patch_S _ _ _ hf, ← keysU_toU] at ih
        exact alex_step hb (h2 w0 own ops) ih
      | false =>
        have ih := evOps_sound hH K l _ _ h
        rw [patch_S _ _ _ hf] at ih
        exact x_skip hb hf ih
    · exact h.elim

/-! ### what is known is written out before the walk goes on -/
def frcD (d : D) (K : D → Prop) : Prop :=
  match d with
  | .v v => match v with
    | .int k n => K (.v (.int k n))
    | .bool b => K (.v (.bool b))
    | v => K (.v v)
  | .s t z rows sp => K (.s t z rows sp)
  | .p t cells off => K (.p t cells off)
  | .f fn a b => K (.f fn a b)
def frcC (c : C) (K : C → Prop) : Prop :=
  match c with
  | .d d => frcD d fun d => K (.d d)
  | .rs k g wd lo len kn => K (.rs k g wd lo len kn)
  | .rp k g wd i j => K (.rp k g wd i j)
  | .cf fn a b => K (.cf fn a b)
  | .non => K .non
def frcL : List C → (List C → Prop) → Prop
  | [], K => K []
  | c :: l, K => frcC c fun c => frcL l fun l => K (c :: l)
def frcA (a : A) (K : A → Prop) : Prop :=
  match a with
  | .dead => K .dead
  | .c c => frcC c fun c => K (.c c)
  | .agg cs => frcL cs fun cs => K (.agg cs)
  | .tup xs => K (.tup xs)
  | .bb q => K (.bb q)
  | .rx k g wd lo len cap => K (.rx k g wd lo len cap)
def frcT : List A → (List A → Prop) → Prop
  | [], K => K []
  | a :: l, K => frcA a fun a => frcT l fun l => K (a :: l)
def frcS : List (Nat × XRoot) → (List (Nat × XRoot) → Prop) → Prop
  | [], K => K []
  | (k, .bx t wd row) :: l, K => frcS l fun l => K ((k, .bx t wd row) :: l)
  | (k, .sl t wd rows) :: l, K => frcS l fun l => K ((k, .sl t wd rows) :: l)
def X.force (x : X) (K : X → Prop) : Prop := frcT x.tmps fun ts => frcS x.store fun ss => K ⟨ts, ss, x.gens⟩
theorem frcD_spec {d : D} {K : D → Prop} (h : frcD d K) : K d := by
  unfold frcD at h; split at h
  · split at h <;> exact h
  all_goals exact h
theorem frcC_spec {c : C} {K : C → Prop} (h : frcC c K) : K c := by
  unfold frcC at h; split at h
  · exact frcD_spec h
  all_goals exact h
theorem frcL_spec : ∀ {l : List C} {K : List C → Prop}, frcL l K → K l
  | [], _, h => h
  | c :: l, K, h => frcL_spec (l := l) (K := fun l => K (c :: l)) (frcC_spec (K := fun c => frcL l fun l => K (c :: l)) h)
theorem frcA_spec {a : A} {K : A → Prop} (h : frcA a K) : K a := by
  unfold frcA at h; split at h
  · exact h
  · exact frcC_spec h
  · exact frcL_spec h
  · exact h
  · exact h
  · exact h
theorem frcT_spec : ∀ {l : List A} {K : List A → Prop}, frcT l K → K l
  | [], _, h => h
  | c :: l, K, h => frcT_spec (l := l) (K := fun l => K (c :: l)) (frcA_spec (K := fun c => frcT l fun l => K (c :: l)) h)
theorem frcS_spec : ∀ {l : List (Nat × XRoot)} {K : List (Nat × XRoot) → Prop}, frcS l K → K l
  | [], _, h => h
  | (k, .bx t wd row) :: l, K, h => frcS_spec (l := l) (K := fun l => K ((k, .bx t wd row) :: l)) h
  | (k, .sl t wd rows) :: l, K, h => frcS_spec (l := l) (K := fun l => K ((k, .sl t wd rows) :: l)) h
theorem force_spec {x : X} {K : X → Prop} (h : x.force K) : K x := frcS_spec (l := x.store) (K := fun ss => K ⟨x.tmps, ss, x.gens⟩) (frcT_spec (l := x.tmps) (K := fun ts => frcS x.store fun ss => K ⟨ts, ss, x.gens⟩) h)

/-! ### code -/
def XPost (w0 : World) (own : Nat → Prop) (F0 : Nat → Prop) (Q : Exit → X → Prop) (e : Exit) (a : Act) (w : World) : Prop := ∃ γ x, γ.F0 = F0 ∧ Rel w0 own γ x.S a w ∧ Q e x
def XWP (P : Program) (c : Code) (Q : Exit → X → Prop) (x : X) : Prop := ∀ w0 own γ a w, Rel w0 own γ x.S a w → c.wp P (XPost w0 own γ.F0 Q) a w

theorem xwp_seq {c d : Code} {Q : Exit → X → Prop} (h : XWP P c (fun e x' => match e with | .normal => XWP P d Q x' | e => Q e x') x) : XWP P (.seq c d) Q x := fun w0 own γ a w hR => by
  refine wp_seq (Code.wp_mono (fun e a' w' hp => ?_) (h w0 own γ a w hR))
  obtain ⟨γ', x', h1, h2, h3⟩ := hp
  cases e with
  | normal => have := h3 w0 own γ' a' w' h2; rw [h1] at this; exact this
  | _ => exact ⟨γ', x', h1, h2, h3⟩
theorem xwp_block {id : Nat} {c : Code} {Q : Exit → X → Prop} (h : XWP P c (fun e x' => match e with | .exit i => (match Nat.beq i id with | true => Q .normal x' | false => Q (.exit i) x') | e => Q e x') x) : XWP P (.block id c) Q x := fun w0 own γ a w hR => by
  refine wp_block (Code.wp_mono (fun e a' w' hp => ?_) (h w0 own γ a w hR))
  obtain ⟨γ', x', h1, h2, h3⟩ := hp
  cases e with
  | exit i =>
    simp only [Exit.inBlock]
    simp only at h3
    split at h3
    · rename_i hb; have := beq_true hb; subst this; simp only [if_true]; exact ⟨γ', x', h1, h2, h3⟩
    · rename_i hb; rw [if_neg (beq_false hb)]; exact ⟨γ', x', h1, h2, h3⟩
  | _ => exact ⟨γ', x', h1, h2, h3⟩
theorem xwp_loop {ι : Type} {c : Code} {Q : Exit → X → Prop} (I : ι → X → Prop) (μ : ι → Nat) (i0 : ι) (h0 : I i0 x) (round : ∀ i x, I i x → XWP P c (fun e x' => match e with | .normal => ∃ i', μ i' < μ i ∧ I i' x' | e => Q e x') x) : XWP P (.loop c) Q x := fun w0 own γ a w hR => by
  refine wp_loop_ghost (fun n a w => ∃ γ' x' i, γ'.F0 = γ.F0 ∧ Rel w0 own γ' x'.S a w ∧ I i x' ∧ μ i = n) (μ i0) ⟨γ, x, i0, rfl, hR, h0, rfl⟩ ?_
  rintro n a w ⟨γ1, x1, i, g1, g2, g3, rfl⟩
  refine Code.wp_mono (fun e a' w' hp => ?_) (round i x1 g3 w0 own γ1 a w g2)
  obtain ⟨γ', x', h1, h2, h3⟩ := hp
  cases e with
  | normal => obtain ⟨i', hn, hI⟩ := h3; exact ⟨μ i', hn, γ', x', i', h1.trans g1, h2, hI, rfl⟩
  | _ => exact ⟨γ', x', h1.trans g1, h2, h3⟩
theorem xwp_mono {c : Code} {Q Q' : Exit → X → Prop} (h : XWP P c Q x) (hq : ∀ e x, Q e x → Q' e x) : XWP P c Q' x := fun w0 own γ a w hR =>
  Code.wp_mono (fun e a' w' ⟨γ', x', h1, h2, h3⟩ => ⟨γ', x', h1, h2, hq _ _ h3⟩) (h w0 own γ a w hR)

def rnds (f : (Exit → X → Prop) → X → Prop) (Q : Exit → X → Prop) : Nat → X → Prop
  | 0, _ => False
  | m + 1, x => f (fun e x' => match e with | .normal => rnds f Q m x' | e => Q e x') x
theorem xwp_rnds {c : Code} {f : (Exit → X → Prop) → X → Prop} (hf : ∀ Q x, f Q x → XWP P c Q x) {Q : Exit → X → Prop} (n : Nat) (h : rnds f Q n x) : XWP P (.loop c) Q x := by
  refine xwp_loop (ι := Nat) (fun n x => rnds f Q n x) id n h fun i x hi => ?_
  cases i with
  | zero => exact hi.elim
  | succ i =>
    refine xwp_mono (hf _ _ hi) fun e x' he => ?_
    cases e with
    | normal => exact ⟨i, Nat.lt_succ_self _, he⟩
    | _ => exact he

theorem ALex.mono {ops : Array Oper} {Q Q' : List (List Nat × List Nat) → St → Prop} (hq : ∀ acc st, Q acc st → Q' acc st) : ∀ (l : List Oper) (acc : List (List Nat × List Nat)) (st : St), ALex P w0 own ops Q l acc st → ALex P w0 own ops Q' l acc st
  | [], acc, st, h => hq _ _ h
  | o :: l, acc, st, ⟨K, p, h1, h2, h3, h4⟩ => ⟨K, p, h1, h2, h3, ALex.mono hq l _ _ h4⟩

theorem xwp_region {id : Nat} {os : Array Oper} {draw : Bool} {H : Hooks} (hH : CallsOK P H) (hm : P.follows .mixedOrders = true) {Q : Exit → X → Prop}
    (h : evOps P H os (fun acc x' => match draw with | true => cond (lexOKF os acc.reverse os.toList.length 0) (x'.norm.force (Q .normal)) False | false => x'.norm.force (Q .normal)) os.toList [] x) : XWP P (.region id os draw) Q x := fun w0 own γ a w hR => by
  have hA := evOps_sound (w0 := w0) (own := own) hH _ _ _ _ h
  have hAWP : AWP P w0 own (.region id os draw) (fun e st => ∃ x' : X, st = x'.S ∧ e = .normal ∧ Q .normal x'.norm) x.S := by
    cases draw with
    | true =>
      have := awp_region_draw (P := P) (w0 := w0) (own := own) (id := id) (l := os.toList) (st := x.S) (Q := fun e st => ∃ x' : X, st = x'.S ∧ e = .normal ∧ Q .normal x'.norm) hm
      simp only [Array.toArray_toList] at this
      refine this (ALex.mono ?_ _ _ _ hA)
      rintro acc st ⟨x', rfl, h12⟩
      obtain ⟨h1, h2⟩ := cond_P h12
      exact ⟨h1, x', rfl, trivial, force_spec h2⟩
    | false =>
      have := awp_region (P := P) (w0 := w0) (own := own) (id := id) (l := os.toList) (st := x.S) (Q := fun e st => ∃ x' : X, st = x'.S ∧ e = .normal ∧ Q .normal x'.norm)
      simp only [Array.toArray_toList] at this
      refine this (ALex.mono ?_ _ _ _ hA)
      rintro acc st ⟨x', rfl, h2⟩
      exact ⟨x', rfl, trivial, force_spec h2⟩
  refine Code.wp_mono (fun e a' w' hp => ?_) (hAWP γ a w hR)
  obtain ⟨γ', st', h1, h2, x', rfl, rfl, h3⟩ := hp
  obtain ⟨γ2, g1, g2⟩ := h2.norm
  exact ⟨γ2, x'.norm, g1.trans h1.F0, g2, h3⟩

def loopId : Code → Nat
  | .region id _ _ => id
  | .seq a _ => loopId a
  | .block _ c => loopId c
  | .loop c => loopId c
  | _ => 0
def loopsOf : Code → List Code
  | .seq a b => loopsOf a ++ loopsOf b
  | .cond _ a b => loopsOf a ++ loopsOf b
  | .block _ c => loopsOf c
  | .loop c => c :: loopsOf c
  | _ => []

def evp (P : Program) (H : Hooks) : Nat → Code → (Exit → X → Prop) → X → Prop
  | 0, _, _, _ => False
  | n + 1, c, Q, x => match c with
    | .skip => Q .normal x
    | .ret => Q .ret x
    | .exit id => Q (.exit id) x
    | .seq c d => evp P H n c (fun e x' => match e with | .normal => evp P H n d Q x' | e => Q e x') x
    | .block id c => evp P H n c (fun e x' => match e with | .exit i => (match Nat.beq i id with | true => Q .normal x' | false => Q (.exit i) x') | e => Q e x') x
    | .cond t c d => match evA x.S t with
      | .bb q => cond q (evp P H n c Q x) True ∧ evp P H n d Q x
      | _ => evB x t fun b x' => match b with | true => evp P H n c Q x' | false => evp P H n d Q x'
    | .loop c => match H.loop (loopId c) with
      | some s => s Q x
      | none => rnds (evp P H n c) Q 600 x
    | .region _ os draw => evOps P H os (fun acc x' => match draw with | true => cond (lexOKF os acc.reverse os.toList.length 0) (x'.norm.force (Q .normal)) False | false => x'.norm.force (Q .normal)) os.toList [] x
    | _ => False

def LoopsOK (P : Program) (H : Hooks) (c : Code) : Prop := ∀ b ∈ loopsOf c, ∀ s, H.loop (loopId b) = some s → ∀ Q x, s Q x → XWP P (.loop b) Q x

theorem evp_sound {H : Hooks} (hH : CallsOK P H) (hm : P.follows .mixedOrders = true) : ∀ (n : Nat) (c : Code) (Q : Exit → X → Prop) (x : X), LoopsOK P H c → evp P H n c Q x → XWP P c Q x
  | 0, _, _, _, _, h => h.elim
  | n + 1, c, Q, x, hl, h => by
    have ih := evp_sound hH hm n
    unfold evp at h
    split at h
    · exact fun w0 own γ a w hR => wp_skip ⟨γ, x, rfl, hR, h⟩
    · exact fun w0 own γ a w hR => wp_ret ⟨γ, x, rfl, hR, h⟩
    · exact fun w0 own γ a w hR => wp_exit ⟨γ, x, rfl, hR, h⟩
    · rename_i c d
      refine xwp_seq (xwp_mono (ih c _ x (fun b hb => hl b (List.mem_append_left _ hb)) h) fun e x' he => ?_)
      cases e with
      | normal => exact ih d Q x' (fun b hb => hl b (List.mem_append_right _ hb)) he
      | _ => exact he
    · rename_i id c
      exact xwp_block (ih c _ x hl h)
    · rename_i t c d
      split at h
      · rename_i q hq
        intro w0 own γ a w hR
        have hv := hR.ev t
        rw [hq] at hv
        generalize hvv : a.eval t = v at hv
        cases hv with
        | bb b _ hb =>
          refine wp_cond hvv ?_
          cases b with
          | true =>
            have h1 := h.1
            rw [hb rfl] at h1
            exact ih c Q x (fun b hb => hl b (List.mem_append_left _ hb)) h1 w0 own γ a w hR
          | false => exact ih d Q x (fun b hb => hl b (List.mem_append_right _ hb)) h.2 w0 own γ a w hR
      obtain ⟨b, hb, h⟩ := evB_spec h
      intro w0 own γ a w hR
      have := hR.ev t
      rw [hb] at this
      refine wp_cond (AR.sc_inv this).1 ?_
      cases b with
      | true => exact ih c Q x (fun b hb => hl b (List.mem_append_left _ hb)) h w0 own γ a w hR
      | false => exact ih d Q x (fun b hb => hl b (List.mem_append_right _ hb)) h w0 own γ a w hR
    · rename_i c
      split at h
      · rename_i s hs
        exact hl c (by simp [loopsOf]) s hs Q x h
      · exact xwp_rnds (fun Q x h => ih c Q x (fun b hb => hl b (by simp [loopsOf, hb])) h) 600 h
    · exact xwp_region hH hm h
    · exact h.elim
end

section
open Go
set_option linter.unusedSimpArgs false
set_option linter.unusedVariables false

variable {P : Program} {w0 : World} {own : Nat → Prop} {γ : Gh} {st : St} {a : Act} {w : World} {o : Oper} {x : X} {ops : Array Oper}

/-! ### the end -/
def evRes (P : Program) (x : X) (r : ResultVar) (K : A → Prop) : Prop :=
  match r with
  | .tmp t => K (x.tmps.getD t .dead).wk
  | .cell t T => match x.tmps.getD t .dead with
    | .c (.rp k g wd i j) => match lookN x.store k with
      | some (.bx tag wd' row) => match Nat.beq tag g && (Nat.beq wd' wd && Nat.beq i 0) with
        | true => evPart P T row j fun y => match y.cells with
          | some cs => match cellsOK cs with | true => K y | false => False
          | none => False
        | false => False
      | _ => False
    | _ => False

theorem cells_mkA {ag : Bool} {cs : List C} {y : A} {ds : List C} (h : mkA ag cs = some y) (hd : y.cells = some ds) : ds = cs := by
  unfold mkA at h
  split at h
  · cases h; simpa [A.cells] using hd.symm
  · split at h
    · cases h
      rename_i c
      cases c <;> simp [A.cells] at hd <;> exact hd.symm
    · cases h

theorem evRes_spec {r : ResultVar} {K : A → Prop} (h : evRes P x r K) : ∃ y, resV P x.S r = some y ∧ K y := by
  unfold evRes at h
  split at h
  · exact ⟨_, rfl, h⟩
  · rename_i t T
    split at h
    · rename_i k g wd i j ht
      split at h
      · rename_i tag wd' row hk
        split at h
        · rename_i hb
          simp only [Bool.and_eq_true] at hb
          obtain ⟨e1, e2, e3⟩ := hb
          have e1 := beq_true e1; have e2 := beq_true e2; have e3 := beq_true e3
          subst e1 e2 e3
          obtain ⟨n, ag, cs, y, q1, q2, q3, q4, q5⟩ := evPart_spec h
          split at q5
          · rename_i ds hds
            split at q5
            · rename_i hok
              have e := cells_mkA q4 hds
              subst e
              refine ⟨y, ?_, q5⟩
              have ht' : x.S.tmps t = .c (.rp k tag wd' 0 j) := ht
              have hk' : x.S.store k = some (XRoot.bx tag wd' row).root := S_store hk
              unfold resV
              simp only [ht', hk', XRoot.root, and_self, if_true, List.getElem?_cons_zero, Option.bind_some, q1, q3, hok, q2, q4]
            · exact q5.elim
          · exact q5.elim
        · exact h.elim
      · exact h.elim
    · exact h.elim

def evRess (P : Program) (x : X) : List ResultVar → (List A → Prop) → Prop
  | [], K => K []
  | r :: l, K => evRes P x r fun y => evRess P x l fun ys => K (y :: ys)
theorem evRess_spec : ∀ (l : List ResultVar) (K : List A → Prop), evRess P x l K → ∃ ys, resVs P x.S l = some ys ∧ K ys
  | [], K, h => ⟨[], rfl, h⟩
  | r :: l, K, h => by
    obtain ⟨y, h1, h2⟩ := evRes_spec h
    obtain ⟨ys, h3, h4⟩ := evRess_spec l _ h2
    exact ⟨y :: ys, by simp [resVs, h1, h3], h4⟩

def finX (P : Program) (fn : Func) (K : DV → Prop) (e : Exit) (x : X) : Prop :=
  match e with
  | .ret => body
  | .normal => body
  | _ => False
where body := evRess P x fn.results.toList fun ys => match ys with
  | [y] => outA x y fun d ks => match nodupN ks with | true => K d | false => False
  | ys => outT x ys fun ds ks => match nodupN ks with | true => K (.tup ds) | false => False

theorem finX_spec {fn : Func} {res : DV} {e : Exit} (h : finX P fn (fun r => r = res) e x) : FinA P fn res e x.S := by
  have key : ∀ h : finX.body P fn (fun r => r = res) x, ((∃ y ks, resVs P x.S fn.results.toList = some [y] ∧ OutA x.S y res ks ∧ ks.Nodup) ∨ (∃ xs ds ks, resVs P x.S fn.results.toList = some xs ∧ xs.length ≠ 1 ∧ res = .tup ds ∧ OutT x.S xs ds ks ∧ ks.Nodup)) := by
    intro h
    unfold finX.body at h
    obtain ⟨ys, h1, h2⟩ := evRess_spec _ _ h
    split at h2
    · rename_i y
      obtain ⟨d, ks, h3, h4⟩ := outA_ev h2
      split at h4
      · rename_i hn
        subst h4
        exact .inl ⟨y, ks, h1, h3, nodupN_spec _ hn⟩
      · exact h4.elim
    · rename_i hne
      obtain ⟨ds, ks, h3, h4⟩ := outT_ev _ _ h2
      split at h4
      · rename_i hn
        subst h4
        refine .inr ⟨ys, ds, ks, h1, fun hl => ?_, rfl, h3, nodupN_spec _ hn⟩
        match ys, hl with
        | [y], _ => exact hne y rfl
      · exact h4.elim
  unfold finX at h
  split at h
  · exact ⟨.inl rfl, key h⟩
  · exact ⟨.inr rfl, key h⟩
  · exact h.elim

/-! ### the beginning -/
def padA : List A → Nat → List A
  | l, 0 => l
  | [], n + 1 => .dead :: padA [] n
  | y :: l, n + 1 => y :: padA l n
def entryX (n : Nat) (args : List DV) : X :=
  X.ups { tmps := padA (upT (fun _ => 0) 1000000 args).2 n, store := [], gens := [] } (upT (fun _ => 0) 1000000 args).1

theorem padA_len : ∀ (l : List A) (n : Nat), l.length ≤ n → (padA l n).length = n
  | [], 0, _ => rfl
  | _ :: _, 0, h => by simp at h
  | [], n + 1, _ => by simp [padA, padA_len [] n (Nat.zero_le _)]
  | y :: l, n + 1, h => by simp [padA, padA_len l n (by simpa using h)]
theorem padA_get : ∀ (l : List A) (n i : Nat), (padA l n).getD i .dead = l.getD i .dead
  | l, 0, i => by unfold padA; rfl
  | [], n + 1, 0 => by simp [padA]
  | [], n + 1, i + 1 => by
    have := padA_get [] n i
    simp only [padA, List.getD_cons_succ]; rw [this]; simp
  | y :: l, n + 1, 0 => by simp [padA]
  | y :: l, n + 1, i + 1 => by
    have := padA_get l n i
    simp only [padA, List.getD_cons_succ]; exact this

theorem upT_len (gen : Nat → Nat) : ∀ (l : List DV) (k : Nat), (upT gen k l).2.length = l.length
  | [], _ => rfl
  | d :: l, k => by simp [upT, upT_len gen l]

theorem entryX_S (fn : Func) {args : List DV} (hn : args.length ≤ fn.ntmps) (hfit : (DV.tup args).fit32 = true) : (entryX fn.ntmps args).S = entry fn args := by
  have e0 : (entry0 fn).gen = fun _ => 0 := rfl
  unfold entryX entry
  rw [ups_S, matT_up args (entry0 fn) 1000000 hfit, e0]
  simp only [St.ups, St.patch, X.S, entry0, lookN]
  congr 1
  · exact padA_len _ _ (by rw [upT_len]; exact hn)
  · funext i
    exact padA_get _ _ i

theorem ct_ofX {f : FuncId} {fn : Func} {c : Code} {args : List DV} {res : DV} (hf : P.funcs[f]? = some fn) (hb : fn.body = some c) (hn : args.length ≤ fn.ntmps) (hfit : (DV.tup args).fit32 = true)
    (h : XWP P c (finX P fn fun r => r = res) (entryX fn.ntmps args)) : CT P f args res := by
  intro w vs S G hov hG hS
  cases hov with
  | tup _ _ _ sub hs hx hsub hdis =>
    have h0 := Rel.start fn w vs S G hG (by omega)
    have hfree : ∀ i, Free w S { β := fun _ _ => none, F := G, FP := fun _ _ _ _ => False, gen := fun _ => 0, F0 := G } (entry0 fn) w (sub i) := fun i b hb => by
      refine ⟨fun hg => ?_, fun k R hk => by simp [entry0] at hk, .inl (hsub i b hb), hS b (hsub i b hb)⟩
      rcases hg with hg | ⟨_, _, _, hg⟩
      · exact (hG b hg).2 (hsub i b hb)
      · exact hg.elim
    obtain ⟨γ1, q1, q2, ⟨q3, q4⟩, _⟩ := matT_spec args _ (entry0 fn) 1000000 (fun i => vs.getD i undef) sub h0 hx hfree hdis
    have hR : Rel w S γ1 (entry fn args) { tmps := vs ++ Array.replicate (fn.ntmps - vs.size) undef, defers := [] } w := by
      refine q2.know fun i => ?_
      by_cases hi : i < args.length
      · have := q4 i ((matT (entry0 fn) 1000000 args).2[i]'(by omega)) (List.getElem?_eq_getElem _)
        have e1 : (vs ++ Array.replicate (fn.ntmps - vs.size) undef).getD i undef = vs.getD i undef := by
          have : i < vs.size := by omega
          simp [Array.getD_eq_getD_getElem?, Array.getElem?_append, this]
        have e2 : (matT (entry0 fn) 1000000 args).2.getD i .dead = (matT (entry0 fn) 1000000 args).2[i]'(by omega) := by
          simp [List.getD, List.getElem?_eq_getElem (show i < (matT (entry0 fn) 1000000 args).2.length by omega)]
        simp only [e2]
        show AR γ1 w ((vs ++ Array.replicate (fn.ntmps - vs.size) undef).getD i undef) _
        rw [e1]; exact this
      · have e2 : (matT (entry0 fn) 1000000 args).2.getD i .dead = .dead := by
          simp [List.getD, List.getElem?_eq_none (show (matT (entry0 fn) 1000000 args).2.length ≤ i by omega)]
        simp only [e2]
        exact .dead _
    refine calls_of_wp hf hb (Code.wp_mono (fun e a' w' hp => ?_) (h w S γ1 _ w (by rw [entryX_S fn hn hfit]; exact hR)))
    obtain ⟨γ', x', g1, g2, hq⟩ := hp
    obtain ⟨hfin, hres⟩ := finX_spec hq
    generalize hst' : x'.S = st' at g2 hres
    have hF0 : γ'.F0 = G := g1.trans q1.F0
    have hfoot : ∀ ks b, γ'.foot st' ks b → (S b ∨ w.heap.size ≤ b) ∧ b < w'.heap.size ∧ ¬ γ'.F b := by
      rintro ks b ⟨k, R, _, hk, hc | ⟨i, j, hc⟩⟩
      · obtain ⟨p1, _, p3⟩ := g2.rootF k R b hk hc
        exact ⟨p3, g2.ltβ k R.tag b (by rw [g2.gen]; exact g2.tag k R hk) hc, p1⟩
      · obtain ⟨p1, p2⟩ := g2.fpF k i j b hc
        exact ⟨p2, g2.lt b (.inr ⟨k, i, j, hc⟩), p1⟩
    have hG' : ∀ ks b, γ'.F b → (G b ∨ S b ∨ w.heap.size ≤ b) ∧ b < w'.heap.size ∧ ¬ γ'.foot st' ks b := fun ks b hF => by
      refine ⟨?_, g2.lt b (.inl hF), fun hx => (hfoot ks b hx).2.2 hF⟩
      have := g2.fs b hF
      rw [hF0] at this
      exact this
    have key : ∃ v, (results fn a'.tmps).run P w' = .ok v w' ∧ ∃ ks, OV w' γ'.F v res (γ'.foot st' ks) := by
      rcases hres with ⟨x, ks, r1, r2, r3⟩ | ⟨xs, ds, ks, r1, r2, rfl, r4, r5⟩
      · obtain ⟨us, u1, u2, u3⟩ := resVs_spec g2 _ _ r1
        obtain ⟨u, rfl⟩ : ∃ u, us = [u] := by
          match us, u2 with
          | [u], _ => exact ⟨u, rfl⟩
        exact ⟨_, run_results u1, ks, outA_spec g2 (show AR γ' w' u x by simpa using u3 0 x rfl) r2 r3⟩
      · obtain ⟨us, u1, u2, u3⟩ := resVs_spec g2 _ _ r1
        obtain ⟨e1, sub', s1, s2, s3⟩ := outT_spec g2 xs ds ks (fun i => us.getD i undef) r4 r5 u3
        refine ⟨_, run_results u1, ks, ?_⟩
        have : packV us = .tuple us.toArray := by
          match us, u2 with
          | [u], h => simp at h; omega
          | [], _ => rfl
          | _ :: _ :: _, _ => rfl
        rw [this]
        exact .tup _ _ _ sub' (by simp; omega) (fun i d hd => by simpa [Array.getD_eq_getD_getElem?, List.getD] using s1 i d hd) s2 s3
    obtain ⟨v, v1, ks, v2⟩ := key
    have hpost : a'.defers = [] ∧ ∃ v, (results fn a'.tmps).run P w' = .ok v w' ∧ ∃ v' S', Ending.returned v = .returned v' ∧ OV w' (fun b => (G b ∨ S b ∨ w.heap.size ≤ b) ∧ b < w'.heap.size ∧ ¬ S' b) v' res S' ∧ (∀ b, S' b → (S b ∨ w.heap.size ≤ b) ∧ b < w'.heap.size) ∧ Env w S w' :=
      ⟨g2.defers, v, v1, v, γ'.foot st' ks, rfl, v2.mono (hG' ks) (.refl _ _) (.refl _ _), fun b hb => ⟨(hfoot ks b hb).1, (hfoot ks b hb).2.1⟩, g2.env⟩
    rcases hfin with rfl | rfl
    · exact hpost
    · exact hpost

theorem ct_of_evp {H : Hooks} (hH : CallsOK P H) (hm : P.follows .mixedOrders = true) {f : FuncId} {fn : Func} {c : Code} {args : List DV} {res : DV} (n : Nat) (hf : P.funcs[f]? = some fn) (hb : fn.body = some c) (hl : LoopsOK P H c) (hn : args.length ≤ fn.ntmps) (hfit : (DV.tup args).fit32 = true)
    (h : evp P H n c (finX P fn fun r => r = res) (entryX fn.ntmps args)) : CT P f args res :=
  ct_ofX hf hb hn hfit (evp_sound hH hm n c _ _ hl h)
end

section
open Go
set_option linter.unusedSimpArgs false
set_option linter.unusedVariables false

variable {P : Program}

/-! ### contracts, by the callee's number -/
abbrev Spec := List DV → (DV → Prop) → Prop
def SpecOK (P : Program) (f : FuncId) (s : Spec) : Prop := ∀ ds Q, s ds Q → Goes P f ∧ ∃ r, CT P f ds r ∧ (r.pureOwn = true ∨ (DV.tup ds).pureOwn = true) ∧ r.fit32 = true ∧ Q r
def lookS : List (FuncId × Spec) → FuncId → Spec
  | [], _ => fun _ _ => False
  | (k, s) :: l, f => match Nat.beq k f with | true => s | false => lookS l f
def hk (l : List (FuncId × Spec)) : Hooks := { and := band, or := bor, i2f := rI2F, f2i := rF2I, fok := rOK, call := lookS l, loop := fun _ => none }
inductive SpecsOK (P : Program) : List (FuncId × Spec) → Prop
  | nil : SpecsOK P []
  | cons {f s l} : SpecOK P f s → SpecsOK P l → SpecsOK P ((f, s) :: l)
theorem lookS_ok : ∀ {l : List (FuncId × Spec)}, SpecsOK P l → ∀ f, SpecOK P f (lookS l f)
  | [], _, f => fun ds Q h => h.elim
  | (k, s) :: l, .cons h1 h2, f => by
    unfold lookS
    split
    · rename_i hb
      have := beq_true hb; subst this
      exact h1
    · exact lookS_ok h2 f
theorem hk_ok {l : List (FuncId × Spec)} (h : SpecsOK P l) : CallsOK P (hk l) := ⟨fun _ _ => rfl, fun _ _ => rfl, ⟨fun _ => rfl, fun _ => rfl, fun _ => rfl⟩, fun f ds Q hq => lookS_ok h f ds Q hq⟩
theorem loops_none {l : List (FuncId × Spec)} {c : Code} : LoopsOK P (hk l) c := fun b hb s hs => by cases hs

abbrev I (n : Int) : DV := .c (.v (.int .i64 n))
abbrev B (b : Bool) : DV := .c (.v (.bool b))
abbrev vi (n : Int) : D := .v (.int .i64 n)
def bodyOf (fn : Func) : Code := fn.body.getD .skip

/-- What a function's text says of such data. -/
def ask (P : Program) (l : List (FuncId × Spec)) (fn : Func) (args : List DV) (K : DV → Prop) : Prop := evp P (hk l) 200 (bodyOf fn) (finX P fn K) (entryX fn.ntmps args)

theorem ct_ask {l : List (FuncId × Spec)} (hH : SpecsOK P l) (hm : P.follows .mixedOrders = true) {f : FuncId} {fn : Func} {args : List DV} {res : DV} (hf : P.funcs[f]? = some fn) (hb : fn.body.isSome = true) (hn : Nat.ble args.length fn.ntmps = true) (hfit : (DV.tup args).fit32 = true)
    (h : ask P l fn args fun r => r = res) : CT P f args res := by
  obtain ⟨c, hc⟩ := Option.isSome_iff_exists.1 hb
  have e : bodyOf fn = c := by simp [bodyOf, hc]
  unfold ask at h
  rw [e] at h
  exact ct_of_evp (hk_ok hH) hm 200 hf hc loops_none (Nat.le_of_ble_eq_true hn) hfit h

/-! ### loops -/
def keepT (ts : List Nat) : Nat → List A → List A
  | _, [] => []
  | i, y :: l => (match ts.any (Nat.beq i) with | true => y | false => .dead) :: keepT ts (i + 1) l
def keepS (ks : List Nat) : List (Nat × XRoot) → List (Nat × XRoot)
  | [] => []
  | (k, R) :: l => match ks.any (Nat.beq k) with | true => (k, R) :: keepS ks l | false => keepS ks l
/-- Only these slots and roots are known from here on. -/
def X.only (x : X) (ts ks : List Nat) : X := { x with tmps := keepT ts 0 x.tmps, store := keepS ks x.store }

theorem keepT_len (ts : List Nat) : ∀ (l : List A) (i : Nat), (keepT ts i l).length = l.length
  | [], _ => rfl
  | y :: l, i => by simp [keepT, keepT_len ts l]
theorem keepT_get (ts : List Nat) : ∀ (l : List A) (i j : Nat), (keepT ts i l).getD j .dead = l.getD j .dead ∨ (keepT ts i l).getD j .dead = .dead
  | [], i, j => .inl rfl
  | y :: l, i, 0 => by
    simp only [keepT, List.getD_cons_zero]
    split
    · exact .inl rfl
    · exact .inr rfl
  | y :: l, i, j + 1 => by simpa [keepT] using keepT_get ts l (i + 1) j
theorem keepS_look (ks : List Nat) : ∀ (l : List (Nat × XRoot)) (k : Nat), lookN (keepS ks l) k = lookN l k ∨ lookN (keepS ks l) k = none
  | [], k => .inl rfl
  | (k', R) :: l, k => by
    have ih := keepS_look ks l k
    simp only [keepS]
    split
    · simp only [lookN]
      split
      · exact .inl rfl
      · exact ih
    · rename_i hb
      simp only [lookN]
      cases e : Nat.beq k' k with
      | true =>
        have := beq_true e; subst this
        right
        have : ∀ l : List (Nat × XRoot), lookN (keepS ks l) k' = none := by
          intro l
          induction l with
          | nil => rfl
          | cons p l ih2 =>
            obtain ⟨k2, R2⟩ := p
            simp only [keepS]
            split
            · rename_i hb2
              simp only [lookN]
              cases e2 : Nat.beq k2 k' with
              | true => have := beq_true e2; subst this; rw [hb] at hb2; cases hb2
              | false => exact ih2
            · exact ih2
        exact this l
      | false => exact ih

theorem Rel.only {w0 : World} {own : Nat → Prop} {γ : Gh} {a : Act} {w : World} {x : X} (h : Rel w0 own γ x.S a w) (ts ks : List Nat) : Rel w0 own γ (x.only ts ks).S a w := by
  have hst : ∀ k R, (x.only ts ks).S.store k = some R → x.S.store k = some R := by
    intro k R hk
    simp only [X.S, X.only] at hk ⊢
    rcases keepS_look ks x.store k with e | e
    · rw [e] at hk; exact hk
    · rw [e] at hk; cases hk
  exact { env := h.env, size := by rw [h.size]; simp [X.S, X.only, keepT_len], defers := h.defers
          tmps := fun i => by
            have := h.tmps i
            simp only [X.S, X.only] at this ⊢
            rcases keepT_get ts x.tmps 0 i with e | e
            · rw [e]; exact this
            · rw [e]; exact .dead _
          gen := h.gen
          tag := fun k R hk => h.tag k R (hst k R hk), mem := fun k R hk => h.mem k R (hst k R hk)
          inj := fun k R k' R' b h1 h2 => h.inj k R k' R' b (hst k R h1) (hst k' R' h2)
          rootF := fun k R b h1 => h.rootF k R b (hst k R h1), fpF := h.fpF, fpD := h.fpD, fs := h.fs, lt := h.lt, ltβ := h.ltβ }

theorem xwp_only {c : Code} {Q : Exit → X → Prop} {x : X} (ts ks : List Nat) (h : XWP P c Q (x.only ts ks)) : XWP P c Q x := fun w0 own γ a w hR => h w0 own γ a w (hR.only ts ks)
theorem xwp_post {c : Code} {Q : Exit → X → Prop} {x : X} (ts ks : List Nat) (h : XWP P c (fun e y => Q e (y.only ts ks)) x) : XWP P c Q x := fun w0 own γ a w hR =>
  Code.wp_mono (fun e a' w' ⟨γ', x', h1, h2, h3⟩ => ⟨γ', _, h1, h2.only ts ks, h3⟩) (h w0 own γ a w hR)

abbrev LSum := (Exit → X → Prop) → X → Prop
def lookL : List (Nat × LSum) → Nat → Option LSum
  | [], _ => none
  | (k, s) :: l, f => match Nat.beq k f with | true => some s | false => lookL l f
def hkA (and or : Int → Int → Int) (l : List (FuncId × Spec)) (m : List (Nat × LSum)) : Hooks := { and := and, or := or, i2f := rI2F, f2i := rF2I, fok := rOK, call := lookS l, loop := lookL m }
abbrev hkl (l : List (FuncId × Spec)) (m : List (Nat × LSum)) : Hooks := hkA band bor l m
theorem hkl_ok {l : List (FuncId × Spec)} {m : List (Nat × LSum)} (h : SpecsOK P l) : CallsOK P (hkl l m) := ⟨fun _ _ => rfl, fun _ _ => rfl, ⟨fun _ => rfl, fun _ => rfl, fun _ => rfl⟩, fun f ds Q hq => lookS_ok h f ds Q hq⟩

def bodyL (fn : Func) (i : Nat) : Code := ((loopsOf (bodyOf fn))[i]?).getD .skip
/-- A state that is what its view says. -/
def seen (V : X → X) (N : X → Prop) (y : X) : Prop := y = V y ∧ N (V y)
theorem seen_out {V : X → X} {N : X → Prop} {y : X} (h : seen V N y) : N y := by rw [h.1]; exact h.2
/-- One round of a loop, its own loops unrolled. -/
def roundA (and or : Int → Int → Int) (P : Program) (l : List (FuncId × Spec)) (m : List (Nat × LSum)) (fn : Func) (i : Nat) (ts ks : List Nat) (V VE : X → X) (N : X → Prop) (E : Exit → X → Prop) (x : X) : Prop :=
  evp P (hkA and or l m) 200 (bodyL fn i) (fun e y => match e with | .normal => seen V N (y.only ts ks) | e => seen VE (E e) (y.only ts ks)) x
abbrev round (P : Program) (l : List (FuncId × Spec)) (m : List (Nat × LSum)) (fn : Func) (i : Nat) (ts ks : List Nat) (V VE : X → X) (N : X → Prop) (E : Exit → X → Prop) (x : X) : Prop :=
  roundA band bor P l m fn i ts ks V VE N E x
def slotI (y : X) (i : Nat) : Int := match y.tmps.getD i .dead with | .c (.d (.v (.int _ n))) => n | _ => 0
def slotB (y : X) (i : Nat) : Bool := match y.tmps.getD i .dead with | .c (.d (.v (.bool n))) => n | _ => false
def rowOf (y : X) (k : Nat) : List C := match lookN y.store k with | some (.bx _ _ row) => row | _ => []
def cellI (y : X) (k j : Nat) : Int := hdI ((rowOf y k).drop j)

theorem xwp_round {ι : Type} {l : List (FuncId × Spec)} {m : List (Nat × LSum)} {fn : Func} {i : Nat} {ts ks : List Nat} (hH : SpecsOK P l) (hm : P.follows .mixedOrders = true) (hl : LoopsOK P (hkl l m) (bodyL fn i)) (St : ι → X) (inv : ι → Prop) (μ : ι → Nat) {Q : Exit → X → Prop} {x : X} (i0 : ι)
    (V VE : X → X) (hr : ∀ p, inv p → round P l m fn i ts ks V VE (fun y => ∃ p', μ p' < μ p ∧ inv p' ∧ y = St p') (fun e y => Q e y) (St p)) (h0 : inv i0) (hx : x.only ts ks = St i0) : XWP P (.loop (bodyL fn i)) Q x := by
  refine xwp_only ts ks (xwp_post ts ks ?_)
  rw [hx]
  refine xwp_loop (ι := ι) (fun p y => inv p ∧ y.only ts ks = St p ∨ inv p ∧ y = St p) μ i0 (.inr ⟨h0, rfl⟩) fun p y hy => ?_
  have key : XWP P (bodyL fn i) (fun e y => match e with | .normal => ∃ p', μ p' < μ p ∧ (inv p' ∧ y.only ts ks = St p' ∨ inv p' ∧ y = St p') | e => Q e (y.only ts ks)) (St p) := by
    have hp : inv p := hy.elim And.left And.left
    refine xwp_mono (evp_sound (hkl_ok hH) hm 200 _ _ _ hl (hr p hp)) fun e y he => ?_
    cases e with
    | normal => obtain ⟨p', h1, h2, h3⟩ := seen_out he; exact ⟨p', h1, .inl ⟨h2, h3⟩⟩
    | _ => exact seen_out he
  rcases hy with ⟨_, h⟩ | ⟨_, rfl⟩
  · exact xwp_only ts ks (by rw [h]; exact key)
  · exact key

theorem xwp_roundH {ι : Type} {H : Hooks} {fn : Func} {i : Nat} {ts ks : List Nat} (hH : CallsOK P H) (hm : P.follows .mixedOrders = true) (hl : LoopsOK P H (bodyL fn i)) (St : ι → X) (inv : ι → Prop) (μ : ι → Nat) {Q : Exit → X → Prop} {x : X} (i0 : ι) (V VE : X → X)
    (hr : ∀ p, inv p → evp P H 200 (bodyL fn i) (fun e y => match e with | .normal => seen V (fun y => ∃ p', μ p' < μ p ∧ inv p' ∧ y = St p') (y.only ts ks) | e => seen VE (Q e) (y.only ts ks)) (St p)) (h0 : inv i0) (hx : x.only ts ks = St i0) : XWP P (.loop (bodyL fn i)) Q x := by
  refine xwp_only ts ks (xwp_post ts ks ?_)
  rw [hx]
  refine xwp_loop (ι := ι) (fun p y => inv p ∧ y.only ts ks = St p ∨ inv p ∧ y = St p) μ i0 (.inr ⟨h0, rfl⟩) fun p y hy => ?_
  have key : XWP P (bodyL fn i) (fun e y => match e with | .normal => ∃ p', μ p' < μ p ∧ (inv p' ∧ y.only ts ks = St p' ∨ inv p' ∧ y = St p') | e => Q e (y.only ts ks)) (St p) := by
    have hp : inv p := hy.elim And.left And.left
    refine xwp_mono (evp_sound hH hm 200 _ _ _ hl (hr p hp)) fun e y he => ?_
    cases e with
    | normal => obtain ⟨p', h1, h2, h3⟩ := seen_out he; exact ⟨p', h1, .inl ⟨h2, h3⟩⟩
    | _ => exact seen_out he
  rcases hy with ⟨_, h⟩ | ⟨_, rfl⟩
  · exact xwp_only ts ks (by rw [h]; exact key)
  · exact key

def askA (and or : Int → Int → Int) (P : Program) (l : List (FuncId × Spec)) (m : List (Nat × LSum)) (fn : Func) (args : List DV) (K : DV → Prop) : Prop := evp P (hkA and or l m) 200 (bodyOf fn) (finX P fn K) (entryX fn.ntmps args)
abbrev askL (P : Program) (l : List (FuncId × Spec)) (m : List (Nat × LSum)) (fn : Func) (args : List DV) (K : DV → Prop) : Prop := askA band bor P l m fn args K
theorem ct_askL {l : List (FuncId × Spec)} {m : List (Nat × LSum)} (hH : SpecsOK P l) (hm : P.follows .mixedOrders = true) {f : FuncId} {fn : Func} {args : List DV} {res : DV} (hL : LoopsOK P (hkl l m) (bodyOf fn)) (hf : P.funcs[f]? = some fn) (hb : fn.body.isSome = true) (hn : Nat.ble args.length fn.ntmps = true) (hfit : (DV.tup args).fit32 = true)
    (h : askL P l m fn args fun r => r = res) : CT P f args res := by
  obtain ⟨c, hc⟩ := Option.isSome_iff_exists.1 hb
  have e : bodyOf fn = c := by simp [bodyOf, hc]
  unfold askL askA at h
  rw [e] at h hL
  exact ct_of_evp (hkl_ok hH) hm 200 hf hc hL (Nat.le_of_ble_eq_true hn) hfit h
/-- With masks as an unknown function, and 'x & 3' value by value. -/
def askS (and : Int → Int → Int) (P : Program) (l : List (FuncId × Spec)) (m : List (Nat × LSum)) (fn : Func) (args : List DV) (K : DV → Prop) : Prop := evp P { hkA and bor l m with split := true } 200 (bodyOf fn) (finX P fn K) (entryX fn.ntmps args)
def roundS (and : Int → Int → Int) (P : Program) (l : List (FuncId × Spec)) (m : List (Nat × LSum)) (fn : Func) (i : Nat) (ts ks : List Nat) (V VE : X → X) (N : X → Prop) (E : Exit → X → Prop) (x : X) : Prop :=
  evp P { hkA and bor l m with split := true } 200 (bodyL fn i) (fun e y => match e with | .normal => seen V N (y.only ts ks) | e => seen VE (E e) (y.only ts ks)) x
theorem hkS_ok {l : List (FuncId × Spec)} {m : List (Nat × LSum)} (h : SpecsOK P l) : CallsOK P { hkA band bor l m with split := true } := ⟨fun _ _ => rfl, fun _ _ => rfl, ⟨fun _ => rfl, fun _ => rfl, fun _ => rfl⟩, fun f ds Q hq => lookS_ok h f ds Q hq⟩
theorem ct_askS {l : List (FuncId × Spec)} (hH : SpecsOK P l) (hm : P.follows .mixedOrders = true) {f : FuncId} {fn : Func} {args : List DV} {res : DV} (hL : loopsOf (bodyOf fn) = [] ∨ True) (hf : P.funcs[f]? = some fn) (hb : fn.body.isSome = true) (hn : Nat.ble args.length fn.ntmps = true) (hfit : (DV.tup args).fit32 = true)
    (h : askS band P l [] fn args fun r => r = res) : CT P f args res := by
  obtain ⟨c, hc⟩ := Option.isSome_iff_exists.1 hb
  have e : bodyOf fn = c := by simp [bodyOf, hc]
  unfold askS at h
  rw [e] at h
  exact ct_of_evp ⟨fun _ _ => rfl, fun _ _ => rfl, ⟨fun _ => rfl, fun _ => rfl, fun _ => rfl⟩, fun f ds Q hq => lookS_ok hH f ds Q hq⟩ hm 200 hf hc (fun b hb s hs => by cases hs) (Nat.le_of_ble_eq_true hn) hfit h
/-- With masks as an unknown function that answers so at these slots. -/
def askK (and : Int → Int → Int) (pk : List (Nat × Int)) (P : Program) (l : List (FuncId × Spec)) (fn : Func) (args : List DV) (K : DV → Prop) : Prop := evp P { hkA and bor l [] with pick := fun k => lookN pk k } 200 (bodyOf fn) (finX P fn K) (entryX fn.ntmps args)
theorem ct_askK (pk : List (Nat × Int)) {l : List (FuncId × Spec)} (hH : SpecsOK P l) (hm : P.follows .mixedOrders = true) {f : FuncId} {fn : Func} {args : List DV} {res : DV} (hf : P.funcs[f]? = some fn) (hb : fn.body.isSome = true) (hn : Nat.ble args.length fn.ntmps = true) (hfit : (DV.tup args).fit32 = true)
    (h : askK band pk P l fn args fun r => r = res) : CT P f args res := by
  obtain ⟨c, hc⟩ := Option.isSome_iff_exists.1 hb
  have e : bodyOf fn = c := by simp [bodyOf, hc]
  unfold askK at h
  rw [e] at h
  exact ct_of_evp ⟨fun _ _ => rfl, fun _ _ => rfl, ⟨fun _ => rfl, fun _ => rfl, fun _ => rfl⟩, fun f ds Q hq => lookS_ok hH f ds Q hq⟩ hm 200 hf hc (fun b hb s hs => by cases hs) (Nat.le_of_ble_eq_true hn) hfit h
/-- With floats as unknown functions. -/
def askF (i2f : Int → Nat) (f2i : Nat → Int) (fok : Nat → Bool) (P : Program) (l : List (FuncId × Spec)) (fn : Func) (args : List DV) (K : DV → Prop) : Prop :=
  evp P { and := band, or := bor, i2f := i2f, f2i := f2i, fok := fok, call := lookS l, loop := fun _ => none } 200 (bodyOf fn) (finX P fn K) (entryX fn.ntmps args)
/-- The loops of a function are these, one by one. -/
theorem loops_ok {H : Hooks} {fn : Func} (n : Nat) (hn : (loopsOf (bodyOf fn)).length = n) (h : ∀ i, i < n → ∀ s, H.loop (loopId (bodyL fn i)) = some s → ∀ Q x, s Q x → XWP P (.loop (bodyL fn i)) Q x) : LoopsOK P H (bodyOf fn) := fun b hb s hs Q x hq => by
  obtain ⟨i, hi⟩ := List.getElem?_of_mem hb
  have hin : i < n := by rw [← hn]; exact (List.getElem?_eq_some_iff.1 hi).1
  have e : bodyL fn i = b := by simp [bodyL, hi]
  have := h i hin s (by rw [e]; exact hs) Q x hq
  rw [e] at this; exact this
theorem loops_nil {H : Hooks} {c : Code} (h : loopsOf c = []) : LoopsOK P H c := fun b hb => by rw [h] at hb; cases hb
end

section
open Go
set_option linter.unusedSimpArgs false
set_option linter.unusedVariables false

/-! ### the capacity of an argument, named -/
variable {P : Program}
def X.setT (x : X) (t : Nat) (y : A) : X := { x with tmps := x.tmps.set t y }
theorem setT_S (x : X) (t : Nat) (y : A) (h : t < x.tmps.length) : (x.setT t y).S = { x.S with tmps := fun i => if i = t then y else x.S.tmps i } := by
  unfold X.setT X.S
  simp only [List.length_set]
  congr 1
  funext i
  rw [getD_set _ _ _ _ h]
  by_cases e : i = t
  · subst e; simp
  · have : ¬ (t = i) := fun e' => e e'.symm
    simp [e, this]
theorem xwp_rx {c : Code} {Q : Exit → X → Prop} {x : X} {k g wd lo len kn : Nat} (t : Nat) (ht : t < x.tmps.length) (hx : x.tmps.getD t .dead = .c (.rs k g wd lo len kn))
    (h : ∀ cap, len ≤ cap → kn ≤ cap → XWP P c Q (x.setT t (.rx k g wd lo len cap))) (h0 : lo = 0 → len = 0 → kn = 0 → XWP P c Q x) : XWP P c Q x := fun w0 own γ a w hR => by
  have hv := hR.tmps t
  have e : x.S.tmps t = .c (.rs k g wd lo len kn) := hx
  rw [e] at hv
  rcases hv.rs_inv with ⟨cap, b, E, n, ev, hβ, hg, hsh, hcap, hlc, hkn⟩ | ⟨_, e1, e2, e3, _⟩
  · refine h cap hlc hkn w0 own γ a w ?_
    rw [setT_S x t _ ht]
    refine hR.know fun i => ?_
    by_cases hi : i = t
    · subst hi
      simp only [if_true]
      rw [ev]
      exact .rx k g wd lo len cap b E n hg hβ hsh hcap hlc
    · simp only [hi, if_false]; exact hR.tmps i
  · exact h0 e1 e2 e3 w0 own γ a w hR

/-! ### what is known behind an own slice may be forgotten -/
theorem OD.less {w : World} {G : Nat → Prop} {v : Value} {z : Nat} {rows sp : List (List D)} {S : Nat → Prop} (h : OD w G v (.s 1 z rows sp) S) : OD w G v (.s 1 z rows []) S := by
  cases h with
  | r _ _ _ hne _ => exact (hne _ _ _ rfl).elim
  | n a _ _ => exact .n a z S
  | s _ _ b cap _ arr E _ sub hb ha hr hl hc hn hsub hdis =>
    exact .s rows [] b cap z arr E S sub hb ha (fun r hm => hr r (by simp at hm; simp [hm])) (by simp; omega) hc (fun i j r d h1 h2 => hn i j r d (by
      rw [List.append_nil] at h1
      rw [List.getElem?_append_left (List.getElem?_eq_some_iff.1 h1).1]; exact h1) h2) hsub hdis
theorem CT.less {f : FuncId} {z : Nat} {rows sp : List (List D)} {ds : List DV} {res : DV} (h : CT P f (.c (.s 1 z rows []) :: ds) res) : CT P f (.c (.s 1 z rows sp) :: ds) res := by
  intro w vs S G hov hG hS
  refine h w vs S G ?_ hG hS
  cases hov with
  | tup _ _ _ sub h1 h2 h3 h4 =>
    refine .tup vs _ S sub (by simpa using h1) (fun i d hd => ?_) h3 h4
    cases i with
    | zero =>
      simp at hd; subst hd
      have := h2 0 _ rfl
      generalize vs.getD 0 undef = u at this ⊢
      cases this with
      | c _ _ _ hx => exact .c _ _ _ hx.less
    | succ i => exact h2 (i + 1) d (by simpa using hd)
end

section
open Go
set_option linter.unusedSimpArgs false
set_option linter.unusedVariables false

/-! ### what the texts on single functions share -/
def mkT (n : Nat) (al : List (Nat × A)) : List A := (List.range n).map fun i => (lookN al i).getD .dead
abbrev ai (n : Int) : A := .c (.d (.v (.int .i64 n)))
abbrev ci (n : Int) : C := .d (.v (.int .i64 n))
abbrev ab (b : Bool) : A := .c (.d (.v (.bool b)))
abbrev aS (z : Nat) (R sp : List (List D)) : A := .c (.d (.s 0 z R sp))
abbrev dS (z : Nat) (R sp : List (List D)) : DV := .c (.s 0 z R sp)
abbrev oS (z : Nat) (R sp : List (List D)) : DV := .c (.s 1 z R sp)
/-- A slice of one's own, all of its row. -/
abbrev aO (z k m : Nat) : A := .c (.rs k 0 z 0 m m)
def slotL (y : X) (i : Nat) : Nat := match y.tmps.getD i .dead with | .c (.rs _ _ _ _ len _) => len | _ => 0
def rowsL (y : X) (k : Nat) : List (List D) := match lookN y.store k with | some (.sl _ _ rows) => rows | _ => []
def withI (y : X) (i : Nat) (K : Int → Prop) : Prop := match y.tmps.getD i .dead with | .c (.d (.v (.int .i64 n))) => K n | _ => False
theorem withI_spec {y : X} {i : Nat} {K : Int → Prop} (h : withI y i K) : ∃ n, K n := by
  unfold withI at h
  split at h
  · exact ⟨_, h⟩
  · exact h.elim
theorem loops1 {P : Program} {l : List (FuncId × Spec)} {fn : Func} {k : Nat} {s : LSum} (hn : (loopsOf (bodyOf fn)).length = 1) (hk : loopId (bodyL fn 0) = k) (h : ∀ Q x, s Q x → XWP P (.loop (bodyL fn 0)) Q x) : LoopsOK P (hkl l [(k, s)]) (bodyOf fn) :=
  loops_ok 1 hn fun i hi s' hs Q x hq => by
    match i, hi with
    | 0, _ =>
      rw [hk] at hs
      have hs' : some s = some s' := by simpa [lookL, hkl, hkA, beq_self] using hs
      cases hs'
      exact h Q x hq

theorem wrap_id {x : Int} (h1 : -9223372036854775808 ≤ x) (h2 : x ≤ 9223372036854775807) : IntKind.wrap .i64 x = x := by
  rw [IntKind.wrap_i64]; omega
theorem wrap_nat {i n : Nat} (h : i + n ≤ 9223372036854775807) : IntKind.wrap .i64 ((i : Int) + (n : Int)) = ((i + n : Nat) : Int) := by
  rw [wrap_id (by omega) (by omega)]; omega
theorem wrap_u64 {n : Int} (h0 : 0 ≤ n) (h1 : n < 18446744073709551616) : IntKind.wrap .u64 n = n := by
  simp [IntKind.wrap, IntKind.signed, IntKind.bits]; omega
theorem mask_i64 (m : Int) (j : Nat) (hj : j < 63) (hm : (BitVec.ofInt 64 m).toNat = 2 ^ j - 1) (n : Int) : band n m = n % 2 ^ j := by
  have hp : 2 ^ j ≤ 2 ^ 62 := Nat.pow_le_pow_right (by decide) (by omega)
  have hd : (2 ^ j : Nat) ∣ 2 ^ 64 := Nat.pow_dvd_pow 2 (by omega)
  have key : (BitVec.ofInt 64 n &&& BitVec.ofInt 64 m).toNat = (n % ((2 ^ 64 : Nat) : Int)).toNat % 2 ^ j := by
    rw [BitVec.toNat_and, BitVec.toNat_ofInt, hm, Nat.and_two_pow_sub_one_eq_mod]
  show IntKind.i64.wrap ((BitVec.ofInt 64 n &&& BitVec.ofInt 64 m).toNat : Nat) = n % 2 ^ j
  have hpos : (0 : Int) < 2 ^ j := by exact_mod_cast Nat.two_pow_pos j
  have h2 : ((n % ((2 ^ 64 : Nat) : Int)).toNat % 2 ^ j : Nat) = (n % (2 ^ j : Int)).toNat := by
    apply Int.natCast_inj.mp
    have h0 : (0 : Int) ≤ n % ((2 ^ 64 : Nat) : Int) := Int.emod_nonneg _ (by decide)
    have h0' : (0 : Int) ≤ n % (2 ^ j : Int) := Int.emod_nonneg _ (by omega)
    rw [Int.toNat_of_nonneg h0', Int.natCast_emod, Int.toNat_of_nonneg h0]
    have : ((2 ^ j : Nat) : Int) = (2 : Int) ^ j := by exact_mod_cast rfl
    rw [this, Int.emod_emod_of_dvd _ (by rw [← this]; exact_mod_cast hd)]
  rw [key, h2, IntKind.wrap_i64]
  have h3 := Int.emod_nonneg n (by omega : (2 : Int) ^ j ≠ 0)
  have h4 := Int.emod_lt_of_pos n hpos
  have h5 : (2 : Int) ^ j ≤ 2 ^ 62 := by exact_mod_cast hp
  rw [Int.toNat_of_nonneg h3]
  omega
theorem mask1 (n : Int) : band n 1 = n % 2 := mask_i64 1 1 (by decide) (by decide) n
theorem mask2 (n : Int) : band n 3 = n % 4 := mask_i64 3 2 (by decide) (by decide) n
theorem mask4 (n : Int) : band n 15 = n % 16 := mask_i64 15 4 (by decide) (by decide) n
theorem mask6 (n : Int) : band n 63 = n % 64 := mask_i64 63 6 (by decide) (by decide) n
theorem mask7 (n : Int) : band n 127 = n % 128 := mask_i64 127 7 (by decide) (by decide) n
theorem mask8 (n : Int) : band n 255 = n % 256 := mask_i64 255 8 (by decide) (by decide) n
theorem mask10 (n : Int) : band n 1023 = n % 1024 := mask_i64 1023 10 (by decide) (by decide) n
/-- A place in a row of n, of any number. -/
def atQ (a : Int) (n : Nat) : Int := IntKind.wrap .i64 (Int.tmod (IntKind.wrap .u64 a) (IntKind.wrap .u64 (n : Int)))
theorem atQ_ok (a : Int) {n : Nat} (h0 : 0 < n) (h : n ≤ 9223372036854775807) : ∃ q : Nat, q < n ∧ atQ a n = q := by
  unfold atQ
  have hu : 0 ≤ IntKind.wrap .u64 a := by simp [IntKind.wrap, IntKind.signed, IntKind.bits]; omega
  rw [wrap_u64 (n := (n : Int)) (by omega) (by omega)]
  generalize IntKind.wrap .u64 a = u at *
  have h1 : 0 ≤ Int.tmod u n := Int.tmod_nonneg _ hu
  have h2 : Int.tmod u n < n := Int.tmod_lt_of_pos _ (by omega)
  refine ⟨(Int.tmod u n).toNat, by omega, ?_⟩
  rw [wrap_id (by omega) (by omega)]; omega
theorem atQ_def (a : Int) (n : Nat) : IntKind.wrap .i64 (Int.tmod (IntKind.wrap .u64 a) (IntKind.wrap .u64 ((n : Nat) : Int))) = atQ a n := rfl

/-! ### rows of whole numbers -/
def dI : D → Int
  | .v (.int _ n) => n
  | _ => 0
abbrev vI (n : Int) : D := .v (.int .i64 n)
def mZ (l : List (List Int)) : List (List D) := l.map fun r => r.map vI
def toZ (R : List (List D)) : List (List Int) := R.map fun r => r.map dI
def isI (d : D) : Bool := match d with | .v (.int .i64 _) => true | _ => false
def okZ (z : Nat) (R : List (List D)) : Bool := R.all (fun r => Nat.beq r.length z && r.all isI) && Nat.ble R.length 9223372036854775807
/-- All rows are as wide as this. -/
def wid (z : Nat) (l : List (List Int)) : Prop := ∀ r ∈ l, r.length = z
theorem isI_spec {d : D} (h : isI d = true) : d = vI (dI d) := by
  unfold isI at h
  split at h
  · rfl
  · cases h
theorem okZ_spec {z : Nat} {R : List (List D)} (h : okZ z R = true) : R = mZ (toZ R) ∧ wid z (toZ R) ∧ R.length ≤ 9223372036854775807 := by
  simp only [okZ, Bool.and_eq_true, List.all_eq_true] at h
  obtain ⟨h1, h2⟩ := h
  refine ⟨?_, fun r hr => ?_, Nat.le_of_ble_eq_true h2⟩
  · simp only [mZ, toZ, List.map_map]
    refine (List.map_id R).symm.trans (List.map_congr_left fun r hr => ?_)
    simp only [Function.comp, List.map_map, id]
    refine (List.map_id r).symm.trans (List.map_congr_left fun d hd => ?_)
    exact isI_spec ((h1 r hr).2 d hd)
  · obtain ⟨r0, h0, rfl⟩ := List.mem_map.1 hr
    rw [List.length_map]; exact beq_true (h1 r0 h0).1
theorem toZ_mZ (l : List (List Int)) : toZ (mZ l) = l := by
  simp only [mZ, toZ, List.map_map]
  refine (List.map_congr_left fun r hr => ?_).trans (List.map_id l)
  simp only [Function.comp, List.map_map, id]
  exact (List.map_congr_left fun n _ => rfl).trans (List.map_id r)
theorem mZ_len (l : List (List Int)) : (mZ l).length = l.length := by simp [mZ]
theorem toZ_len (R : List (List D)) : (toZ R).length = R.length := by simp [toZ]
theorem okZ_mZ {z : Nat} {l : List (List Int)} (h : wid z l) (hl : l.length ≤ 9223372036854775807) : okZ z (mZ l) = true := by
  simp only [okZ, Bool.and_eq_true, List.all_eq_true]
  refine ⟨fun r hr => ?_, Nat.ble_eq_true_of_le (by rw [mZ_len]; exact hl)⟩
  obtain ⟨r0, h0, rfl⟩ := List.mem_map.1 hr
  refine ⟨by rw [List.length_map, h r0 h0]; exact beq_self z, fun d hd => ?_⟩
  obtain ⟨n, _, rfl⟩ := List.mem_map.1 hd
  rfl
theorem allV_mZ (l : List (List Int)) : allV (mZ l) = true := by
  simp only [allV, mZ, List.all_eq_true]
  intro r hr d hd
  obtain ⟨r0, _, rfl⟩ := List.mem_map.1 hr
  obtain ⟨n, _, rfl⟩ := List.mem_map.1 hd
  rfl
theorem keeps_mZ (l : List (List Int)) : ((mZ l).all fun r => r.all D.keeps) = true := by
  simp only [mZ, List.all_eq_true]
  intro r hr d hd
  obtain ⟨r0, _, rfl⟩ := List.mem_map.1 hr
  obtain ⟨n, _, rfl⟩ := List.mem_map.1 hd
  rfl
theorem ownLL_mZ (l : List (List Int)) : ownLL (mZ l) = true := by
  have hL : ∀ r : List Int, ownL (r.map vI) = true := fun r => by
    induction r with
    | nil => rfl
    | cons d r ih => simp only [List.map_cons, ownL, Bool.and_eq_true]; exact ⟨rfl, ih⟩
  induction l with
  | nil => rfl
  | cons r l ih => simp only [mZ, List.map_cons, ownLL, Bool.and_eq_true] at ih ⊢; exact ⟨hL r, ih⟩
theorem mZ_getD (l : List (List Int)) (i : Nat) : (mZ l).getD i [] = (l.getD i []).map vI := by
  simp only [mZ, List.getD_eq_getElem?_getD, List.getElem?_map]
  cases l[i]? <;> rfl
theorem hdJ_vI (r : List Int) (j : Nat) : hdJ ((r.map vI).drop j) = r.getD j 0 := by
  rw [← List.map_drop, List.getD_eq_getElem?_getD]
  induction r generalizing j with
  | nil => simp [hdJ]
  | cons n r ih => cases j with
    | zero => rfl
    | succ j => simpa using ih j
theorem hdJ_mZ (l : List (List Int)) (i j : Nat) : hdJ (((mZ l).getD i []).drop j) = (l.getD i []).getD j 0 := by rw [mZ_getD, hdJ_vI]
theorem hdJ_mZ0 (l : List (List Int)) (i : Nat) : hdJ ((mZ l).getD i []) = (l.getD i []).getD 0 0 := hdJ_mZ l i 0
theorem isJ_vI : ∀ (n : Nat) (r : List Int), n ≤ r.length → isJ (List.replicate n IntKind.i64) (r.map vI) = true
  | 0, _, _ => rfl
  | n + 1, [], h => by simp at h
  | n + 1, x :: r, h => by
    simp only [List.replicate_succ, List.map_cons, isJ, decide_true, Bool.true_and]
    exact isJ_vI n r (by simpa using h)
theorem wid_get {z : Nat} {l : List (List Int)} (h : wid z l) {i : Nat} (hi : i < l.length) : (l.getD i []).length = z := by
  have : l.getD i [] = l[i] := by simp [List.getD_eq_getElem?_getD, hi]
  rw [this]; exact h _ (List.getElem_mem hi)
theorem isJ_mZ {z : Nat} {l : List (List Int)} (h : wid z l) {i j n : Nat} (hi : i < l.length) (hj : j + n ≤ z) : isJ (List.replicate n IntKind.i64) (((mZ l).getD i []).drop j) = true := by
  rw [mZ_getD, ← List.map_drop]
  exact isJ_vI n _ (by rw [List.length_drop, wid_get h hi]; omega)
theorem isJ_mZ1 {z : Nat} {l : List (List Int)} (h : wid z l) {i j : Nat} (hi : i < l.length) (hj : j + 1 ≤ z) : isJ [IntKind.i64] (((mZ l).getD i []).drop j) = true := isJ_mZ (n := 1) h hi hj
theorem mZ_append (l l' : List (List Int)) : mZ l ++ mZ l' = mZ (l ++ l') := by simp [mZ]
theorem mZ_take (l : List (List Int)) (n : Nat) : (mZ l).take n = mZ (l.take n) := by simp [mZ, List.map_take]
theorem mZ_drop (l : List (List Int)) (n : Nat) : (mZ l).drop n = mZ (l.drop n) := by simp [mZ, List.map_drop]
theorem mZ_cut (l : List (List Int)) (a m : Nat) : cut (mZ l) a m = mZ ((l.drop a).take m) := by simp [cut, mZ, List.map_take, List.map_drop]
theorem cut_all {W : List (List D)} {n : Nat} (h : W.length = n) : cut W 0 n = W := by subst h; simp [cut]
theorem cut_app {R sp : List (List D)} : cut (R ++ sp) 0 R.length = R := by simp [cut]
theorem cut_app2 {R sp : List (List D)} : cut (R ++ sp) R.length sp.length = sp := by simp [cut]
theorem wid_append {z : Nat} {l l' : List (List Int)} (h : wid z l) (h' : wid z l') : wid z (l ++ l') := fun r hr => (List.mem_append.1 hr).elim (h r) (h' r)
theorem wid_take {z : Nat} {l : List (List Int)} (h : wid z l) (n : Nat) : wid z (l.take n) := fun r hr => h r (List.mem_of_mem_take hr)
theorem wid_drop {z : Nat} {l : List (List Int)} (h : wid z l) (n : Nat) : wid z (l.drop n) := fun r hr => h r (List.mem_of_mem_drop hr)
theorem mZ_inj {l l' : List (List Int)} (h : mZ l = mZ l') : l = l' := by rw [← toZ_mZ l, h, toZ_mZ]
theorem take_s {α : Type} {l : List α} {i : Nat} (d : α) (hi : i < l.length) : l.take (i + 1) = l.take i ++ [l.getD i d] := by
  rw [List.take_add_one]
  simp [List.getD_eq_getElem?_getD, hi]
theorem take_getD {α : Type} {B : List α} {i j : Nat} (d : α) (h : j < i) : (B.take i).getD j d = B.getD j d := by
  simp [List.getD_eq_getElem?_getD, List.getElem?_take, h]
theorem any_take {α : Type} {l : List α} {i : Nat} {p : α → Bool} (d : α) (hi : i < l.length) : (l.take (i + 1)).any p = ((l.take i).any p || p (l.getD i d)) := by
  rw [take_s d hi]; simp
theorem all_take {α : Type} {l : List α} {i : Nat} {p : α → Bool} (d : α) (hi : i < l.length) : (l.take (i + 1)).all p = ((l.take i).all p && p (l.getD i d)) := by
  rw [take_s d hi]; simp
theorem any_get {α : Type} {l : List α} {i : Nat} {p : α → Bool} (d : α) (hi : i < l.length) (h : p (l.getD i d) = true) : l.any p = true := by
  simp only [List.any_eq_true]
  exact ⟨l.getD i d, by simp [List.getD_eq_getElem?_getD, hi], h⟩
theorem all_get {α : Type} {l : List α} {i : Nat} {p : α → Bool} (d : α) (hi : i < l.length) (h : p (l.getD i d) = false) : l.all p = false := by
  rw [Bool.eq_false_iff]
  intro hc
  have := List.all_eq_true.1 hc (l.getD i d) (by simp [List.getD_eq_getElem?_getD, hi])
  rw [h] at this; cases this
/-- One more at the end of a growing row. -/
theorem mZ_push {B : List (List Int)} {i : Nat} (hi : i < B.length) {r : List D} (hr : r = (B.getD i []).map vI) : List.take i (mZ (B.take i)) ++ [r] = mZ (B.take (i + 1)) := by
  subst hr
  rw [take_s [] hi]
  have : (mZ (B.take i)).length = i := by rw [mZ_len, List.length_take]; omega
  rw [List.take_of_length_le (by omega)]
  simp [mZ]
theorem eqI_beq : ∀ (a b : List Int), a.length = b.length → eqI a b = decide (a = b)
  | [], [], _ => rfl
  | [], _ :: _, h => by simp at h
  | _ :: _, [], h => by simp at h
  | x :: a, y :: b, h => by
    have ih := eqI_beq a b (by simpa using h)
    simp only [eqI, ih]
    by_cases h1 : x = y
    · subst h1; simp
    · simp [h1]
theorem row1 {r : List Int} (h : r.length = 1) : [r.getD 0 0] = r := by match r, h with | [a], _ => rfl
theorem row2 {r : List Int} (h : r.length = 2) : [r.getD 0 0, r.getD 1 0] = r := by match r, h with | [a, b], _ => rfl
theorem row3 {r : List Int} (h : r.length = 3) : [r.getD 0 0, r.getD 1 0, r.getD 2 0] = r := by match r, h with | [a, b, c], _ => rfl
theorem row4 {r : List Int} (h : r.length = 4) : [r.getD 0 0, r.getD 1 0, r.getD 2 0, r.getD 3 0] = r := by match r, h with | [a, b, c, d], _ => rfl
theorem splice_vI (r : List Int) (j : Nat) (v : Int) (h : j < r.length) : splice (r.map vI) j [vI v] = (r.set j v).map vI := by
  rw [List.set_eq_take_append_cons_drop, if_pos h]
  simp [splice, List.map_take, List.map_drop]
theorem mZ_set (l : List (List Int)) (i : Nat) (r : List Int) : (mZ l).set i (r.map vI) = mZ (l.set i r) := by simp [mZ, List.map_set]
theorem wid_set {z : Nat} {l : List (List Int)} (h : wid z l) {i : Nat} {r : List Int} (hr : r.length = z) : wid z (l.set i r) := fun x hx => by
  rcases List.mem_or_eq_of_mem_set hx with hx | hx
  · exact h x hx
  · rw [hx]; exact hr
theorem getD_ext {l l' : List (List Int)} (hl : l.length = l'.length) (h : ∀ j, j < l.length → l.getD j [] = l'.getD j []) : l = l' :=
  List.ext_getElem hl fun j h1 h2 => by
    have := h j h1
    simpa [List.getD_eq_getElem?_getD, h1, h2] using this
theorem tail_drop' {α : Type} (l : List α) (i : Nat) : (l.drop i).tail = l.drop (i + 1) := List.tail_drop
theorem keeps_of {R : List (List D)} (h : allV R = true) : (R.all fun r => r.all D.keeps) = true := by
  unfold allV at h
  simp only [List.all_eq_true] at h ⊢
  intro r hr d hd
  have := h r hr d hd
  cases d <;> simp [D.isV] at this
  rfl
theorem allV_app {R R' : List (List D)} : allV (R ++ R') = (allV R && allV R') := by simp [allV]
theorem ownLL_of {R : List (List D)} (h : allV R = true) : ownLL R = true := by
  have hL : ∀ r : List D, r.all D.isV = true → ownL r = true := fun r => by
    induction r with
    | nil => intro _; rfl
    | cons d r ih =>
      intro hr
      simp only [List.all_cons, Bool.and_eq_true] at hr
      simp only [ownL, Bool.and_eq_true]
      refine ⟨?_, ih hr.2⟩
      cases d <;> simp [D.isV] at hr
      rfl
  induction R with
  | nil => rfl
  | cons r R ih =>
    simp only [allV, List.all_cons, Bool.and_eq_true] at h
    simp only [ownLL, Bool.and_eq_true]
    exact ⟨hL r h.1, ih h.2⟩
theorem allV_ok {z : Nat} {R : List (List D)} (h : okZ z R = true) : allV R = true := by
  obtain ⟨e, _, _⟩ := okZ_spec h
  rw [e]; exact allV_mZ _
theorem tail1 {α : Type} (x : List α) : x.tail = x.drop 1 := by cases x <;> rfl
theorem tail2 {α : Type} (x : List α) : x.tail.tail = x.drop 2 := by rcases x with _ | ⟨a, _ | ⟨b, x⟩⟩ <;> rfl
theorem tail3 {α : Type} (x : List α) : x.tail.tail.tail = x.drop 3 := by rcases x with _ | ⟨a, _ | ⟨b, _ | ⟨c, x⟩⟩⟩ <;> rfl
theorem hdJ_mZt1 (l : List (List Int)) (i : Nat) : hdJ ((mZ l).getD i []).tail = (l.getD i []).getD 1 0 := by rw [tail1, hdJ_mZ]
theorem hdJ_mZt2 (l : List (List Int)) (i : Nat) : hdJ ((mZ l).getD i []).tail.tail = (l.getD i []).getD 2 0 := by rw [tail2, hdJ_mZ]
theorem hdJ_mZt3 (l : List (List Int)) (i : Nat) : hdJ ((mZ l).getD i []).tail.tail.tail = (l.getD i []).getD 3 0 := by rw [tail3, hdJ_mZ]
end

section
open Go Go.ChangeShapes Go.WideShapes Go.ChangeAt Go.RowKit
open Go.ChangeMaps (open_string shut_string)
set_option linter.unusedSimpArgs false
set_option linter.unusedVariables false

variable {P : Program}

/-! ### from a contract to a row -/
theorem below_trodAll {H : Type} {enc : TypeId × Value → H} {P : Program} (hl : laidOutB P = true) {W W' : World} (hb : Below W.heap.size W W') : ∀ {ts : List TypeId} {vs : List Value} {ds : List (DataW H)} {ps : List MemPlace},
    (∀ t ∈ ts, P.readableRec t = true ∧ t < P.types.size) → DataW.TrodAll enc P W 0 (fun _ => true) true ts vs ds ps → (∀ x ∈ ps, x.block < W.heap.size) → DataW.TrodAll enc P W' 0 (fun b => decide (b < W.heap.size)) true ts vs ds ps
  | [], [], [], _, _, h, _ => h
  | t :: ts, v :: vs, d :: ds, _, ht, ⟨p, q, h1, h2, e⟩, hlt => by
    subst e
    exact ⟨p, q, Below.trod hl (ht t (by simp)).1 (ht t (by simp)).2 h1 hb (fun x hx => hlt x (List.mem_append_left _ hx)), below_trodAll hl hb (fun u hu => ht u (List.mem_cons_of_mem _ hu)) h2 (fun x hx => hlt x (List.mem_append_right _ hx)), rfl⟩

theorem calls_true {f : FuncId} {args : List DV} (h : CT P f args (B true)) {w : World} {vs : Array Value} (hov : OV w (· < w.heap.size) (.tuple vs) (.tup args) fun _ => False) : Calls P f vs w fun e w' => e = .returned (.bool true) ∧ Below w.heap.size w w' :=
  (h w vs (fun _ => False) (fun b => b < w.heap.size) hov (fun b hb => ⟨hb, fun h => h⟩) fun _ h => h.elim).mono fun e w' ⟨v, S', he, hv, _, henv⟩ => by
    subst he
    refine ⟨?_, ⟨henv.os, henv.tape, henv.output, henv.size, fun k hk => henv.block k hk fun h => h⟩⟩
    cases hv with
    | c _ _ _ ho => cases ho with
      | r _ _ _ _ hd => cases hd with
        | v _ _ => rfl

theorem ov_args {w : World} {vs : List Value} {ds : List DV} (hl : vs.length = ds.length) (h : ∀ i, i < ds.length → OV w (· < w.heap.size) (vs.getD i undef) (ds.getD i default) fun _ => False) : OV w (· < w.heap.size) (.tuple vs.toArray) (.tup ds) fun _ => False :=
  ov_tuple hl fun i v d hv hd => by
    have hi : i < ds.length := (List.getElem?_eq_some_iff.1 hd).1
    have := h i hi
    simpa [List.getD_eq_getElem?_getD, hv, hd] using this
theorem len1 (l : List Int) (h : l.length = 1) : ∃ a0, l = [a0] := by
  match l, h with | [a0], _ => exact ⟨a0, rfl⟩
theorem len2 (l : List Int) (h : l.length = 2) : ∃ a0 a1, l = [a0, a1] := by
  match l, h with | [a0, a1], _ => exact ⟨a0, a1, rfl⟩
theorem len3 (l : List Int) (h : l.length = 3) : ∃ a0 a1 a2, l = [a0, a1, a2] := by
  match l, h with | [a0, a1, a2], _ => exact ⟨a0, a1, a2, rfl⟩
theorem len4 (l : List Int) (h : l.length = 4) : ∃ a0 a1 a2 a3, l = [a0, a1, a2, a3] := by
  match l, h with | [a0, a1, a2, a3], _ => exact ⟨a0, a1, a2, a3, rfl⟩
theorem len5 (l : List Int) (h : l.length = 5) : ∃ a0 a1 a2 a3 a4, l = [a0, a1, a2, a3, a4] := by
  match l, h with | [a0, a1, a2, a3, a4], _ => exact ⟨a0, a1, a2, a3, a4, rfl⟩
theorem len6 (l : List Int) (h : l.length = 6) : ∃ a0 a1 a2 a3 a4 a5, l = [a0, a1, a2, a3, a4, a5] := by
  match l, h with | [a0, a1, a2, a3, a4, a5], _ => exact ⟨a0, a1, a2, a3, a4, a5, rfl⟩
theorem len7 (l : List Int) (h : l.length = 7) : ∃ a0 a1 a2 a3 a4 a5 a6, l = [a0, a1, a2, a3, a4, a5, a6] := by
  match l, h with | [a0, a1, a2, a3, a4, a5, a6], _ => exact ⟨a0, a1, a2, a3, a4, a5, a6, rfl⟩
theorem len8 (l : List Int) (h : l.length = 8) : ∃ a0 a1 a2 a3 a4 a5 a6 a7, l = [a0, a1, a2, a3, a4, a5, a6, a7] := by
  match l, h with | [a0, a1, a2, a3, a4, a5, a6, a7], _ => exact ⟨a0, a1, a2, a3, a4, a5, a6, a7, rfl⟩
def OVL (w : World) : List Value → List DV → Prop
  | [], [] => True
  | v :: vs, d :: ds => OV w (· < w.heap.size) v d (fun _ => False) ∧ OVL w vs ds
  | _, _ => False
theorem ovl_spec {w : World} : ∀ {vs : List Value} {ds : List DV}, OVL w vs ds → vs.length = ds.length ∧ ∀ (i : Nat) v d, vs[i]? = some v → ds[i]? = some d → OV w (· < w.heap.size) v d fun _ => False
  | [], [], _ => ⟨rfl, by simp⟩
  | v :: vs, d :: ds, h => by
    obtain ⟨h1, h2⟩ := h
    obtain ⟨i1, i2⟩ := ovl_spec h2
    refine ⟨by simp [i1], fun i v' d' hv hd => ?_⟩
    cases i with
    | zero => simp at hv hd; subst hv hd; exact h1
    | succ i => exact i2 i v' d' (by simpa using hv) (by simpa using hd)
  | [], _ :: _, h => h.elim
  | _ :: _, [], h => h.elim
theorem ovl_tuple {w : World} {vs : List Value} {ds : List DV} (h : OVL w vs ds) : OV w (· < w.heap.size) (.tuple vs.toArray) (.tup ds) fun _ => False := ov_tuple (ovl_spec h).1 (ovl_spec h).2
theorem ovl_nil {w : World} : OVL w [] [] := trivial
theorem ovl_cons {w : World} {v : Value} {d : DV} {vs : List Value} {ds : List DV} (h : OV w (· < w.heap.size) v d fun _ => False) (t : OVL w vs ds) : OVL w (v :: vs) (d :: ds) := ⟨h, t⟩
theorem ov_int {w : World} {G S : Nat → Prop} (n : Int) : OV w G (.int .i64 n) (I n) S := .c _ _ _ (.r _ _ _ (by simp) (.v _ rfl))
theorem ov_bool {w : World} {G S : Nat → Prop} (n : Bool) : OV w G (.bool n) (B n) S := .c _ _ _ (.r _ _ _ (by simp) (.v _ rfl))
theorem ov_str {w : World} {G S : Nat → Prop} (s : ByteArray) : OV w G (.string s) (.c (.v (.string s))) S := .c _ _ _ (.r _ _ _ (by simp) (.v _ rfl))
theorem ov_ints {w : World} {G S : Nat → Prop} (ns : List Int) : OV w G (.agg (ns.map (Value.int .i64)).toArray) (.agg (ns.map vi)) S :=
  .agg _ _ _ (fun _ _ => False) (by simp) (fun i d hd => by
    rw [List.getElem?_map] at hd
    obtain ⟨n, hn, rfl⟩ := Option.map_eq_some_iff.1 hd
    refine .r _ _ _ (by simp) ?_
    have : (ns.map (Value.int .i64)).toArray.getD i undef = .int .i64 n := by simp [Array.getD_eq_getD_getElem?, hn]
    rw [this]
    exact .v _ rfl) (fun _ _ h => h.elim) (fun _ _ _ h => h.elim)
theorem ov_ro {w : World} {S : Nat → Prop} {v : Value} {z : Nat} {rows sp : List (List D)} (h : DR w (· < w.heap.size) v (.s 0 z rows sp)) : OV w (· < w.heap.size) v (.c (.s 0 z rows sp)) S := .c _ _ _ (.r _ _ _ (by simp) h)

/-- A type of whole numbers (int) side by side; z: how many. -/
def flat64 (P : Program) (t : TypeId) (z : Nat) : Bool := (match P.underlying t with | some (.int k) => decide (k = .i64) && Nat.beq z 1 | _ => false) || (flatT P t .i64 z && (match P.underlying t with | some (.struct fs) => fs.toList.all fun f => Nat.beq (P.cellsOf f.type) 1 | _ => true))
theorem flatF_get {k : IntKind} {z : Nat} : ∀ (fs : List Field) (i : Nat), flatT.flatF P k z fs i = true → i + fs.length = z ∧ ∀ j f, fs[j]? = some f → f.offset = i + j ∧ P.underlying f.type = some (.int k)
  | [], i, h => by have := beq_true h; simp; omega
  | f :: fs, i, h => by
    simp only [flatT.flatF, Bool.and_eq_true] at h
    obtain ⟨h1, h2, h3, h4⟩ := h
    obtain ⟨g1, g2⟩ := flatF_get fs (i + 1) h4
    refine ⟨by simp; omega, fun j g hg => ?_⟩
    cases j with
    | zero =>
      simp at hg; subst hg
      refine ⟨beq_true h2, ?_⟩
      cases hu : P.underlying f.type with
      | none => rw [hu] at h3; simp at h3
      | some td =>
        rw [hu] at h3
        cases td with
        | int k' => simp only [decide_eq_true_eq] at h3; rw [h3]
        | _ => simp at h3
    | succ j =>
      obtain ⟨e1, e2⟩ := g2 j g (by simpa using hg)
      exact ⟨by omega, e2⟩

theorem ints_of {cs : List Value} {z : Nat} (hl : cs.length = z) (h : ∀ i, i < z → ∃ n, cs[i]? = some (.int .i64 n) ∧ (Lit.int .i64 n).wf = true) : ∃ ns : List Int, ns.length = z ∧ cs = ns.map (Value.int .i64) ∧ ∀ n ∈ ns, (Lit.int .i64 n).wf = true := by
  induction cs generalizing z with
  | nil => exact ⟨[], by simpa using hl, rfl, by simp⟩
  | cons c cs ih =>
    subst hl
    obtain ⟨n, hn, hw⟩ := h 0 (by simp)
    simp at hn
    subst hn
    obtain ⟨ns, h1, h2, h3⟩ := ih rfl fun i hi => by simpa using h (i + 1) (by simpa using hi)
    exact ⟨n :: ns, by simp [h1], by simp [h2], by simpa using ⟨hw, h3⟩⟩

section
variable {H : Type} {enc : TypeId × Value → H} {w : World} {base : Nat} {sp : Nat → Bool} {held : Bool}

theorem drop_take_one {cs : List Value} {i : Nat} {v : Value} (h : (cs.drop i).take 1 = [v]) : cs[i]? = some v := by
  have : ((cs.drop i).take 1)[0]? = some v := by rw [h]; rfl
  simpa using this

theorem flat_cells {t : TypeId} {z fuel : Nat} {cs : List Value} {x : DataW H × List MemPlace} (hz : P.cellsOf t = z) (hf : flat64 P t z = true) (h : DataW.trod enc P w base sp held fuel t cs = some x) :
    ∃ ns : List Int, ns.length = z ∧ cs = ns.map (Value.int .i64) ∧ ∀ n ∈ ns, (Lit.int .i64 n).wf = true := by
  unfold flat64 at hf
  rw [Bool.or_eq_true, Bool.and_eq_true] at hf
  rcases hf with hf | ⟨hf, hf2⟩
  · split at hf
    · rename_i k hu
      simp only [Bool.and_eq_true, decide_eq_true_eq] at hf
      obtain ⟨rfl, hz'⟩ := hf
      have hz1 := beq_true hz'
      subst hz1
      obtain ⟨n, rfl, _, hw⟩ := DataW.trod_int hu h
      exact ⟨[n], rfl, rfl, by simpa using hw⟩
    · cases hf
  · unfold flatT at hf
    split at hf
    · rename_i m e hu
      simp only [Bool.and_eq_true] at hf
      obtain ⟨⟨h1, h2⟩, h3⟩ := hf
      have h1 := beq_true h1
      subst h1
      cases hi : P.info? e with
      | none => rw [hi] at h2; simp at h2
      | some i =>
        rw [hi] at h2
        have h2 := beq_true h2
        have hc : P.cellsOf e = 1 := by simp [Program.cellsOf, hi, h2]
        cases hue : P.underlying e with
        | none => rw [hue] at h3; simp at h3
        | some td =>
          rw [hue] at h3
          cases td with
          | int k' =>
            simp only [decide_eq_true_eq] at h3
            subst h3
            obtain ⟨xs, n, _, _, hl, hxs, hx⟩ := DataW.trod_array hu h
            rw [hc] at hx
            have hget : ∀ i, i < m → ∃ n, cs[i]? = some (.int .i64 n) ∧ (Lit.int .i64 n).wf = true := fun i hi => by
              have := hx i hi
              rw [List.getElem?_eq_getElem (by omega), Nat.mul_one] at this
              obtain ⟨n, e1, _, hw⟩ := DataW.trod_int hue this
              exact ⟨n, drop_take_one e1, hw⟩
            exact ints_of (by omega) hget
          | _ => simp at h3
    · rename_i fs hu
      simp only [Bool.and_eq_true, Bool.not_eq_true'] at hf
      obtain ⟨g1, g2⟩ := flatF_get fs.toList 0 hf.2
      obtain ⟨xs, n, _, _, hl, hxs, hx⟩ := DataW.trod_struct hu h
      refine ints_of (by omega) fun i hi => ?_
      have hif : i < fs.size := by
        have : fs.toList.length = fs.size := by simp
        omega
      have hfi : fs[i]? = some fs[i] := Array.getElem?_eq_getElem hif
      have hfi' : fs.toList[i]? = some fs[i] := by simp [hif]
      obtain ⟨e1, e2⟩ := g2 i _ hfi'
      have := hx i _ hfi
      rw [hu] at hf2
      have hc1 := beq_true (List.all_eq_true.1 hf2 _ (List.mem_of_getElem? hfi'))
      rw [List.getElem?_eq_getElem (by omega), hc1, e1] at this
      obtain ⟨n, e1, _, hw⟩ := DataW.trod_int e2 this
      exact ⟨n, drop_take_one (by simpa using e1), hw⟩
    · cases hf

theorem rd_int {r : Reach} {b0 : Nat} {t : TypeId} {v : Value} {d : DataW H} {ps : List MemPlace} (hu : P.underlying t = some (.int .i64)) (hval : Value.okWide P w r b0 t v) (hd : DataW.Trod enc P w base sp held t v d ps) : ∃ n, v = .int .i64 n ∧ (Lit.int .i64 n).wf = true := by
  obtain ⟨n, rfl⟩ := okWide_int hu hval
  obtain ⟨fuel, hf⟩ := hd
  obtain ⟨m, e, _, hw⟩ := DataW.trod_int hu (show DataW.trod enc P w base sp held fuel t [.int .i64 n] = some _ from hf)
  simp at e; subst e
  exact ⟨n, rfl, hw⟩

theorem rd_flat {z : Nat} {t : TypeId} {v : Value} {d : DataW H} {ps : List MemPlace} (hz : P.cellsOf t = z) (hf : flat64 P t z = true) (hu : ∃ cs, v = .agg cs) (hd : DataW.Trod enc P w base sp held t v d ps) :
    ∃ ns : List Int, ns.length = z ∧ v = .agg (ns.map (Value.int .i64)).toArray ∧ ∀ n ∈ ns, (Lit.int .i64 n).wf = true := by
  obtain ⟨cs, rfl⟩ := hu
  obtain ⟨fuel, h⟩ := hd
  obtain ⟨ns, h1, h2, h3⟩ := flat_cells hz hf (show DataW.trod enc P w base sp held fuel t cs.toList = some _ from h)
  exact ⟨ns, h1, by rw [← h2], h3⟩

theorem okWide_agg {r : Reach} {b0 : Nat} {t : TypeId} {v : Value} (hu : (match P.underlying t with | some (.struct _) | some (.array _ _) => true | _ => false) = true) (hval : Value.okWide P w r b0 t v) : ∃ cs, v = .agg cs := by
  unfold Value.okWide at hval
  split at hval
  · obtain ⟨cs, h, _⟩ := hval; exact ⟨cs, h⟩
  · obtain ⟨cs, h, _⟩ := hval; exact ⟨cs, h⟩
  · rename_i h1 h2
    split at hu
    · rename_i fs h; exact (h1 fs h).elim
    · rename_i n e h; exact (h2 n e h).elim
    · cases hu

/-- A slice of such rows, as it is read. -/
theorem rd_rows {r : Reach} {b0 z : Nat} {t e : TypeId} {v : Value} {d : DataW H} {ps : List MemPlace} (ht : P.underlying t = some (.slice e)) (hz : P.cellsOf e = z) (h0 : 0 < z) (hf : flat64 P e z = true) (hval : Value.okWide P w r b0 t v) (hd : DataW.Trod enc P w base sp held t v d ps) :
    ∃ (A : Option Addr) (cap : Nat) (rows : List (List Int)), v = .slice A rows.length cap ∧ cap ≤ maxLen ∧ rows.length ≤ cap ∧ (∀ r ∈ rows, r.length = z ∧ ∀ n ∈ r, (Lit.int .i64 n).wf = true) ∧ DR w (· < w.heap.size) v (.s 0 z (rows.map fun r => r.map vi) []) := by
  obtain ⟨A0, len0, cap0, rfl⟩ := okWide_slice ht hval
  obtain ⟨fuel, hf'⟩ := hd
  have hf' : DataW.trod enc P w base sp held fuel t [.slice A0 len0 cap0] = some _ := hf'
  rcases Deep.open_slice ht hf' with ⟨h0', _⟩ | ⟨a, len, cap, m, n, D, Pl, h0', hb, hl, hm, hmm, _, hx⟩
  · simp at h0'
    obtain ⟨rfl, rfl, rfl⟩ := h0'
    exact ⟨none, 0, [], rfl, by decide, Nat.le_refl _, by simp, .e none 0 z 0⟩
  · simp at h0'
    obtain ⟨rfl, rfl, rfl⟩ := h0'
    have hlm : len0 ≤ m := by rw [hmm]; split <;> omega
    obtain ⟨V, hV⟩ := Deep.choose_lt (α := List Int) (n := len0) (p := fun i x => w.cells? base (a.add (i * z)) z = some (x.map (Value.int .i64)) ∧ x.length = z ∧ ∀ n ∈ x, (Lit.int .i64 n).wf = true) (fun i hi => by
      obtain ⟨cs', g1, g2⟩ := hx i (by omega)
      rw [hz] at g1
      obtain ⟨ns, q1, q2, q3⟩ := flat_cells hz hf g2
      exact ⟨ns, by rw [← q2]; exact g1, q1, q3⟩)
    refine ⟨some a, cap0, (List.range len0).map V, by simp, hm, by simpa using hl, fun r hr => ?_, ?_⟩
    · obtain ⟨i, hi, rfl⟩ := List.mem_map.1 hr
      exact (hV i (by simpa using hi)).2
    · rcases Nat.eq_zero_or_pos len0 with hz0 | hpos
      · subst hz0; simpa using DR.e (w := w) (G := (· < w.heap.size)) (some a) 0 z cap0
      · have hcell : ∀ i j, i < len0 → j < z → w.cell? ((a.add (i * z)).add j) = some (.int .i64 ((V i).getD j 0)) := fun i j hi hj => by
          obtain ⟨q1, q2, _⟩ := hV i hi
          obtain ⟨_, _, q4⟩ := World.cells?_some q1
          rw [q4 j hj]
          simp [List.getD_eq_getElem?_getD, q2, hj]
        have hspot : a.spot = none ∧ a.block < w.heap.size := by
          have := hcell 0 0 hpos h0
          simp only [Nat.zero_mul, Addr.add, if_true] at this
          unfold World.cell? at this
          split at this
          · rename_i hh
            refine ⟨?_, ?_⟩
            · cases hs : a.spot with
              | none => rfl
              | some q => rw [hs] at this; simp at this
            · rcases Nat.lt_or_ge a.block w.heap.size with h' | h'
              · exact h'
              · rw [Array.getElem?_eq_none h'] at hh; cases hh
          · cases this
        obtain ⟨b, off, spot⟩ := a
        simp only at hspot
        obtain ⟨rfl, hblk⟩ := hspot
        have key := DR.s (w := w) (G := (· < w.heap.size)) 0 ((List.range len0).map fun i => (V i).map vi) [] b off cap0 z (fun i j => .int .i64 ((V i).getD j 0)) hblk (fun r hr => by
          simp only [List.append_nil] at hr
          obtain ⟨i, hi, rfl⟩ := List.mem_map.1 hr
          simpa using (hV i (by simpa using hi)).2.1) (by simpa using hl) (fun i j hi hj => by
          have := hcell i j (by simpa using hi) hj
          rw [addr_add, addr_add] at this
          rw [← Nat.add_assoc]; exact this) (fun i j r d hr hd => by
          simp only [List.append_nil, List.getElem?_map] at hr
          obtain ⟨i', hi', rfl⟩ := Option.map_eq_some_iff.1 hr
          have : i' = i := by
            have := (List.getElem?_eq_some_iff.1 hi').2; simpa using this.symm
          subst this
          rw [List.getElem?_map] at hd
          obtain ⟨n, hn, rfl⟩ := Option.map_eq_some_iff.1 hd
          rw [show (V i').getD j 0 = n by simp [List.getD_eq_getElem?_getD, hn]]
          exact .v _ rfl)
        simpa [Function.comp_def] using key
/-- How long a slice is that came in. -/
theorem rd_len {t e : TypeId} {A : Option Addr} {len cap : Nat} {d : DataW H} {ps : List MemPlace} (ht : P.underlying t = some (.slice e)) (hd : DataW.Trod enc P w base sp held t (.slice A len cap) d ps) {ts : List TypeId} {ds : List (DataW H)}
    (hs : (DataW.weightsEach P ts ds).all (· ≤ reachBytes) = true) {j : Nat} (h1 : ts[j]? = some t) (h2 : ds[j]? = some d) {b : Nat} (hb : P.bytesOf e = b) : len * b ≤ 140737488351232 := by
  subst hb
  obtain ⟨fuel, hf⟩ := hd
  have hf : DataW.trod enc P w base sp held fuel t [.slice A len cap] = some _ := hf
  rcases Deep.open_slice ht hf with ⟨h0', _⟩ | ⟨a, len', cap', m, n, D, Pl, h0', hb, hl, hm, hmm, hx, _⟩
  · simp at h0'
    obtain ⟨rfl, rfl, rfl⟩ := h0'
    simp
  · simp at h0'
    obtain ⟨rfl, rfl, rfl⟩ := h0'
    have e0 := congrArg Prod.fst hx
    simp only at e0
    subst e0
    have := sized_slice hs h1 h2 ht
    simp only [List.length_map, List.length_range] at this
    refine Nat.le_trans ?_ this
    exact Nat.mul_le_mul_right _ (Nat.le_add_right _ _)
end
end

section
open Go Go.ChangeShapes Go.WideShapes
set_option linter.unusedSimpArgs false
set_option linter.unusedVariables false

/-! ### what comes in, of any type of whole numbers, structs, arrays and slices -/
inductive KT where
  | int
  | bool
  | sl (cells : List KT) (bytes : Nat)

mutual
inductive Good : KT → D → Prop
  | int (n : Int) : (Lit.int .i64 n).wf = true → Good .int (vI n)
  | bool (b : Bool) : Good .bool (.v (.bool b))
  | sl (c : List KT) (b : Nat) (rows : List (List D)) : rows.length * b ≤ 140737488351232 → rows.length ≤ 9223372036854775807 → (∀ r ∈ rows, GoodL c r) → Good (.sl c b) (.s 0 c.length rows [])
inductive GoodL : List KT → List D → Prop
  | nil : GoodL [] []
  | cons {c : KT} {d : D} {cs : List KT} {ds : List D} : Good c d → GoodL cs ds → GoodL (c :: cs) (d :: ds)
end
theorem GoodL.append {c c' : List KT} {d d' : List D} (h : GoodL c d) (h' : GoodL c' d') : GoodL (c ++ c') (d ++ d') := by
  induction c generalizing d with
  | nil => cases h; exact h'
  | cons x c ih => cases h with | cons h1 h2 => exact .cons h1 (ih h2)
theorem GoodL.len {c : List KT} {d : List D} (h : GoodL c d) : c.length = d.length := by
  induction c generalizing d with
  | nil => cases h; rfl
  | cons x c ih => cases h with | cons h1 h2 => simp [ih h2]
theorem GoodL.cons_inv {c : KT} {cs : List KT} {ds : List D} (h : GoodL (c :: cs) ds) : ∃ d ds', ds = d :: ds' ∧ Good c d ∧ GoodL cs ds' := by
  cases h with | cons h1 h2 => exact ⟨_, _, rfl, h1, h2⟩
theorem GoodL.nil_inv {ds : List D} (h : GoodL [] ds) : ds = [] := by cases h; rfl
theorem Good.int_inv {d : D} (h : Good .int d) : ∃ n, d = vI n ∧ (Lit.int .i64 n).wf = true := by cases h with | int n h => exact ⟨n, rfl, h⟩
theorem Good.bool_inv {d : D} (h : Good .bool d) : ∃ b, d = .v (.bool b) := by cases h with | bool b => exact ⟨b, rfl⟩
theorem Good.sl_inv {c : List KT} {b : Nat} {d : D} (h : Good (.sl c b) d) : ∃ rows, d = .s 0 c.length rows [] ∧ rows.length * b ≤ 140737488351232 ∧ rows.length ≤ 9223372036854775807 ∧ ∀ r ∈ rows, GoodL c r := by
  cases h with | sl _ _ rows h1 h2 h3 => exact ⟨rows, rfl, h1, h2, h3⟩
theorem GoodL.ints : ∀ {z : Nat} {r : List D}, GoodL (List.replicate z .int) r → Nat.beq r.length z = true ∧ r.all isI = true
  | 0, r, h => by cases h; exact ⟨rfl, rfl⟩
  | z + 1, r, h => by
    cases h with
    | cons h1 h2 =>
      obtain ⟨n, rfl, _⟩ := h1.int_inv
      obtain ⟨i1, i2⟩ := GoodL.ints h2
      exact ⟨by simpa [Nat.beq] using i1, by simp only [List.all_cons, Bool.and_eq_true]; exact ⟨rfl, i2⟩⟩
/-- A slice of whole numbers side by side. -/
theorem Good.rows {z b : Nat} {d : D} (h : Good (.sl (List.replicate z .int) b) d) : ∃ rows, d = .s 0 z rows [] ∧ okZ z rows = true ∧ rows.length * b ≤ 140737488351232 := by
  obtain ⟨rows, rfl, h1, h2, h3⟩ := h.sl_inv
  refine ⟨rows, by rw [List.length_replicate], ?_, h1⟩
  simp only [okZ, Bool.and_eq_true, List.all_eq_true]
  exact ⟨fun r hr => by
    obtain ⟨a1, a2⟩ := GoodL.ints (h3 r hr)
    exact ⟨a1, List.all_eq_true.1 a2⟩, Nat.ble_eq_true_of_le h2⟩

def DRL (w : World) : List Value → List D → Prop
  | [], [] => True
  | v :: vs, d :: ds => DR w (· < w.heap.size) v d ∧ DRL w vs ds
  | _, _ => False
theorem DRL.append {w : World} : ∀ {vs vs' : List Value} {ds ds' : List D}, DRL w vs ds → DRL w vs' ds' → DRL w (vs ++ vs') (ds ++ ds')
  | [], _, [], _, _, h => h
  | v :: vs, _, d :: ds, _, h, h' => ⟨h.1, DRL.append h.2 h'⟩
theorem DRL.get {w : World} : ∀ {vs : List Value} {ds : List D}, DRL w vs ds → vs.length = ds.length ∧ ∀ (i : Nat) v d, vs[i]? = some v → ds[i]? = some d → DR w (· < w.heap.size) v d
  | [], [], _ => ⟨rfl, by simp⟩
  | v :: vs, d :: ds, h => by
    obtain ⟨i1, i2⟩ := DRL.get h.2
    refine ⟨by simp [i1], fun i v' d' hv hd => ?_⟩
    cases i with
    | zero => simp at hv hd; subst hv hd; exact h.1
    | succ i => exact i2 i v' d' (by simpa using hv) (by simpa using hd)

def ctFields (P : Program) (rec : TypeId → Option (List KT)) : List Field → Nat → Option (List KT)
  | [], _ => some []
  | f :: fs, off => match rec f.type with
    | some c => match Nat.beq f.offset off && Nat.beq (P.cellsOf f.type) c.length with
      | true => (ctFields P rec fs (off + c.length)).map (c ++ ·)
      | false => none
    | none => none
def ctOf (P : Program) : Nat → TypeId → Option (List KT)
  | 0, _ => none
  | m + 1, t => match P.underlying t with
    | some (.int .i64) => some [.int]
    | some .bool => some [.bool]
    | some (.struct fs) => match ctFields P (ctOf P m) fs.toList 0 with
      | some c => match Nat.beq (P.cellsOf t) c.length with | true => some c | false => none
      | none => none
    | some (.array n e) => match ctOf P m e with
      | some c => match Nat.beq (P.cellsOf e) c.length && Nat.beq (P.cellsOf t) (n * c.length) with | true => some (List.replicate n c).flatten | false => none
      | none => none
    | some (.slice e) => match ctOf P m e with
      | some c => match Nat.beq (P.cellsOf e) c.length && Nat.ble 1 c.length with | true => some [.sl c (P.bytesOf e)] | false => none
      | none => none
    | _ => none

section
variable {P : Program} {H : Type} {enc : TypeId × Value → H} {w : World} {base : Nat} {sp : Nat → Bool} {held : Bool}

theorem weights_mem_all {e : TypeId} : ∀ {ds : List (DataW H)} {d : DataW H} {n : Nat}, d ∈ ds → n ∈ d.weights P e → n ∈ DataW.weightsAll P e ds
  | x :: ds, d, n, hd, hn => by
    simp only [DataW.weightsAll, List.mem_append]
    rcases List.mem_cons.1 hd with rfl | hd
    · exact .inl hn
    · exact .inr (weights_mem_all hd hn)

/-- All parts of a datum are within reach. -/
def Reach (P : Program) (t : TypeId) (d : DataW H) : Prop := ∀ n ∈ d.weights P t, n ≤ reachBytes

theorem rdFields {m : Nat} (ih : ∀ (t : TypeId) (c : List KT), ctOf P m t = some c → ∀ (fuel : Nat) (cs : List Value) (x : DataW H × List MemPlace), DataW.trod enc P w base sp held fuel t cs = some x → Reach P t x.1 → ∃ ds, GoodL c ds ∧ DRL w cs ds) (cs : List Value) :
    ∀ (fs : List Field) (off : Nat) (c : List KT), ctFields P (ctOf P m) fs off = some c → cs.length = off + c.length → (∀ f ∈ fs, ∃ n y, DataW.trod enc P w base sp held n f.type ((cs.drop f.offset).take (P.cellsOf f.type)) = some y ∧ Reach P f.type y.1) → ∃ ds, GoodL c ds ∧ DRL w (cs.drop off) ds
  | [], off, c, h, hl, _ => by
    simp [ctFields] at h; subst h
    have : cs.drop off = [] := List.drop_eq_nil_of_le (by simp at hl; omega)
    rw [this]
    exact ⟨[], .nil, trivial⟩
  | f :: fs, off, c, h, hl, hf => by
    simp only [ctFields] at h
    split at h
    · rename_i c1 hc1
      split at h
      · rename_i hb
        simp only [Bool.and_eq_true] at hb
        have b1 := beq_true hb.1
        have b2 := beq_true hb.2
        obtain ⟨c2, hc2, rfl⟩ := Option.map_eq_some_iff.1 h
        obtain ⟨n, y, hy, hr⟩ := hf f (by simp)
        obtain ⟨d1, g1, r1⟩ := ih f.type c1 hc1 n _ y hy hr
        simp only [List.length_append] at hl
        obtain ⟨d2, g2, r2⟩ := rdFields ih cs fs (off + c1.length) c2 hc2 (by omega) fun f' hm => hf f' (by simp [hm])
        refine ⟨d1 ++ d2, g1.append g2, ?_⟩
        rw [b1, b2] at r1
        have e : cs.drop off = (cs.drop off).take c1.length ++ cs.drop (off + c1.length) := by
          rw [← List.drop_drop, List.take_append_drop]
        rw [e]
        exact r1.append r2
      · cases h
    · cases h

theorem rdArray {m : Nat} {e : TypeId} {c : List KT} (ih : ∀ (fuel : Nat) (cs : List Value) (x : DataW H × List MemPlace), DataW.trod enc P w base sp held fuel e cs = some x → Reach P e x.1 → ∃ ds, GoodL c ds ∧ DRL w cs ds) (hb : P.cellsOf e = c.length) :
    ∀ (n : Nat) (cs : List Value), cs.length = n * c.length → (∀ i, i < n → ∃ k y, DataW.trod enc P w base sp held k e ((cs.drop (i * c.length)).take c.length) = some y ∧ Reach P e y.1) → ∃ ds, GoodL (List.replicate n c).flatten ds ∧ DRL w cs ds
  | 0, cs, hl, _ => by
    have : cs = [] := List.eq_nil_of_length_eq_zero (by simpa using hl)
    subst this
    exact ⟨[], .nil, trivial⟩
  | n + 1, cs, hl, h => by
    obtain ⟨k, y, hy, hr⟩ := h 0 (Nat.succ_pos _)
    simp only [Nat.zero_mul, List.drop_zero] at hy
    obtain ⟨d1, g1, r1⟩ := ih k _ y hy hr
    have hl' : cs.length = n * c.length + c.length := by rw [hl, Nat.succ_mul]
    obtain ⟨d2, g2, r2⟩ := rdArray (m := m) ih hb n (cs.drop c.length) (by simp; omega) fun i hi => by
      obtain ⟨k, y, hy, hr⟩ := h (i + 1) (by omega)
      refine ⟨k, y, ?_, hr⟩
      rw [List.drop_drop]
      have : c.length + i * c.length = (i + 1) * c.length := by rw [Nat.succ_mul]; omega
      rw [this]; exact hy
    refine ⟨d1 ++ d2, ?_, ?_⟩
    · simp only [List.replicate_succ, List.flatten_cons]; exact g1.append g2
    · have e : cs = cs.take c.length ++ cs.drop c.length := (List.take_append_drop _ _).symm
      rw [e]; exact r1.append r2

theorem rdC : ∀ (m : Nat) (t : TypeId) (c : List KT), ctOf P m t = some c → ∀ (fuel : Nat) (cs : List Value) (x : DataW H × List MemPlace), DataW.trod enc P w base sp held fuel t cs = some x → Reach P t x.1 → ∃ ds, GoodL c ds ∧ DRL w cs ds
  | 0, t, c, h, _, _, _, _, _ => by simp [ctOf] at h
  | m + 1, t, c, h, fuel, cs, x, hx, hr => by
    simp only [ctOf] at h
    split at h
    · rename_i hu
      cases h
      obtain ⟨n, rfl, rfl, hw⟩ := DataW.trod_int hu hx
      exact ⟨[vI n], .cons (.int n hw) .nil, .v _ rfl, trivial⟩
    · rename_i hu
      cases h
      obtain ⟨b, rfl, rfl⟩ := DataW.trod_bool hu hx
      exact ⟨[.v (.bool b)], .cons (.bool b) .nil, .v _ rfl, trivial⟩
    · rename_i fs hu
      split at h
      · rename_i c' hc'
        split at h
        · rename_i hb
          cases h
          have hb := beq_true hb
          obtain ⟨xs, n, _, rfl, hl, hxs, hf⟩ := DataW.trod_struct hu hx
          obtain ⟨ds, g1, g2⟩ := rdFields (rdC m) cs fs.toList 0 c hc' (by rw [hl, hb]; simp) fun f hm => by
            obtain ⟨i, hi⟩ := List.getElem?_of_mem hm
            have hi' : fs[i]? = some f := by rw [← Array.getElem?_toList]; exact hi
            have hlt : i < xs.length := by rw [hxs]; exact (Array.getElem?_eq_some_iff.1 hi').1
            refine ⟨n, xs[i], by rw [hf i f hi', List.getElem?_eq_getElem hlt], fun k hk => hr k ?_⟩
            simp only [DataW.weights, hu]
            exact DataW.weights_mem_each (j := i) (by rw [List.getElem?_map, hi]; rfl) (by rw [List.getElem?_map, List.getElem?_eq_getElem hlt]; rfl) k hk
          exact ⟨ds, g1, by simpa using g2⟩
        · cases h
      · cases h
    · rename_i n e hu
      split at h
      · rename_i c' hc'
        split at h
        · rename_i hb
          cases h
          simp only [Bool.and_eq_true] at hb
          have b1 := beq_true hb.1
          have b2 := beq_true hb.2
          obtain ⟨xs, k, _, rfl, hl, hxs, hf⟩ := DataW.trod_array hu hx
          refine rdArray (m := m) (rdC m e c' hc') b1 n cs (by rw [hl, b2]) fun i hi => ?_
          have hlt : i < xs.length := by omega
          have := hf i hi
          rw [b1, List.getElem?_eq_getElem hlt] at this
          refine ⟨k, _, this, fun q hq => hr q ?_⟩
          simp only [DataW.weights, hu]
          exact weights_mem_all (List.mem_map.2 ⟨xs[i], List.getElem_mem hlt, rfl⟩) hq
        · cases h
      · cases h
    · rename_i e hu
      split at h
      · rename_i c' hc'
        split at h
        · rename_i hb
          cases h
          simp only [Bool.and_eq_true] at hb
          have b1 := beq_true hb.1
          have b2 := Nat.le_of_ble_eq_true hb.2
          rcases Deep.open_slice hu hx with ⟨rfl, rfl⟩ | ⟨a, len, cap, q, n, D0, Pl, rfl, hba, hlc, hcm, hqq, rfl, hcell⟩
          · exact ⟨[.s 0 c'.length [] []], .cons (.sl _ _ [] (by simp) (by simp) (by simp)) .nil, .e none 0 c'.length 0, trivial⟩
          · have hlq : len ≤ q := by rw [hqq]; split <;> omega
            have hsz : (len + (q - len)) * P.bytesOf e ≤ reachBytes := hr _ (by simp [DataW.weights, hu])
            obtain ⟨V, hV⟩ := Deep.choose_lt (α := List Value × List D) (n := len) (p := fun i r => w.cells? base (a.add (i * c'.length)) c'.length = some r.1 ∧ GoodL c' r.2 ∧ DRL w r.1 r.2) (fun i hi => by
              obtain ⟨cs', g1, g2⟩ := hcell i (by omega)
              rw [b1] at g1
              obtain ⟨ds, q1, q2⟩ := rdC m e c' hc' n cs' _ g2 fun k hk => hr k (by
                simp only [DataW.weights, hu]
                refine List.mem_cons_of_mem _ (List.mem_append_left _ (weights_mem_all (List.mem_map.2 ⟨i, by simpa using hi, rfl⟩) hk)))
              exact ⟨(cs', ds), g1, q1, q2⟩)
            have hlen9 : len ≤ 9223372036854775807 := Nat.le_trans hlc hcm
            refine ⟨[.s 0 c'.length ((List.range len).map fun i => (V i).2) []], .cons (.sl _ _ _ ?_ (by simpa using hlen9) fun r hr' => ?_) .nil, ?_, trivial⟩
            · rw [List.length_map, List.length_range]
              refine Nat.le_trans ?_ hsz
              exact Nat.mul_le_mul_right _ (Nat.le_add_right _ _)
            · obtain ⟨i, hi, rfl⟩ := List.mem_map.1 hr'
              exact (hV i (by simpa using hi)).2.1
            · rcases Nat.eq_zero_or_pos len with hz0 | hpos
              · subst hz0; simpa using DR.e (w := w) (G := (· < w.heap.size)) (some a) 0 c'.length cap
              · have hrl : ∀ i, i < len → (V i).2.length = c'.length ∧ (V i).1.length = c'.length := fun i hi => by
                  obtain ⟨_, g, r⟩ := hV i hi
                  exact ⟨g.len.symm, by rw [r.get.1, g.len]⟩
                have hcl : ∀ i j, i < len → j < c'.length → w.cell? ((a.add (i * c'.length)).add j) = some ((V i).1.getD j undef) := fun i j hi hj => by
                  obtain ⟨q1, _, _⟩ := hV i hi
                  obtain ⟨_, _, q4⟩ := World.cells?_some q1
                  rw [q4 j hj]
                  have : j < (V i).1.length := by rw [(hrl i hi).2]; exact hj
                  simp [List.getD_eq_getElem?_getD, this]
                have hspot : a.spot = none ∧ a.block < w.heap.size := by
                  have := hcl 0 0 hpos b2
                  simp only [Nat.zero_mul, Addr.add, if_true] at this
                  unfold World.cell? at this
                  split at this
                  · rename_i hh
                    refine ⟨?_, ?_⟩
                    · cases hs : a.spot with
                      | none => rfl
                      | some q => rw [hs] at this; simp at this
                    · rcases Nat.lt_or_ge a.block w.heap.size with h' | h'
                      · exact h'
                      · rw [Array.getElem?_eq_none h'] at hh; cases hh
                  · cases this
                obtain ⟨b, off, spot⟩ := a
                simp only at hspot
                obtain ⟨rfl, hblk⟩ := hspot
                have key := DR.s (w := w) (G := (· < w.heap.size)) 0 ((List.range len).map fun i => (V i).2) [] b off cap c'.length (fun i j => (V i).1.getD j undef) hblk (fun r hr' => by
                  simp only [List.append_nil] at hr'
                  obtain ⟨i, hi, rfl⟩ := List.mem_map.1 hr'
                  exact (hrl i (by simpa using hi)).1) (by simpa using hlc) (fun i j hi hj => by
                  have := hcl i j (by simpa using hi) hj
                  rw [addr_add, addr_add] at this
                  rw [← Nat.add_assoc]; exact this) (fun i j r d h1 h2 => by
                  simp only [List.append_nil, List.getElem?_map] at h1
                  obtain ⟨i', hi', rfl⟩ := Option.map_eq_some_iff.1 h1
                  have hi2 := List.getElem?_eq_some_iff.1 hi'
                  obtain ⟨hlt, he⟩ := hi2
                  simp at hlt he
                  subst he
                  obtain ⟨_, _, r⟩ := hV i hlt
                  have hj : j < (V i).1.length := by rw [r.get.1]; exact (List.getElem?_eq_some_iff.1 h2).1
                  rw [show (V i).1.getD j undef = (V i).1[j] by simp [List.getD_eq_getElem?_getD, hj]]
                  exact r.get.2 j _ d (List.getElem?_eq_getElem hj) h2)
                simpa using key
        · cases h
      · cases h
    · cases h

theorem Good.not_own {c : KT} {d : D} (h : Good c d) (z : Nat) (rows sp : List (List D)) : d ≠ .s 1 z rows sp := by
  cases h <;> simp
theorem GoodL.mem {c : List KT} {ds : List D} (h : GoodL c ds) : ∀ d ∈ ds, ∃ k, Good k d := by
  induction c generalizing ds with
  | nil => cases h; simp
  | cons x c ih => cases h with | cons h1 h2 =>
    intro d hd
    rcases List.mem_cons.1 hd with rfl | hd
    · exact ⟨_, h1⟩
    · exact ih h2 d hd
theorem reach_of {ts : List TypeId} {ds : List (DataW H)} (hs : (DataW.weightsEach P ts ds).all (· ≤ reachBytes) = true) {j : Nat} {t : TypeId} {d : DataW H} (h1 : ts[j]? = some t) (h2 : ds[j]? = some d) : Reach P t d := fun n hn => by
  simpa using List.all_eq_true.1 hs n (DataW.weights_mem_each h1 h2 n hn)
/-- A struct or an array that came in. -/
theorem rd_agg {t : TypeId} {c : List KT} {v : Value} {d : DataW H} {ps : List MemPlace} (m : Nat) (hc : ctOf P m t = some c) (hv : ∃ cs, v = .agg cs) (hd : DataW.Trod enc P w base sp held t v d ps) {ts : List TypeId} {dd : List (DataW H)}
    (hs : (DataW.weightsEach P ts dd).all (· ≤ reachBytes) = true) {j : Nat} (h1 : ts[j]? = some t) (h2 : dd[j]? = some d) : ∃ ds, GoodL c ds ∧ OV w (· < w.heap.size) v (.agg ds) fun _ => False := by
  obtain ⟨cs, rfl⟩ := hv
  obtain ⟨fuel, hf⟩ := hd
  obtain ⟨ds, g, r⟩ := rdC m t c hc fuel cs.toList _ (show DataW.trod enc P w base sp held fuel t cs.toList = some _ from hf) (reach_of hs h1 h2)
  obtain ⟨l, r⟩ := r.get
  refine ⟨ds, g, .agg _ _ _ (fun _ _ => False) (by simpa using l) (fun i d hd => ?_) (fun _ _ h => h.elim) (fun _ _ _ h => h.elim)⟩
  have hlt : i < cs.toList.length := by rw [l]; exact (List.getElem?_eq_some_iff.1 hd).1
  obtain ⟨k, hk⟩ := g.mem d (List.mem_of_getElem? hd)
  have e : cs.getD i undef = cs.toList[i] := by
    have : i < cs.size := by simpa using hlt
    simp [Array.getD_eq_getD_getElem?, this]
  rw [e]
  exact .r _ _ _ hk.not_own (r i _ d (List.getElem?_eq_getElem hlt) hd)
/-- A slice that came in. -/
theorem rd_sl {t : TypeId} {c : KT} {v : Value} {d : DataW H} {ps : List MemPlace} (m : Nat) (hc : ctOf P m t = some [c]) (hv : ∃ A len cap, v = .slice A len cap) (hd : DataW.Trod enc P w base sp held t v d ps) {ts : List TypeId} {dd : List (DataW H)}
    (hs : (DataW.weightsEach P ts dd).all (· ≤ reachBytes) = true) {j : Nat} (h1 : ts[j]? = some t) (h2 : dd[j]? = some d) : ∃ x, Good c x ∧ OV w (· < w.heap.size) v (.c x) fun _ => False := by
  obtain ⟨A, len, cap, rfl⟩ := hv
  obtain ⟨fuel, hf⟩ := hd
  obtain ⟨ds, g, r⟩ := rdC m t [c] hc fuel [.slice A len cap] _ (show DataW.trod enc P w base sp held fuel t [.slice A len cap] = some _ from hf) (reach_of hs h1 h2)
  obtain ⟨x, ds', rfl, gx, g'⟩ := g.cons_inv
  have := g'.nil_inv
  subst this
  exact ⟨x, gx, .c _ _ _ (.r _ _ _ gx.not_own r.1)⟩
end
end

section
open Go
set_option linter.unusedSimpArgs false
set_option linter.unusedVariables false

variable {P : Program} {w0 : World} {own : Nat → Prop} {γ : Gh} {st : St} {a : Act} {w : World} {x : X}

/-- A root's cells may be told otherwise, where each reads so. -/
theorem Rel.recell (h : Rel w0 own γ st a w) {k : Nat} {R : Root} (hk : st.store k = some R) (rows : List (List C)) (hl : rows.length = R.rows.length) (hw : ∀ r ∈ R.rows, r.length = R.wd → True) (hwd : (∀ r ∈ R.rows, r.length = R.wd) → ∀ r ∈ rows, r.length = R.wd)
    (hc : ∀ (i j : Nat) r c, rows[i]? = some r → r[j]? = some c → ∃ r0 c0, R.rows[i]? = some r0 ∧ r0[j]? = some c0 ∧ ∀ v S, SR γ w v c0 S → SR γ w v c S) :
    Rel w0 own γ { st with store := fun i => if i = k then some { R with rows := rows } else st.store i } a w := by
  have hst : ∀ k' R', (if k' = k then some { R with rows := rows } else st.store k') = some R' → ∃ R0, st.store k' = some R0 ∧ R'.tag = R0.tag ∧ R'.wd = R0.wd := by
    intro k' R' h'
    split at h'
    · rename_i e; subst e; cases h'; exact ⟨R, hk, rfl, rfl⟩
    · exact ⟨R', h', rfl, rfl⟩
  refine { env := h.env, size := h.size, defers := h.defers, tmps := h.tmps, gen := h.gen, tag := fun k' R' h' => ?_, mem := fun k' R' h' => ?_, inj := fun k1 R1 k2 R2 b h1 h2 h3 h4 => ?_, rootF := fun k' R' b h1 h2 => ?_, fpF := h.fpF, fpD := h.fpD, fs := h.fs, lt := h.lt, ltβ := h.ltβ }
  · obtain ⟨R0, h0, e, _⟩ := hst k' R' h'
    rw [e]; exact h.tag k' R0 h0
  · simp only at h'
    split at h'
    · rename_i e; subst e; cases h'
      have hm := h.mem k' R hk
      unfold RootOK at hm ⊢
      simp only
      cases hb : γ.β k' R.tag with
      | none =>
        rw [hb] at hm
        simp only at hm ⊢
        rw [hm] at hl
        exact List.length_eq_zero_iff.1 hl
      | some b =>
        rw [hb] at hm
        obtain ⟨arr, E, q1, q2, q3, q4⟩ := hm
        refine ⟨arr, E, q1, hwd q2, by rw [hl]; exact q3, fun i j r c hr hcc => ?_⟩
        obtain ⟨r0, c0, g1, g2, g3⟩ := hc i j r c hr hcc
        exact g3 _ _ (q4 i j r0 c0 g1 g2)
    · exact h.mem k' R' h'
  · obtain ⟨Ra, g1, e1, _⟩ := hst k1 R1 h1
    obtain ⟨Rb, g2, e2, _⟩ := hst k2 R2 h2
    rw [e1] at h3; rw [e2] at h4
    exact h.inj k1 Ra k2 Rb b g1 g2 h3 h4
  · obtain ⟨R0, g0, e, _⟩ := hst k' R' h1
    rw [e] at h2
    exact h.rootF k' R0 b g0 h2

def nilD? : C → Bool
  | .d (.v (.slice none 0 0)) => true
  | _ => false
theorem nilD_spec {c : C} (h : nilD? c = true) : c = .d (.v (.slice none 0 0)) := by
  unfold nilD? at h; split at h
  · rfl
  · cases h
/-- Cell j of box kb is nil: an empty slice of one's own, with root kn. -/
def X.nilOK (x : X) (kb j kn : Nat) : Bool := match lookN x.store kb with
  | some (.bx _ _ row) => (match row[j]? with | some c => nilD? c | none => false) && !Nat.beq kn kb
  | _ => false
def X.nilPre (x : X) (kb j kn wd : Nat) : X := match lookN x.store kb with
  | some (.bx t w row) => { x with store := setN (setN x.store kn (.sl (x.gen kn + 1) wd [])) kb (.bx t w (row.set j (.rs kn (x.gen kn + 1) wd 0 0 0))), gens := setN x.gens kn (x.gen kn + 1) }
  | _ => x
def X.nilc (x : X) (kb j kn wd : Nat) : X := (x.nilPre kb j kn wd).norm

theorem Rel.nilc (hR : Rel w0 own γ x.S a w) {kb j kn : Nat} (wd : Nat) (h : x.nilOK kb j kn = true) : ∃ γ', γ'.F0 = γ.F0 ∧ Rel w0 own γ' (x.nilc kb j kn wd).S a w := by
  unfold X.nilOK at h
  split at h
  · rename_i t wb row hl
    simp only [Bool.and_eq_true, Bool.not_eq_true'] at h
    obtain ⟨h1, h2⟩ := h
    have hne : kn ≠ kb := beq_false h2
    cases hj : row[j]? with
    | none => rw [hj] at h1; cases h1
    | some c =>
      rw [hj] at h1
      have hc := nilD_spec h1
      subst hc
      obtain ⟨γ1, g1, g2, g3⟩ := hR.empty kn wd
      have hk : (x.S.root kn false wd []).store kb = some (XRoot.bx t wb row).root := by
        simp [St.root, X.S, hl, Ne.symm hne]
      have hr := g2.recell hk [row.set j (.rs kn (x.gen kn + 1) wd 0 0 0)] (by simp [XRoot.root]) (fun _ _ _ => trivial) (fun hh r hr => by
          rw [List.mem_singleton] at hr; subst hr
          rw [List.length_set]
          exact hh row (by simp [XRoot.root])) (fun i j' r c hi hjc => by
          have hi0 : i = 0 := by
            have := (List.getElem?_eq_some_iff.1 hi).1
            simpa using this
          subst hi0
          simp only [List.getElem?_cons_zero, Option.some.injEq] at hi
          subst hi
          by_cases e : j' = j
          · subst e
            refine ⟨row, .d (.v (.slice none 0 0)), by simp [XRoot.root], hj, fun v S hv => ?_⟩
            have hc : c = .rs kn (x.gen kn + 1) wd 0 0 0 := by
              rw [List.getElem?_set_self (List.getElem?_eq_some_iff.1 hj).1] at hjc
              exact (Option.some.inj hjc).symm
            subst hc
            have hv' : CR γ1 w v (.d (.v (.slice none 0 0))) := hv
            cases hv' with
            | d _ _ hd => cases hd with
              | v _ _ => exact g3 none
          · rw [List.getElem?_set_ne (Ne.symm e)] at hjc
            exact ⟨row, c, by simp [XRoot.root], hjc, fun v S hv => hv⟩)
      have hS : (x.nilPre kb j kn wd).S = { (x.S.root kn false wd []) with store := fun i => if i = kb then some { (XRoot.bx t wb row).root with rows := [row.set j (.rs kn (x.gen kn + 1) wd 0 0 0)] } else (x.S.root kn false wd []).store i } := by
        unfold X.nilPre
        rw [hl]
        simp only [X.S, St.root, X.gen]
        congr 1
        · funext i
          simp only [lookN_setN]
          by_cases e1 : i = kb
          · subst e1; simp [XRoot.root]
          · by_cases e2 : i = kn
            · subst e2; simp [e1, XRoot.root, emb]
            · simp [e1, e2]
        · funext i
          simp only [lookN_setN, X.gen]
          by_cases e2 : i = kn
          · subst e2; simp
          · simp [e2]
      rw [← hS] at hr
      obtain ⟨γ2, q1, q2⟩ := hr.norm
      exact ⟨γ2, q1.trans g1.F0, q2⟩
  · cases h
theorem xwp_nilc {c : Code} {Q : Exit → X → Prop} {kb j kn wd : Nat} (h : x.nilOK kb j kn = true) (hx : XWP P c Q (x.nilc kb j kn wd)) : XWP P c Q x := fun w0 own γ a w hR => by
  obtain ⟨γ', e, h'⟩ := hR.nilc wd h
  have := hx w0 own γ' a w h'
  rw [e] at this; exact this
end

section
open Go
set_option linter.unusedSimpArgs false
set_option linter.unusedVariables false

/-! ### an empty slice, told otherwise -/
def WkD (x y : D) : Prop := x = y ∨ (x = .v (.slice none 0 0) ∧ ∃ z, y = .s 1 z [] [])
inductive Wk : DV → DV → Prop
  | c (x y : D) : WkD x y → Wk (.c x) (.c y)
  | agg (xs ys : List D) : xs.length = ys.length → (∀ (i : Nat) d', ys[i]? = some d' → ∃ d, xs[i]? = some d ∧ WkD d d') → Wk (.agg xs) (.agg ys)
  | tup (xs ys : List DV) : xs.length = ys.length → (∀ (i : Nat) d d', xs[i]? = some d → ys[i]? = some d' → Wk d d') → Wk (.tup xs) (.tup ys)

theorem OD.wk {w : World} {G : Nat → Prop} {v : Value} {x y : D} {S : Nat → Prop} (h : OD w G v x S) (hw : WkD x y) : OD w G v y S := by
  rcases hw with rfl | ⟨rfl, z, rfl⟩
  · exact h
  · cases h with
    | r _ _ _ _ h => cases h with
      | v _ _ => exact .n none z S
theorem OV.wk {w : World} {G : Nat → Prop} {x y : DV} (hw : Wk x y) : ∀ {v : Value} {S : Nat → Prop}, OV w G v x S → OV w G v y S := by
  induction hw with
  | c x y hw =>
    intro v S h
    cases h with
    | c _ _ _ h => exact .c v y S (h.wk hw)
  | agg xs ys hl hw =>
    intro v S h
    cases h with
    | agg vs _ _ sub h1 h2 h3 h4 =>
      refine .agg vs ys S sub (h1.trans hl) (fun i d' hd => ?_) h3 h4
      obtain ⟨d, e, hwd⟩ := hw i d' hd
      exact (h2 i d e).wk hwd
  | tup xs ys hl hw ih =>
    intro v S h
    cases h with
    | tup vs _ _ sub h1 h2 h3 h4 =>
      refine .tup vs ys S sub (h1.trans hl) (fun i d' hd => ?_) h3 h4
      have hi : i < xs.length := by rw [hl]; exact (List.getElem?_eq_some_iff.1 hd).1
      exact ih i _ d' (List.getElem?_eq_getElem hi) hd (h2 i _ (List.getElem?_eq_getElem hi))
theorem CT.wk {P : Program} {f : FuncId} {args : List DV} {r r' : DV} (h : CT P f args r) (hw : Wk r r') : CT P f args r' := fun w vs S G h1 h2 h3 =>
  (h w vs S G h1 h2 h3).mono fun e w' ⟨v, S', a, b, c, d⟩ => ⟨v, S', a, b.wk hw, c, d⟩
/-- What a contract may say instead. -/
theorem spec_wk {P : Program} {f : FuncId} {s s' : Spec} (h : SpecOK P f s) (hs : ∀ ds Q, s' ds Q → s ds fun r => ∃ r', Wk r r' ∧ r'.pureOwn = true ∧ r'.fit32 = true ∧ Q r') : SpecOK P f s' := fun ds Q hq => by
  obtain ⟨g, r, hc, _, _, r', hw, p1, p2, hq'⟩ := h ds _ (hs ds Q hq)
  exact ⟨g, r', hc.wk hw, .inl p1, p2, hq'⟩
theorem WkD.refl (x : D) : WkD x x := .inl rfl
theorem Wk.refl : ∀ x : DV, Wk x x
  | .c x => .c x x (.refl x)
  | .agg xs => .agg xs xs rfl fun i d h => ⟨d, h, .refl d⟩
  | .tup xs => .tup xs xs rfl fun i d d' h h' => by
    rw [h] at h'; cases h'
    have := List.sizeOf_lt_of_mem (List.mem_of_getElem? h)
    exact Wk.refl d
theorem Wk.agg_cons {x y : D} {xs ys : List D} (h : WkD x y) (hs : Wk (.agg xs) (.agg ys)) : Wk (.agg (x :: xs)) (.agg (y :: ys)) := by
  cases hs with
  | agg _ _ hl hw =>
    refine .agg _ _ (by simp [hl]) fun i d' hd => ?_
    cases i with
    | zero => cases hd; exact ⟨x, rfl, h⟩
    | succ i => exact hw i d' (by simpa using hd)
theorem Wk.agg_nil : Wk (.agg []) (.agg []) := .refl _
theorem Wk.tup_cons {x y : DV} {xs ys : List DV} (h : Wk x y) (hs : Wk (.tup xs) (.tup ys)) : Wk (.tup (x :: xs)) (.tup (y :: ys)) := by
  cases hs with
  | tup _ _ hl hw =>
    refine .tup _ _ (by simp [hl]) fun i d d' hd hd' => ?_
    cases i with
    | zero => cases hd; cases hd'; exact h
    | succ i => exact hw i d d' (by simpa using hd) (by simpa using hd')
theorem WkD.nil (z : Nat) : WkD (.v (.slice none 0 0)) (.s 1 z [] []) := .inr ⟨rfl, z, rfl⟩
end

section
open Go
set_option linter.unusedSimpArgs false
set_option linter.unusedVariables false

variable {P : Program} {w0 : World} {own : Nat → Prop} {γ : Gh} {a : Act} {w : World}

/-! ### roots under other numbers -/
def swp (i j k : Nat) : Nat := match Nat.beq k i with | true => j | false => match Nat.beq k j with | true => i | false => k
theorem swp_swp (i j k : Nat) : swp i j (swp i j k) = k := by
  unfold swp
  cases e : Nat.beq k i with
  | true =>
    have := beq_true e; subst this
    simp only
    cases e2 : Nat.beq j k with
    | true => exact beq_true e2
    | false => simp only [beq_self]
  | false =>
    simp only
    cases e2 : Nat.beq k j with
    | true =>
      have := beq_true e2; subst this
      simp only [beq_self]
    | false => simp only [e, e2]
mutual
def C.ren (σ : Nat → Nat) : C → C
  | .rs k t wd lo len kn => .rs (σ k) t wd lo len kn
  | .rp k t wd i j => .rp (σ k) t wd i j
  | .cf fn fs cs => .cf fn (renL σ fs) (renL σ cs)
  | .d x => .d x
  | .non => .non
def renL (σ : Nat → Nat) : List C → List C
  | [] => []
  | c :: l => C.ren σ c :: renL σ l
end
theorem renL_map (σ : Nat → Nat) : ∀ l : List C, renL σ l = l.map (C.ren σ)
  | [] => by simp [renL]
  | c :: l => by simp [renL, renL_map σ l]
mutual
def A.ren (σ : Nat → Nat) : A → A
  | .dead => .dead
  | .c x => .c (x.ren σ)
  | .agg xs => .agg (renL σ xs)
  | .tup xs => .tup (renT σ xs)
  | .bb q => .bb q
  | .rx k g wd lo len cap => .rx (σ k) g wd lo len cap
def renT (σ : Nat → Nat) : List A → List A
  | [] => []
  | c :: l => A.ren σ c :: renT σ l
end
theorem renT_map (σ : Nat → Nat) : ∀ l : List A, renT σ l = l.map (A.ren σ)
  | [] => by simp [renT]
  | c :: l => by simp [renT, renT_map σ l]
def XRoot.ren (σ : Nat → Nat) : XRoot → XRoot
  | .bx t wd row => .bx t wd (renL σ row)
  | .sl t wd rows => .sl t wd rows
def renS (σ : Nat → Nat) : List (Nat × XRoot) → List (Nat × XRoot)
  | [] => []
  | (k, R) :: l => (σ k, R.ren σ) :: renS σ l
def renG (σ : Nat → Nat) : List (Nat × Nat) → List (Nat × Nat)
  | [] => []
  | (k, g) :: l => (σ k, g) :: renG σ l
def X.ren (σ : Nat → Nat) (x : X) : X := { tmps := renT σ x.tmps, store := renS σ x.store, gens := renG σ x.gens }
def Gh.ren (σ : Nat → Nat) (γ : Gh) : Gh := { γ with β := fun k g => γ.β (σ k) g, FP := fun k => γ.FP (σ k), gen := fun k => γ.gen (σ k) }

variable {σ : Nat → Nat}
theorem beq_inv (hσ : ∀ k, σ (σ k) = k) (k i : Nat) : Nat.beq (σ k) i = Nat.beq k (σ i) := by
  cases e : Nat.beq k (σ i) with
  | true => have := beq_true e; subst this; rw [hσ]; exact beq_self i
  | false => exact beq_ne fun h => beq_false e (by rw [← h, hσ])
theorem renS_look (hσ : ∀ k, σ (σ k) = k) : ∀ (l : List (Nat × XRoot)) (i : Nat), lookN (renS σ l) i = (lookN l (σ i)).map (XRoot.ren σ)
  | [], i => rfl
  | (k, R) :: l, i => by
    simp only [renS, lookN, beq_inv hσ]
    split
    · rfl
    · exact renS_look hσ l i
theorem renG_look (hσ : ∀ k, σ (σ k) = k) : ∀ (l : List (Nat × Nat)) (i : Nat), lookN (renG σ l) i = lookN l (σ i)
  | [], i => rfl
  | (k, R) :: l, i => by
    simp only [renG, lookN, beq_inv hσ]
    split
    · rfl
    · exact renG_look hσ l i
theorem ren_G (hσ : ∀ k, σ (σ k) = k) (γ : Gh) : (γ.ren σ).G = γ.G := by
  funext b
  apply propext
  constructor
  · rintro (h | ⟨k, i, j, h⟩)
    · exact .inl h
    · exact .inr ⟨σ k, i, j, h⟩
  · rintro (h | ⟨k, i, j, h⟩)
    · exact .inl h
    · exact .inr ⟨σ k, i, j, by simp only [Gh.ren, hσ]; exact h⟩
theorem ren_at (hσ : ∀ k, σ (σ k) = k) (γ : Gh) (b : Bool) : (γ.ren σ).at b = γ.at b := by
  cases b
  · exact ren_G hσ γ
  · rfl
theorem CR.ren (hσ : ∀ k, σ (σ k) = k) {v : Value} {c : C} (h : CR γ w v c) : CR (γ.ren σ) w v (c.ren σ) := by
  induction h with
  | d v x h => simp only [C.ren]; exact .d v x (by rw [ren_at hσ]; exact h)
  | rs k g wd lo len kn cap b E n h1 h2 h3 h4 h5 h6 =>
    simp only [C.ren]
    exact .rs (σ k) g wd lo len kn cap b E n (by simp only [Gh.ren, hσ]; exact h1) (by simp only [Gh.ren, hσ]; exact h2) h3 h4 h5 h6
  | rn a k g wd h1 h2 =>
    simp only [C.ren]
    exact .rn a (σ k) g wd (by simp only [Gh.ren, hσ]; exact h1) (by simp only [Gh.ren, hσ]; exact h2)
  | rp k g wd i j b h1 h2 =>
    simp only [C.ren]
    exact .rp (σ k) g wd i j b (by simp only [Gh.ren, hσ]; exact h1) (by simp only [Gh.ren, hσ]; exact h2)
  | cf fn first caps fv cv h1 h2 _ _ i1 i2 =>
    simp only [C.ren, renL_map]
    refine .cf fn _ _ fv cv (by simpa using h1) (by simpa using h2) (fun i c hc => ?_) (fun i c hc => ?_)
    · rw [List.getElem?_map] at hc
      obtain ⟨c0, h0, rfl⟩ := Option.map_eq_some_iff.1 hc
      exact i1 i c0 h0
    · rw [List.getElem?_map] at hc
      obtain ⟨c0, h0, rfl⟩ := Option.map_eq_some_iff.1 hc
      exact i2 i c0 h0
  | non v => simp only [C.ren]; exact .non v
theorem AR.ren (hσ : ∀ k, σ (σ k) = k) {v : Value} {c : A} (h : AR γ w v c) : AR (γ.ren σ) w v (c.ren σ) := by
  induction h with
  | dead v => simp only [A.ren]; exact .dead v
  | c v x h => simp only [A.ren]; exact .c v _ (h.ren hσ)
  | agg vs xs h1 h2 =>
    simp only [A.ren, renL_map]
    refine .agg vs _ (by simpa using h1) fun i c hc => ?_
    rw [List.getElem?_map] at hc
    obtain ⟨c0, h0, rfl⟩ := Option.map_eq_some_iff.1 hc
    exact (h2 i c0 h0).ren hσ
  | tup vs xs h1 _ ih =>
    simp only [A.ren, renT_map]
    refine .tup vs _ (by simpa using h1) fun i c hc => ?_
    rw [List.getElem?_map] at hc
    obtain ⟨c0, h0, rfl⟩ := Option.map_eq_some_iff.1 hc
    exact ih i c0 h0
  | bb b q h => simp only [A.ren]; exact .bb b q h
  | rx k g wd lo len cap b E n h1 h2 h3 h4 h5 => simp only [A.ren]; exact .rx (σ k) g wd lo len cap b E n (by simpa [Gh.ren, hσ] using h1) (by simpa [Gh.ren, hσ] using h2) h3 h4 h5
theorem SR.ren (hσ : ∀ k, σ (σ k) = k) {v : Value} {c : C} {S : Nat → Prop} (h : SR γ w v c S) : SR (γ.ren σ) w v (c.ren σ) S := by
  unfold SR at h ⊢
  cases c with
  | d x =>
    simp only [C.ren]
    cases x with
    | s t z rows spare =>
      by_cases e : t = 1
      · subst e; exact h
      · have h' : CR γ w v (.d (.s t z rows spare)) := by
          revert h; split
          · rename_i heq; cases heq; exact absurd rfl e
          · exact id
        have := h'.ren (σ := σ) hσ
        simp only [C.ren] at this
        split
        · rename_i heq; cases heq; exact absurd rfl e
        · exact this
    | v x => exact CR.ren (γ := γ) hσ h
    | p t cells off => exact CR.ren (γ := γ) hσ h
    | f fn first caps => exact CR.ren (γ := γ) hσ h
  | rs k g wd lo len kn => exact CR.ren (γ := γ) hσ h
  | rp k g wd i j => exact CR.ren (γ := γ) hσ h
  | cf fn first caps =>
    have := CR.ren (γ := γ) (c := .cf fn first caps) hσ h
    simp only [C.ren] at this ⊢
    exact this
  | non => exact CR.ren (γ := γ) hσ h

theorem ren_tag {R : XRoot} : (R.ren σ).root.tag = R.root.tag := by cases R <;> rfl
theorem ren_wd {R : XRoot} : (R.ren σ).root.wd = R.root.wd := by cases R <;> rfl
theorem ren_rows {R : XRoot} : (R.ren σ).root.rows = R.root.rows.map fun r => r.map (C.ren σ) := by
  cases R with
  | bx t wd row => simp [XRoot.ren, XRoot.root, renL_map]
  | sl t wd rows => simp [XRoot.ren, XRoot.root, emb, Function.comp_def, C.ren]

theorem Rel.ren (hσ : ∀ k, σ (σ k) = k) {x : X} (h : Rel w0 own γ x.S a w) : Rel w0 own (γ.ren σ) (x.ren σ).S a w := by
  have old : ∀ k R, (x.ren σ).S.store k = some R → ∃ R0 : XRoot, x.S.store (σ k) = some R0.root ∧ R = (R0.ren σ).root := by
    intro k R hk
    simp only [X.S, X.ren, renS_look hσ] at hk
    cases hl : lookN x.store (σ k) with
    | none => rw [hl] at hk; cases hk
    | some R0 => rw [hl] at hk; cases hk; exact ⟨R0, by simp [X.S, hl], rfl⟩
  have inj : ∀ k k', σ k = σ k' → k = k' := fun k k' e => by rw [← hσ k, e, hσ]
  refine { env := h.env, size := by rw [h.size]; simp [X.S, X.ren, renT_map], defers := h.defers, tmps := fun i => ?_, gen := ?_, tag := fun k R hk => ?_, mem := fun k R hk => ?_, inj := fun k R k' R' b hk hk' h1 h2 => ?_, rootF := fun k R b hk h1 => ?_, fpF := fun k i j b hb => h.fpF (σ k) i j b hb, fpD := fun k i j k' i' j' b h1 h2 => ?_, fs := h.fs, lt := fun b hb => h.lt b (by rw [ren_G hσ] at hb; exact hb), ltβ := fun k g b hg hb => h.ltβ (σ k) g b hg hb }
  · have := (h.tmps i).ren (σ := σ) hσ
    have e : (x.ren σ).S.tmps i = (x.S.tmps i).ren σ := by
      simp only [X.S, X.ren, renT_map, List.getD_eq_getElem?_getD, List.getElem?_map]
      cases x.tmps[i]? <;> simp [A.ren]
    rw [e]; exact this
  · funext k
    have := congrFun h.gen (σ k)
    simp only [Gh.ren, X.S, X.gen, X.ren, renG_look hσ] at this ⊢
    exact this
  · obtain ⟨R0, h0, rfl⟩ := old k R hk
    rw [ren_tag]
    have := h.tag (σ k) _ h0
    simp only [X.S, X.gen, X.ren, renG_look hσ] at this ⊢
    exact this
  · obtain ⟨R0, h0, rfl⟩ := old k R hk
    have hm := h.mem (σ k) _ h0
    unfold RootOK at hm ⊢
    rw [ren_tag]
    have eβ : (γ.ren σ).β k R0.root.tag = γ.β (σ k) R0.root.tag := rfl
    rw [eβ]
    cases hb : γ.β (σ k) R0.root.tag with
    | none => rw [hb] at hm; simp only at hm ⊢; rw [ren_rows, hm]; rfl
    | some b =>
      rw [hb] at hm
      obtain ⟨arr, E, q1, q2, q3, q4⟩ := hm
      refine ⟨arr, E, q1, ?_, ?_, ?_⟩
      · intro r hr
        rw [ren_rows] at hr
        obtain ⟨r0, hr0, rfl⟩ := List.mem_map.1 hr
        rw [ren_wd]; simpa using q2 r0 hr0
      · rw [ren_rows, ren_wd]; simpa using q3
      · intro i j r c hr hcc
        rw [ren_rows, List.getElem?_map] at hr
        obtain ⟨r0, hr0, rfl⟩ := Option.map_eq_some_iff.1 hr
        rw [List.getElem?_map] at hcc
        obtain ⟨c0, hc0, rfl⟩ := Option.map_eq_some_iff.1 hcc
        rw [ren_wd]
        exact (q4 i j r0 c0 hr0 hc0).ren hσ
  · obtain ⟨R0, h0, rfl⟩ := old k R hk
    obtain ⟨R0', h0', rfl⟩ := old k' R' hk'
    rw [ren_tag] at h1 h2
    exact inj _ _ (h.inj (σ k) _ (σ k') _ b h0 h0' h1 h2)
  · obtain ⟨R0, h0, rfl⟩ := old k R hk
    rw [ren_tag] at h1
    obtain ⟨q1, q2, q3⟩ := h.rootF (σ k) _ b h0 h1
    exact ⟨q1, fun k' i j hb => q2 (σ k') i j hb, q3⟩
  · obtain ⟨e1, e2, e3⟩ := h.fpD (σ k) i j (σ k') i' j' b h1 h2
    exact ⟨inj _ _ e1, e2, e3⟩

def X.rens : List (Nat × Nat) → X → X
  | [], x => x
  | (i, j) :: l, x => X.rens l (x.ren (swp i j))
theorem Rel.rens : ∀ (l : List (Nat × Nat)) {γ : Gh} {x : X}, Rel w0 own γ x.S a w → ∃ γ', γ'.F0 = γ.F0 ∧ Rel w0 own γ' (x.rens l).S a w
  | [], γ, x, h => ⟨γ, rfl, h⟩
  | (i, j) :: l, γ, x, h => by
    obtain ⟨γ', e, h'⟩ := Rel.rens l (h.ren (σ := swp i j) (swp_swp i j))
    exact ⟨γ', e, h'⟩
theorem xwp_rens {c : Code} {Q : Exit → X → Prop} {x : X} (l : List (Nat × Nat)) (h : XWP P c Q (x.rens l)) : XWP P c Q x := fun w0 own γ a w hR => by
  obtain ⟨γ', e, h'⟩ := hR.rens l
  have := h w0 own γ' a w h'
  rw [e] at this; exact this
/-- What is named is kept, in this order. -/
def arrS (s : List (Nat × XRoot)) : List Nat → List (Nat × XRoot)
  | [] => []
  | k :: l => match lookN s k with | some R => (k, R) :: arrS s l | none => arrS s l
theorem arrS_look (s : List (Nat × XRoot)) : ∀ (l : List Nat) (k : Nat) (R : XRoot), lookN (arrS s l) k = some R → lookN s k = some R
  | [], k, R, h => by cases h
  | j :: l, k, R, h => by
    simp only [arrS] at h
    split at h
    · rename_i R0 hj
      simp only [lookN] at h
      split at h
      · rename_i e
        have := beq_true e; subst this
        cases h; exact hj
      · exact arrS_look s l k R h
    · exact arrS_look s l k R h
def X.arr (ts ks : List Nat) (x : X) : X := { tmps := keepT ts 0 x.tmps, store := arrS x.store ks, gens := x.gens }
theorem Rel.arr {x : X} (h : Rel w0 own γ x.S a w) (ts ks : List Nat) : Rel w0 own γ (x.arr ts ks).S a w := by
  have hst : ∀ k R, (x.arr ts ks).S.store k = some R → x.S.store k = some R := by
    intro k R hk
    simp only [X.S, X.arr] at hk ⊢
    obtain ⟨R0, h0, rfl⟩ := Option.map_eq_some_iff.1 hk
    rw [arrS_look _ _ _ _ h0]; rfl
  exact { env := h.env, size := by rw [h.size]; simp [X.S, X.arr, keepT_len], defers := h.defers
          tmps := fun i => by
            have := h.tmps i
            simp only [X.S, X.arr] at this ⊢
            rcases keepT_get ts x.tmps 0 i with e | e
            · rw [e]; exact this
            · rw [e]; exact .dead _
          gen := h.gen
          tag := fun k R hk => h.tag k R (hst k R hk), mem := fun k R hk => h.mem k R (hst k R hk)
          inj := fun k R k' R' b h1 h2 => h.inj k R k' R' b (hst k R h1) (hst k' R' h2)
          rootF := fun k R b h1 => h.rootF k R b (hst k R h1), fpF := h.fpF, fpD := h.fpD, fs := h.fs, lt := h.lt, ltβ := h.ltβ }
theorem xwp_arr {c : Code} {Q : Exit → X → Prop} {x : X} (ts ks : List Nat) (h : XWP P c Q (x.arr ts ks)) : XWP P c Q x := fun w0 own γ a w hR => h w0 own γ a w (hR.arr ts ks)
theorem xwp_postA {c : Code} {Q : Exit → X → Prop} {x : X} (ts ks : List Nat) (h : XWP P c (fun e y => Q e (y.arr ts ks)) x) : XWP P c Q x := fun w0 own γ a w hR =>
  Code.wp_mono (fun e a' w' ⟨γ', x', h1, h2, h3⟩ => ⟨γ', _, h1, h2.arr ts ks, h3⟩) (h w0 own γ a w hR)
/-- One round, the roots that it leaves under the numbers of those that it found. -/
def roundR (P : Program) (H : Hooks) (fn : Func) (i : Nat) (sw : List (Nat × Nat)) (ts ks : List Nat) (V VE : X → X) (N : X → Prop) (E : Exit → X → Prop) (x : X) : Prop :=
  evp P H 200 (bodyL fn i) (fun e y => match e with | .normal => seen V N ((y.rens sw).arr ts ks) | e => seen VE (E e) (y.arr ts ks)) x
theorem xwp_roundR {ι : Type} {H : Hooks} {fn : Func} {i : Nat} (sw : List (Nat × Nat)) {ts ks : List Nat} (hH : CallsOK P H) (hm : P.follows .mixedOrders = true) (hl : LoopsOK P H (bodyL fn i)) (St : ι → X) (inv : ι → Prop) (μ : ι → Nat) {Q : Exit → X → Prop} {x : X} (i0 : ι) (V VE : X → X)
    (hr : ∀ p, inv p → roundR P H fn i sw ts ks V VE (fun y => ∃ p', μ p' < μ p ∧ inv p' ∧ y = St p') Q (St p)) (h0 : inv i0) (hx : x.arr ts ks = St i0) : XWP P (.loop (bodyL fn i)) Q x := by
  refine xwp_arr ts ks (xwp_postA ts ks ?_)
  rw [hx]
  refine xwp_loop (ι := ι) (fun p y => inv p ∧ (y.rens sw).arr ts ks = St p ∨ inv p ∧ y = St p) μ i0 (.inr ⟨h0, rfl⟩) fun p y hy => ?_
  have key : XWP P (bodyL fn i) (fun e y => match e with | .normal => ∃ p', μ p' < μ p ∧ (inv p' ∧ (y.rens sw).arr ts ks = St p' ∨ inv p' ∧ y = St p') | e => Q e (y.arr ts ks)) (St p) := by
    have hp : inv p := hy.elim And.left And.left
    refine xwp_mono (evp_sound hH hm 200 _ _ _ hl (hr p hp)) fun e y he => ?_
    cases e with
    | normal => obtain ⟨p', h1, h2, h3⟩ := seen_out he; exact ⟨p', h1, .inl ⟨h2, h3⟩⟩
    | _ => exact seen_out he
  rcases hy with ⟨_, h⟩ | ⟨_, rfl⟩
  · exact xwp_rens sw (xwp_arr ts ks (by rw [h]; exact key))
  · exact key
end

section
open Go Go.ChangeShapes Go.WideShapes
set_option linter.unusedSimpArgs false
set_option linter.unusedVariables false

/-! ### what comes in, where it is small -/
inductive Sh (N : Nat) : D → Prop
  | v (x : Value) : Sh N (.v x)
  | s (t z : Nat) (rows sp : List (List D)) : rows.length ≤ N → (∀ r ∈ rows, ∀ d ∈ r, Sh N d) → Sh N (.s t z rows sp)
def ShL (N : Nat) (ds : List D) : Prop := ∀ d ∈ ds, Sh N d
theorem ShL.nil (N : Nat) : ShL N [] := fun d h => by cases h
theorem ShL.one {N : Nat} {d : D} (h : Sh N d) : ShL N [d] := fun d' h' => by
  rcases List.mem_cons.1 h' with rfl | h'
  · exact h
  · cases h'
theorem ShL.v (N : Nat) (x : Value) : ShL N [.v x] := ShL.one (.v x)
theorem ShL.append {N : Nat} {a b : List D} (h : ShL N a) (h' : ShL N b) : ShL N (a ++ b) := fun d hd => (List.mem_append.1 hd).elim (h d) (h' d)
theorem Sh.len {N t z : Nat} {rows sp : List (List D)} (h : Sh N (.s t z rows sp)) : rows.length ≤ N := by cases h with | s _ _ _ _ h _ => exact h
theorem Sh.el {N t z : Nat} {rows sp : List (List D)} (h : Sh N (.s t z rows sp)) : ∀ r ∈ rows, ShL N r := by cases h with | s _ _ _ _ _ h => exact h
theorem ShL.cons_inv {N : Nat} {d : D} {ds : List D} (h : ShL N (d :: ds)) : Sh N d ∧ ShL N ds := ⟨h d (by simp), fun e he => h e (by simp [he])⟩
structure Meas {H : Type} (μ : DataW H → Nat) : Prop where
  len : ∀ es sp, es.length ≤ μ (.slice es sp)
  el : ∀ es sp x, x ∈ es → μ x ≤ μ (.slice es sp)
  part : ∀ ps x, x ∈ ps → μ x ≤ μ (.agg ps)
section
variable {P : Program} {H : Type} {enc : TypeId × Value → H} {w : World} {base : Nat} {sp : Nat → Bool} {held : Bool} {μ : DataW H → Nat} {N : Nat}

theorem rdFieldsU {m : Nat} (ih : ∀ (t : TypeId) (c : List KT), ctOf P m t = some c → ∀ (fuel : Nat) (cs : List Value) (x : DataW H × List MemPlace), DataW.trod enc P w base sp held fuel t cs = some x → Reach P t x.1 → μ x.1 ≤ N → ∃ ds, GoodL c ds ∧ DRL w cs ds ∧ ShL N ds) (cs : List Value) :
    ∀ (fs : List Field) (off : Nat) (c : List KT), ctFields P (ctOf P m) fs off = some c → cs.length = off + c.length → (∀ f ∈ fs, ∃ n y, DataW.trod enc P w base sp held n f.type ((cs.drop f.offset).take (P.cellsOf f.type)) = some y ∧ Reach P f.type y.1 ∧ μ y.1 ≤ N) → ∃ ds, GoodL c ds ∧ DRL w (cs.drop off) ds ∧ ShL N ds
  | [], off, c, h, hl, _ => by
    simp [ctFields] at h; subst h
    have : cs.drop off = [] := List.drop_eq_nil_of_le (by simp at hl; omega)
    rw [this]
    exact ⟨[], .nil, trivial, ShL.nil N⟩
  | f :: fs, off, c, h, hl, hf => by
    simp only [ctFields] at h
    split at h
    · rename_i c1 hc1
      split at h
      · rename_i hb
        simp only [Bool.and_eq_true] at hb
        have b1 := beq_true hb.1
        have b2 := beq_true hb.2
        obtain ⟨c2, hc2, rfl⟩ := Option.map_eq_some_iff.1 h
        obtain ⟨n, y, hy, hr, hu⟩ := hf f (by simp)
        obtain ⟨d1, g1, r1, s1⟩ := ih f.type c1 hc1 n _ y hy hr hu
        simp only [List.length_append] at hl
        obtain ⟨d2, g2, r2, s2⟩ := rdFieldsU ih cs fs (off + c1.length) c2 hc2 (by omega) fun f' hm => hf f' (by simp [hm])
        refine ⟨d1 ++ d2, g1.append g2, ?_, s1.append s2⟩
        rw [b1, b2] at r1
        have e : cs.drop off = (cs.drop off).take c1.length ++ cs.drop (off + c1.length) := by
          rw [← List.drop_drop, List.take_append_drop]
        rw [e]
        exact r1.append r2
      · cases h
    · cases h

theorem rdArrayU {m : Nat} {e : TypeId} {c : List KT} (ih : ∀ (fuel : Nat) (cs : List Value) (x : DataW H × List MemPlace), DataW.trod enc P w base sp held fuel e cs = some x → Reach P e x.1 → μ x.1 ≤ N → ∃ ds, GoodL c ds ∧ DRL w cs ds ∧ ShL N ds) (hb : P.cellsOf e = c.length) :
    ∀ (n : Nat) (cs : List Value), cs.length = n * c.length → (∀ i, i < n → ∃ k y, DataW.trod enc P w base sp held k e ((cs.drop (i * c.length)).take c.length) = some y ∧ Reach P e y.1 ∧ μ y.1 ≤ N) → ∃ ds, GoodL (List.replicate n c).flatten ds ∧ DRL w cs ds ∧ ShL N ds
  | 0, cs, hl, _ => by
    have : cs = [] := List.eq_nil_of_length_eq_zero (by simpa using hl)
    subst this
    exact ⟨[], .nil, trivial, ShL.nil N⟩
  | n + 1, cs, hl, h => by
    obtain ⟨k, y, hy, hr, hu⟩ := h 0 (Nat.succ_pos _)
    simp only [Nat.zero_mul, List.drop_zero] at hy
    obtain ⟨d1, g1, r1, s1⟩ := ih k _ y hy hr hu
    have hl' : cs.length = n * c.length + c.length := by rw [hl, Nat.succ_mul]
    obtain ⟨d2, g2, r2, s2⟩ := rdArrayU (m := m) ih hb n (cs.drop c.length) (by simp; omega) fun i hi => by
      obtain ⟨k, y, hy, hr, hu⟩ := h (i + 1) (by omega)
      refine ⟨k, y, ?_, hr, hu⟩
      rw [List.drop_drop]
      have : c.length + i * c.length = (i + 1) * c.length := by rw [Nat.succ_mul]; omega
      rw [this]; exact hy
    refine ⟨d1 ++ d2, ?_, ?_, s1.append s2⟩
    · simp only [List.replicate_succ, List.flatten_cons]; exact g1.append g2
    · have e : cs = cs.take c.length ++ cs.drop c.length := (List.take_append_drop _ _).symm
      rw [e]; exact r1.append r2

theorem rdCU (hm : Meas μ) : ∀ (m : Nat) (t : TypeId) (c : List KT), ctOf P m t = some c → ∀ (fuel : Nat) (cs : List Value) (x : DataW H × List MemPlace), DataW.trod enc P w base sp held fuel t cs = some x → Reach P t x.1 → μ x.1 ≤ N → ∃ ds, GoodL c ds ∧ DRL w cs ds ∧ ShL N ds
  | 0, t, c, h, _, _, _, _, _, _ => by simp [ctOf] at h
  | m + 1, t, c, h, fuel, cs, x, hx, hr, hN => by
    simp only [ctOf] at h
    split at h
    · rename_i hu
      cases h
      obtain ⟨n, rfl, rfl, hw⟩ := DataW.trod_int hu hx
      exact ⟨[vI n], .cons (.int n hw) .nil, ⟨.v _ rfl, trivial⟩, ShL.v N _⟩
    · rename_i hu
      cases h
      obtain ⟨b, rfl, rfl⟩ := DataW.trod_bool hu hx
      exact ⟨[.v (.bool b)], .cons (.bool b) .nil, ⟨.v _ rfl, trivial⟩, ShL.v N _⟩
    · rename_i fs hu
      split at h
      · rename_i c' hc'
        split at h
        · rename_i hb
          cases h
          have hb := beq_true hb
          obtain ⟨xs, n, _, rfl, hl, hxs, hf⟩ := DataW.trod_struct hu hx
          obtain ⟨ds, g1, g2, g3⟩ := rdFieldsU (rdCU hm m) cs fs.toList 0 c hc' (by rw [hl, hb]; simp) fun f hmem => by
            obtain ⟨i, hi⟩ := List.getElem?_of_mem hmem
            have hi' : fs[i]? = some f := by rw [← Array.getElem?_toList]; exact hi
            have hlt : i < xs.length := by rw [hxs]; exact (Array.getElem?_eq_some_iff.1 hi').1
            refine ⟨n, xs[i], by rw [hf i f hi', List.getElem?_eq_getElem hlt], fun k hk => hr k ?_, Nat.le_trans (hm.part _ _ (List.mem_map.2 ⟨xs[i], List.getElem_mem hlt, rfl⟩)) hN⟩
            simp only [DataW.weights, hu]
            exact DataW.weights_mem_each (j := i) (by rw [List.getElem?_map, hi]; rfl) (by rw [List.getElem?_map, List.getElem?_eq_getElem hlt]; rfl) k hk
          exact ⟨ds, g1, by simpa using g2, g3⟩
        · cases h
      · cases h
    · rename_i n e hu
      split at h
      · rename_i c' hc'
        split at h
        · rename_i hb
          cases h
          simp only [Bool.and_eq_true] at hb
          have b1 := beq_true hb.1
          have b2 := beq_true hb.2
          obtain ⟨xs, k, _, rfl, hl, hxs, hf⟩ := DataW.trod_array hu hx
          refine rdArrayU (m := m) (rdCU hm m e c' hc') b1 n cs (by rw [hl, b2]) fun i hi => ?_
          have hlt : i < xs.length := by omega
          have := hf i hi
          rw [b1, List.getElem?_eq_getElem hlt] at this
          refine ⟨k, _, this, fun q hq => hr q ?_, Nat.le_trans (hm.part _ _ (List.mem_map.2 ⟨xs[i], List.getElem_mem hlt, rfl⟩)) hN⟩
          simp only [DataW.weights, hu]
          exact weights_mem_all (List.mem_map.2 ⟨xs[i], List.getElem_mem hlt, rfl⟩) hq
        · cases h
      · cases h
    · rename_i e hu
      split at h
      · rename_i c' hc'
        split at h
        · rename_i hb
          cases h
          simp only [Bool.and_eq_true] at hb
          have b1 := beq_true hb.1
          have b2 := Nat.le_of_ble_eq_true hb.2
          rcases Deep.open_slice hu hx with ⟨rfl, rfl⟩ | ⟨a, len, cap, q, n, D0, Pl, rfl, hba, hlc, hcm, hqq, rfl, hcell⟩
          · exact ⟨[.s 0 c'.length [] []], .cons (.sl _ _ [] (by simp) (by simp) (by simp)) .nil, ⟨.e none 0 c'.length 0, trivial⟩, ShL.one (.s 0 _ [] [] (Nat.zero_le _) (by simp))⟩
          · have hlq : len ≤ q := by rw [hqq]; split <;> omega
            have hsz : (len + (q - len)) * P.bytesOf e ≤ reachBytes := hr _ (by simp [DataW.weights, hu])
            obtain ⟨V, hV⟩ := Deep.choose_lt (α := List Value × List D) (n := len) (p := fun i r => w.cells? base (a.add (i * c'.length)) c'.length = some r.1 ∧ GoodL c' r.2 ∧ DRL w r.1 r.2 ∧ ShL N r.2) (fun i hi => by
              obtain ⟨cs', g1, g2⟩ := hcell i (by omega)
              rw [b1] at g1
              obtain ⟨ds, q1, q2, q3⟩ := rdCU hm m e c' hc' n cs' _ g2 (fun k hk => hr k (by
                simp only [DataW.weights, hu]
                refine List.mem_cons_of_mem _ (List.mem_append_left _ (weights_mem_all (List.mem_map.2 ⟨i, by simpa using hi, rfl⟩) hk)))) (Nat.le_trans (hm.el _ _ _ (List.mem_map.2 ⟨i, by simpa using hi, rfl⟩)) hN)
              exact ⟨(cs', ds), g1, q1, q2, q3⟩)
            have hlen9 : len ≤ 9223372036854775807 := Nat.le_trans hlc hcm
            have hlN : len ≤ N := Nat.le_trans (Nat.le_trans (Nat.le_of_eq (by simp)) (hm.len _ _)) hN
            refine ⟨[.s 0 c'.length ((List.range len).map fun i => (V i).2) []], .cons (.sl _ _ _ ?_ (by simpa using hlen9) fun r hr' => ?_) .nil, ⟨?_, trivial⟩, ShL.one (.s 0 _ _ [] (by simpa using hlN) fun r hr' d hd => ?_)⟩
            · rw [List.length_map, List.length_range]
              refine Nat.le_trans ?_ hsz
              exact Nat.mul_le_mul_right _ (Nat.le_add_right _ _)
            · obtain ⟨i, hi, rfl⟩ := List.mem_map.1 hr'
              exact (hV i (by simpa using hi)).2.1
            · rcases Nat.eq_zero_or_pos len with hz0 | hpos
              · subst hz0; simpa using DR.e (w := w) (G := (· < w.heap.size)) (some a) 0 c'.length cap
              · have hrl : ∀ i, i < len → (V i).2.length = c'.length ∧ (V i).1.length = c'.length := fun i hi => by
                  obtain ⟨_, g, r, _⟩ := hV i hi
                  exact ⟨g.len.symm, by rw [r.get.1, g.len]⟩
                have hcl : ∀ i j, i < len → j < c'.length → w.cell? ((a.add (i * c'.length)).add j) = some ((V i).1.getD j undef) := fun i j hi hj => by
                  obtain ⟨q1, _, _, _⟩ := hV i hi
                  obtain ⟨_, _, q4⟩ := World.cells?_some q1
                  rw [q4 j hj]
                  have : j < (V i).1.length := by rw [(hrl i hi).2]; exact hj
                  simp [List.getD_eq_getElem?_getD, this]
                have hspot : a.spot = none ∧ a.block < w.heap.size := by
                  have := hcl 0 0 hpos b2
                  simp only [Nat.zero_mul, Addr.add, if_true] at this
                  unfold World.cell? at this
                  split at this
                  · rename_i hh
                    refine ⟨?_, ?_⟩
                    · cases hs : a.spot with
                      | none => rfl
                      | some q => rw [hs] at this; simp at this
                    · rcases Nat.lt_or_ge a.block w.heap.size with h' | h'
                      · exact h'
                      · rw [Array.getElem?_eq_none h'] at hh; cases hh
                  · cases this
                obtain ⟨b, off, spot⟩ := a
                simp only at hspot
                obtain ⟨rfl, hblk⟩ := hspot
                have key := DR.s (w := w) (G := (· < w.heap.size)) 0 ((List.range len).map fun i => (V i).2) [] b off cap c'.length (fun i j => (V i).1.getD j undef) hblk (fun r hr' => by
                  simp only [List.append_nil] at hr'
                  obtain ⟨i, hi, rfl⟩ := List.mem_map.1 hr'
                  exact (hrl i (by simpa using hi)).1) (by simpa using hlc) (fun i j hi hj => by
                  have := hcl i j (by simpa using hi) hj
                  rw [addr_add, addr_add] at this
                  rw [← Nat.add_assoc]; exact this) (fun i j r d h1 h2 => by
                  simp only [List.append_nil, List.getElem?_map] at h1
                  obtain ⟨i', hi', rfl⟩ := Option.map_eq_some_iff.1 h1
                  have hi2 := List.getElem?_eq_some_iff.1 hi'
                  obtain ⟨hlt, he⟩ := hi2
                  simp at hlt he
                  subst he
                  obtain ⟨_, _, r, _⟩ := hV i hlt
                  have hj : j < (V i).1.length := by rw [r.get.1]; exact (List.getElem?_eq_some_iff.1 h2).1
                  rw [show (V i).1.getD j undef = (V i).1[j] by simp [List.getD_eq_getElem?_getD, hj]]
                  exact r.get.2 j _ d (List.getElem?_eq_getElem hj) h2)
                simpa using key
            · obtain ⟨i, hi, rfl⟩ := List.mem_map.1 hr'
              exact (hV i (by simpa using hi)).2.2.2 d hd
        · cases h
      · cases h
    · cases h

/-- A struct or an array that came in. -/
theorem rd_aggU {t : TypeId} {c : List KT} {v : Value} {d : DataW H} {ps : List MemPlace} (hm : Meas μ) (m : Nat) (hc : ctOf P m t = some c) (hv : ∃ cs, v = .agg cs) (hd : DataW.Trod enc P w base sp held t v d ps) {ts : List TypeId} {dd : List (DataW H)}
    (hs : (DataW.weightsEach P ts dd).all (· ≤ reachBytes) = true) {j : Nat} (h1 : ts[j]? = some t) (h2 : dd[j]? = some d) (hN : μ d ≤ N) : ∃ ds, (GoodL c ds ∧ ShL N ds) ∧ OV w (· < w.heap.size) v (.agg ds) fun _ => False := by
  obtain ⟨cs, rfl⟩ := hv
  obtain ⟨fuel, hf⟩ := hd
  obtain ⟨ds, g, r, s⟩ := rdCU hm m t c hc fuel cs.toList _ (show DataW.trod enc P w base sp held fuel t cs.toList = some _ from hf) (reach_of hs h1 h2) hN
  obtain ⟨l, r⟩ := r.get
  refine ⟨ds, ⟨g, s⟩, .agg _ _ _ (fun _ _ => False) (by simpa using l) (fun i d hd => ?_) (fun _ _ h => h.elim) (fun _ _ _ h => h.elim)⟩
  have hlt : i < cs.toList.length := by rw [l]; exact (List.getElem?_eq_some_iff.1 hd).1
  obtain ⟨k, hk⟩ := g.mem d (List.mem_of_getElem? hd)
  have e : cs.getD i undef = cs.toList[i] := by
    have : i < cs.size := by simpa using hlt
    simp [Array.getD_eq_getD_getElem?, this]
  rw [e]
  exact .r _ _ _ hk.not_own (r i _ d (List.getElem?_eq_getElem hlt) hd)
/-- A slice that came in. -/
theorem rd_slU {t : TypeId} {c : KT} {v : Value} {d : DataW H} {ps : List MemPlace} (hm : Meas μ) (m : Nat) (hc : ctOf P m t = some [c]) (hv : ∃ A len cap, v = .slice A len cap) (hd : DataW.Trod enc P w base sp held t v d ps) {ts : List TypeId} {dd : List (DataW H)}
    (hs : (DataW.weightsEach P ts dd).all (· ≤ reachBytes) = true) {j : Nat} (h1 : ts[j]? = some t) (h2 : dd[j]? = some d) (hN : μ d ≤ N) : ∃ x, (Good c x ∧ Sh N x) ∧ OV w (· < w.heap.size) v (.c x) fun _ => False := by
  obtain ⟨A, len, cap, rfl⟩ := hv
  obtain ⟨fuel, hf⟩ := hd
  obtain ⟨ds, g, r, s⟩ := rdCU hm m t [c] hc fuel [.slice A len cap] _ (show DataW.trod enc P w base sp held fuel t [.slice A len cap] = some _ from hf) (reach_of hs h1 h2) hN
  obtain ⟨x, ds', rfl, gx, g'⟩ := g.cons_inv
  have := g'.nil_inv
  subst this
  exact ⟨x, ⟨gx, s x (by simp)⟩, .c _ _ _ (.r _ _ _ gx.not_own r.1)⟩
end
end

section
open Go
set_option linter.unusedSimpArgs false
set_option linter.unusedVariables false

/-! ### a state, taken apart -/
def wI (y : X) (i : Nat) (K : Int → Prop) : Prop := match y.tmps.getD i .dead with | .c (.d (.v (.int .i64 n))) => K n | _ => False
def wB (y : X) (i : Nat) (K : Bool → Prop) : Prop := match y.tmps.getD i .dead with | .c (.d (.v (.bool n))) => K n | _ => False
def wL (y : X) (k : Nat) (K : List (List D) → Prop) : Prop := match lookN y.store k with | some (.sl _ _ rows) => K rows | _ => False
def wR (y : X) (k : Nat) (K : List C → Prop) : Prop := match lookN y.store k with | some (.bx _ _ row) => K row | _ => False
def wC (r : List C) (K : C → List C → Prop) : Prop := match r with | c :: r => K c r | [] => False
def cI (c : C) (K : Int → Prop) : Prop := match c with | .d (.v (.int .i64 n)) => K n | _ => False
def cB (c : C) (K : Bool → Prop) : Prop := match c with | .d (.v (.bool n)) => K n | _ => False
def cS (c : C) (K : Nat → Nat → Prop) : Prop := match c with | .rs _ _ _ _ n m => K n m | _ => False
def aS' (y : X) (i : Nat) (K : Nat → Nat → Prop) : Prop := match y.tmps.getD i .dead with | .c (.rs _ _ _ _ n m) => K n m | _ => False
/-- So many numbers. -/
def wIs : Nat → List C → (List Int → List C → Prop) → Prop
  | 0, r, K => K [] r
  | n + 1, r, K => wC r fun c r => cI c fun x => wIs n r fun l r => K (x :: l) r
/-- So many slices: how long they are, and what is known. -/
def wSs : Nat → List C → (List (Nat × Nat) → List C → Prop) → Prop
  | 0, r, K => K [] r
  | n + 1, r, K => wC r fun c r => cS c fun a b => wSs n r fun l r => K ((a, b) :: l) r
theorem wI_ex {y : X} {i : Nat} {K : Int → Prop} (h : wI y i K) : ∃ n, K n := by unfold wI at h; split at h; exact ⟨_, h⟩; exact h.elim
theorem wB_ex {y : X} {i : Nat} {K : Bool → Prop} (h : wB y i K) : ∃ n, K n := by unfold wB at h; split at h; exact ⟨_, h⟩; exact h.elim
theorem wL_ex {y : X} {i : Nat} {K : List (List D) → Prop} (h : wL y i K) : ∃ n, K n := by unfold wL at h; split at h; exact ⟨_, h⟩; exact h.elim
theorem wR_ex {y : X} {i : Nat} {K : List C → Prop} (h : wR y i K) : ∃ n, K n := by unfold wR at h; split at h; exact ⟨_, h⟩; exact h.elim
theorem wC_ex {r : List C} {K : C → List C → Prop} (h : wC r K) : ∃ a b, K a b := by unfold wC at h; split at h; exact ⟨_, _, h⟩; exact h.elim
theorem cI_ex {c : C} {K : Int → Prop} (h : cI c K) : ∃ n, K n := by unfold cI at h; split at h; exact ⟨_, h⟩; exact h.elim
theorem cB_ex {c : C} {K : Bool → Prop} (h : cB c K) : ∃ n, K n := by unfold cB at h; split at h; exact ⟨_, h⟩; exact h.elim
theorem cS_ex {c : C} {K : Nat → Nat → Prop} (h : cS c K) : ∃ n m, K n m := by unfold cS at h; split at h; exact ⟨_, _, h⟩; exact h.elim
theorem aS'_ex {y : X} {i : Nat} {K : Nat → Nat → Prop} (h : aS' y i K) : ∃ n m, K n m := by unfold aS' at h; split at h; exact ⟨_, _, h⟩; exact h.elim
theorem wIs_ex : ∀ {n : Nat} {r : List C} {K : List Int → List C → Prop}, wIs n r K → ∃ l r, K l r
  | 0, r, K, h => ⟨_, _, h⟩
  | n + 1, r, K, h => by
    obtain ⟨c, r, h⟩ := wC_ex h
    obtain ⟨x, h⟩ := cI_ex h
    obtain ⟨l, r, h⟩ := wIs_ex h
    exact ⟨_, _, h⟩
theorem wSs_ex : ∀ {n : Nat} {r : List C} {K : List (Nat × Nat) → List C → Prop}, wSs n r K → ∃ l r, K l r
  | 0, r, K, h => ⟨_, _, h⟩
  | n + 1, r, K, h => by
    obtain ⟨c, r, h⟩ := wC_ex h
    obtain ⟨a, b, h⟩ := cS_ex h
    obtain ⟨l, r, h⟩ := wSs_ex h
    exact ⟨_, _, h⟩
/-- A way to take a state apart and to put it together again. -/
abbrev Vw := X → (X → Prop) → Prop
def VwOK (V : Vw) : Prop := ∀ y K, V y K → ∃ z, K z
def seenW (V : Vw) (N : X → Prop) (y : X) : Prop := V y fun z => y = z ∧ N z
theorem seenW_out {V : Vw} (hV : VwOK V) {N : X → Prop} {y : X} (h : seenW V N y) : N y := by
  obtain ⟨z, e, h⟩ := hV y _ h
  rw [e]; exact h
/-- One round, the roots that it leaves under the numbers of those that it found. -/
def roundV (P : Program) (H : Hooks) (fn : Func) (i : Nat) (sw : List (Nat × Nat)) (ts ks : List Nat) (V : Vw) (VE : Exit → Vw) (N : X → Prop) (E : Exit → X → Prop) (x : X) : Prop :=
  evp P H 200 (bodyL fn i) (fun e y => match e with | .normal => seenW V N ((y.rens sw).arr ts ks) | e => seenW (VE e) (E e) (y.arr ts ks)) x
abbrev roundW (P : Program) (H : Hooks) (fn : Func) (i : Nat) (sw : List (Nat × Nat)) (ts ks : List Nat) (V VE : Vw) (N : X → Prop) (E : Exit → X → Prop) (x : X) : Prop := roundV P H fn i sw ts ks V (fun _ => VE) N E x
variable {P : Program}
theorem xwp_roundV {ι : Type} {fn : Func} {i : Nat} (sw : List (Nat × Nat)) {ts ks : List Nat} (hm : P.follows .mixedOrders = true) (St : ι → X) (inv : ι → Prop) (μ : ι → Nat) {Q : Exit → X → Prop} {x : X} (i0 : ι) (V : Vw) (VE : Exit → Vw) (hV : VwOK V) (hVE : ∀ e, VwOK (VE e))
    (hr : ∀ p, inv p → ∃ H, CallsOK P H ∧ LoopsOK P H (bodyL fn i) ∧ roundV P H fn i sw ts ks V VE (fun y => ∃ p', μ p' < μ p ∧ inv p' ∧ y = St p') Q (St p)) (h0 : inv i0) (hx : x.arr ts ks = St i0) : XWP P (.loop (bodyL fn i)) Q x := by
  refine xwp_arr ts ks (xwp_postA ts ks ?_)
  rw [hx]
  refine xwp_loop (ι := ι) (fun p y => inv p ∧ (y.rens sw).arr ts ks = St p ∨ inv p ∧ y = St p) μ i0 (.inr ⟨h0, rfl⟩) fun p y hy => ?_
  have key : XWP P (bodyL fn i) (fun e y => match e with | .normal => ∃ p', μ p' < μ p ∧ (inv p' ∧ (y.rens sw).arr ts ks = St p' ∨ inv p' ∧ y = St p') | e => Q e (y.arr ts ks)) (St p) := by
    have hp : inv p := hy.elim And.left And.left
    obtain ⟨H, hH, hl, hr⟩ := hr p hp
    refine xwp_mono (evp_sound hH hm 200 _ _ _ hl hr) fun e y he => ?_
    cases e with
    | normal => obtain ⟨p', h1, h2, h3⟩ := seenW_out hV he; exact ⟨p', h1, .inl ⟨h2, h3⟩⟩
    | _ => exact seenW_out (hVE _) he
  rcases hy with ⟨_, h⟩ | ⟨_, rfl⟩
  · exact xwp_rens sw (xwp_arr ts ks (by rw [h]; exact key))
  · exact key
theorem xwp_roundX {ι : Type} {fn : Func} {i : Nat} (sw : List (Nat × Nat)) {ts ks : List Nat} (hm : P.follows .mixedOrders = true) (St : ι → X) (inv : ι → Prop) (μ : ι → Nat) {Q : Exit → X → Prop} {x : X} (i0 : ι) (V VE : Vw) (hV : VwOK V) (hVE : VwOK VE)
    (hr : ∀ p, inv p → ∃ H, CallsOK P H ∧ LoopsOK P H (bodyL fn i) ∧ roundW P H fn i sw ts ks V VE (fun y => ∃ p', μ p' < μ p ∧ inv p' ∧ y = St p') Q (St p)) (h0 : inv i0) (hx : x.arr ts ks = St i0) : XWP P (.loop (bodyL fn i)) Q x :=
  xwp_roundV sw hm St inv μ i0 V (fun _ => VE) hV (fun _ => hVE) hr h0 hx
theorem xwp_roundW {ι : Type} {H : Hooks} {fn : Func} {i : Nat} (sw : List (Nat × Nat)) {ts ks : List Nat} (hH : CallsOK P H) (hm : P.follows .mixedOrders = true) (hl : LoopsOK P H (bodyL fn i)) (St : ι → X) (inv : ι → Prop) (μ : ι → Nat) {Q : Exit → X → Prop} {x : X} (i0 : ι) (V VE : Vw) (hV : VwOK V) (hVE : VwOK VE)
    (hr : ∀ p, inv p → roundW P H fn i sw ts ks V VE (fun y => ∃ p', μ p' < μ p ∧ inv p' ∧ y = St p') Q (St p)) (h0 : inv i0) (hx : x.arr ts ks = St i0) : XWP P (.loop (bodyL fn i)) Q x :=
  xwp_roundX sw hm St inv μ i0 V VE hV hVE (fun p hp => ⟨H, hH, hl, hr p hp⟩) h0 hx
end

section
open Go
set_option linter.unusedSimpArgs false
set_option linter.unusedVariables false

/-! ### loops that look for something -/
def firstAt (bad : Nat → Bool) (n i : Nat) : Prop := i < n ∧ bad i = true ∧ ∀ j, j < i → bad j = false
def noneTo (bad : Nat → Bool) (n : Nat) : Prop := ∀ j, j < n → bad j = false
def findS (ts ks : List Nat) (St Sr : Nat → X) (n : Nat) (bad : Nat → Bool) (r e : Exit) : LSum := fun Q x => x.arr ts ks = St 0 ∧ (∀ i : Nat, firstAt bad n i → Q r (Sr i)) ∧ (noneTo bad n → Q e (St n))
/-- One way to see a state that returns, another one for what goes on. -/
def exV (a b : Vw) : Exit → Vw
  | .ret => a
  | _ => b
theorem exV_ok {a b : Vw} (ha : VwOK a) (hb : VwOK b) (e : Exit) : VwOK (exV a b e) := by cases e <;> assumption
variable {P : Program}
theorem xwp_findV {fn : Func} {k : Nat} {sw : List (Nat × Nat)} {ts ks : List Nat} {V : Vw} {VE : Exit → Vw} (hm : P.follows .mixedOrders = true) (hV : VwOK V) (hVE : ∀ e, VwOK (VE e))
    (St Sr : Nat → X) (n : Nat) (bad : Nat → Bool) (r e : Exit)
    (hs : ∀ i, i < n → ∃ H, CallsOK P H ∧ LoopsOK P H (bodyL fn k) ∧ ∀ (N : X → Prop) (E : Exit → X → Prop), (bad i = true → E r (Sr i)) → (bad i = false → N (St (i + 1))) → roundV P H fn k sw ts ks V VE N E (St i))
    (he : ∃ H, CallsOK P H ∧ LoopsOK P H (bodyL fn k) ∧ ∀ (N : X → Prop) (E : Exit → X → Prop), E e (St n) → roundV P H fn k sw ts ks V VE N E (St n))
    (Q : Exit → X → Prop) (x : X) (h : findS ts ks St Sr n bad r e Q x) : XWP P (.loop (bodyL fn k)) Q x := by
  obtain ⟨h1, h2, h3⟩ := h
  refine xwp_roundV (ι := Nat) sw hm St (fun i => i ≤ n ∧ ∀ j, j < i → bad j = false) (fun i => n - i) 0 V VE hV hVE (fun i hp => ?_) ⟨Nat.zero_le _, fun j hj => by omega⟩ h1
  obtain ⟨hi, hj⟩ := hp
  by_cases hl : i < n
  · obtain ⟨H, c1, c2, c3⟩ := hs i hl
    refine ⟨H, c1, c2, c3 _ _ (fun hb => h2 i ⟨hl, hb, hj⟩) (fun hb => ⟨i + 1, by omega, ⟨hl, fun j hji => ?_⟩, rfl⟩)⟩
    rcases Nat.lt_succ_iff_lt_or_eq.1 hji with hji | rfl
    · exact hj j hji
    · exact hb
  · have e : i = n := by omega
    subst e
    obtain ⟨H, c1, c2, c3⟩ := he
    exact ⟨H, c1, c2, c3 _ _ (h3 hj)⟩
theorem xwp_findX {fn : Func} {k : Nat} {sw : List (Nat × Nat)} {ts ks : List Nat} {V VE : Vw} (hm : P.follows .mixedOrders = true) (hV : VwOK V) (hVE : VwOK VE)
    (St Sr : Nat → X) (n : Nat) (bad : Nat → Bool) (r e : Exit)
    (hs : ∀ i, i < n → ∃ H, CallsOK P H ∧ LoopsOK P H (bodyL fn k) ∧ ∀ (N : X → Prop) (E : Exit → X → Prop), (bad i = true → E r (Sr i)) → (bad i = false → N (St (i + 1))) → roundW P H fn k sw ts ks V VE N E (St i))
    (he : ∃ H, CallsOK P H ∧ LoopsOK P H (bodyL fn k) ∧ ∀ (N : X → Prop) (E : Exit → X → Prop), E e (St n) → roundW P H fn k sw ts ks V VE N E (St n))
    (Q : Exit → X → Prop) (x : X) (h : findS ts ks St Sr n bad r e Q x) : XWP P (.loop (bodyL fn k)) Q x :=
  xwp_findV (VE := fun _ => VE) hm hV (fun _ => hVE) St Sr n bad r e hs he Q x h
theorem xwp_find {H : Hooks} {fn : Func} {k : Nat} {sw : List (Nat × Nat)} {ts ks : List Nat} {V VE : Vw} (hH : CallsOK P H) (hm : P.follows .mixedOrders = true) (hl : LoopsOK P H (bodyL fn k)) (hV : VwOK V) (hVE : VwOK VE)
    (St Sr : Nat → X) (n : Nat) (bad : Nat → Bool) (r e : Exit)
    (hs : ∀ i, i < n → ∀ (N : X → Prop) (E : Exit → X → Prop), (bad i = true → E r (Sr i)) → (bad i = false → N (St (i + 1))) → roundW P H fn k sw ts ks V VE N E (St i))
    (he : ∀ (N : X → Prop) (E : Exit → X → Prop), E e (St n) → roundW P H fn k sw ts ks V VE N E (St n))
    (Q : Exit → X → Prop) (x : X) (h : findS ts ks St Sr n bad r e Q x) : XWP P (.loop (bodyL fn k)) Q x :=
  xwp_findX hm hV hVE St Sr n bad r e (fun i hi => ⟨H, hH, hl, hs i hi⟩) ⟨H, hH, hl, he⟩ Q x h
theorem firstAt.b {bad : Nat → Bool} {n i : Nat} (h : firstAt bad n i) : (List.range n).any bad = true := List.any_eq_true.2 ⟨i, by simpa using h.1, h.2.1⟩
theorem noneTo.b {bad : Nat → Bool} {n : Nat} (h : noneTo bad n) : (List.range n).any bad = false := by
  rw [List.any_eq_false]; intro x hx; simp at hx; simp [h x hx]
theorem firstAt.any {α : Type} {l : List α} {d : α} {p : α → Bool} {i : Nat} (h : firstAt (fun i => p (l.getD i d)) l.length i) : l.any p = true := by
  obtain ⟨h1, h2, _⟩ := h
  refine List.any_eq_true.2 ⟨l[i], List.getElem_mem h1, ?_⟩
  simpa [List.getD_eq_getElem?_getD, h1] using h2
theorem noneTo.any {α : Type} {l : List α} {d : α} {p : α → Bool} (h : noneTo (fun i => p (l.getD i d)) l.length) : l.any p = false := by
  rw [List.any_eq_false]
  intro x hx
  obtain ⟨j, hj, rfl⟩ := List.mem_iff_getElem.1 hx
  have := h j hj
  simpa [List.getD_eq_getElem?_getD, hj] using this
theorem firstAt.find {α : Type} {l : List α} {d : α} {p : α → Bool} {i : Nat} (h : firstAt (fun i => p (l.getD i d)) l.length i) : l.findIdx? p = some i := by
  obtain ⟨h1, h2, h3⟩ := h
  rw [List.findIdx?_eq_some_iff_getElem]
  refine ⟨h1, by simpa [List.getD_eq_getElem?_getD, h1] using h2, fun j hji => ?_⟩
  have := h3 j hji
  simpa [List.getD_eq_getElem?_getD, Nat.lt_trans hji h1] using this
theorem noneTo.find {α : Type} {l : List α} {d : α} {p : α → Bool} (h : noneTo (fun i => p (l.getD i d)) l.length) : l.findIdx? p = none := by
  rw [List.findIdx?_eq_none_iff]
  intro x hx
  obtain ⟨j, hj, rfl⟩ := List.mem_iff_getElem.1 hx
  have := h j hj
  simpa [List.getD_eq_getElem?_getD, hj] using this
end

section
open Go
set_option linter.unusedSimpArgs false
set_option linter.unusedVariables false

variable {P : Program} {w0 : World} {own : Nat → Prop} {γ : Gh} {a : Act} {w : World}

/-! ### a box that never turns from now on -/
def isP : D → Bool
  | .v _ => true
  | _ => false
def stripF : List C → Option (List D)
  | [] => some []
  | .d x :: l => match x.top0 with | true => (stripF l).map (x :: ·) | false => none
  | _ :: _ => none
def frz0 (k t : Nat) (row : List D) : C → C
  | .rp k' g wd i j => match Nat.beq k' k && (Nat.beq g t && Nat.beq i 0) with | true => .d (.p 0 row j) | false => .rp k' g wd i j
  | c => c
def frzC (k t : Nat) (row : List D) : C → C
  | .cf fn fs cs => match stripF (fs.map (frz0 k t row)), stripF (cs.map (frz0 k t row)) with | some a, some b => .d (.f fn a b) | _, _ => .cf fn fs cs
  | c => frz0 k t row c
def frzA (k t : Nat) (row : List D) : A → A
  | .c y => .c (frzC k t row y)
  | y => y
def X.frz (k t : Nat) (row : List D) (x : X) : X := { x with tmps := x.tmps.map (frzA k t row), store := x.store.filter fun p => !Nat.beq p.1 k }

theorem filter_look (k : Nat) : ∀ (s : List (Nat × XRoot)) (i : Nat), lookN (s.filter fun p => !Nat.beq p.1 k) i = match Nat.beq i k with | true => none | false => lookN s i
  | [], i => by cases Nat.beq i k <;> rfl
  | (j, R) :: l, i => by
    have ih := filter_look k l i
    cases hj : Nat.beq j k with
    | true =>
      have e : (((j, R) :: l).filter fun p => !Nat.beq p.1 k) = l.filter fun p => !Nat.beq p.1 k := by simp [List.filter, hj]
      rw [e, ih]
      cases hi : Nat.beq i k with
      | true => rfl
      | false =>
        simp only [lookN]
        have : Nat.beq j i = false := by
          have := beq_true hj; subst this
          exact beq_ne fun e => beq_false hi e.symm
        rw [this]
    | false =>
      have e : (((j, R) :: l).filter fun p => !Nat.beq p.1 k) = (j, R) :: l.filter fun p => !Nat.beq p.1 k := by simp [List.filter, hj]
      rw [e]
      simp only [lookN]
      cases hji : Nat.beq j i with
      | true =>
        have := beq_true hji; subst this
        rw [hj]
      | false => rw [ih]

theorem stripF_spec : ∀ (l : List C) (r : List D), stripF l = some r → l = r.map C.d ∧ r.all D.top0 = true
  | [], r, h => by simp [stripF] at h; subst h; exact ⟨rfl, rfl⟩
  | c :: l, r, h => by
    cases c with
    | d x =>
      simp only [stripF] at h
      split at h
      · rename_i ht
        obtain ⟨r', h1, rfl⟩ := Option.map_eq_some_iff.1 h
        obtain ⟨i1, i2⟩ := stripF_spec l r' h1
        exact ⟨by rw [i1]; rfl, by simp [ht, i2]⟩
      · cases h
    | _ => simp [stripF] at h

theorem Rel.frz {x : X} (h : Rel w0 own γ x.S a w) {k t wd : Nat} {row : List D} (hk : lookN x.store k = some (.bx t wd (row.map C.d))) (hp : row.all isP = true) : ∃ γ', γ'.F0 = γ.F0 ∧ Rel w0 own γ' (x.frz k t row).S a w := by
  have hk' : x.S.store k = some ⟨t, true, wd, [row.map C.d]⟩ := by simp [X.S, hk, XRoot.root]
  have hm := h.mem k _ hk'
  unfold RootOK at hm
  simp only at hm
  cases hβ : γ.β k t with
  | none => rw [hβ] at hm; cases hm
  | some b =>
    rw [hβ] at hm
    obtain ⟨arr, E, harr, hw, hsz, hcell⟩ := hm
    obtain ⟨r1, r2, r3⟩ := h.rootF k _ b hk' hβ
    have hlt : b < w.heap.size := h.ltβ k t b (by rw [h.gen]; exact h.tag k _ hk') hβ
    have hst : ∀ i R, (x.frz k t row).S.store i = some R → i ≠ k ∧ x.S.store i = some R := by
      intro i R hi
      simp only [X.S, X.frz, filter_look] at hi ⊢
      cases e : Nat.beq i k with
      | true => rw [e] at hi; cases hi
      | false => rw [e] at hi; exact ⟨beq_false e, hi⟩
    have h1 : Rel w0 own γ { x.S with store := (x.frz k t row).S.store } a w :=
      { env := h.env, size := h.size, defers := h.defers, tmps := h.tmps, gen := h.gen
        tag := fun i R hi => h.tag i R (hst i R hi).2, mem := fun i R hi => h.mem i R (hst i R hi).2
        inj := fun i R j R' c q1 q2 => h.inj i R j R' c (hst i R q1).2 (hst j R' q2).2
        rootF := fun i R c q1 => h.rootF i R c (hst i R q1).2, fpF := h.fpF, fpD := h.fpD, fs := h.fs, lt := h.lt, ltβ := h.ltβ }
    have hfree : Free w0 own γ { x.S with store := (x.frz k t row).S.store } w (fun c => c = b) := by
      rintro c rfl
      refine ⟨fun hG => ?_, fun i R hi hc => ?_, r3, hlt⟩
      · rcases hG with hG | ⟨i, j, l, hG⟩
        · exact r1 hG
        · exact r2 _ _ _ hG
      · obtain ⟨n1, n2⟩ := hst i R hi
        exact n1 (h.inj i R k _ c n2 hk' hc hβ)
    obtain ⟨h2, hle⟩ := h1.still hfree
    refine ⟨γ.still fun c => c = b, rfl, ?_⟩
    have hF : (γ.still fun c => c = b).F b := .inr rfl
    have hrow : row.length = wd := by have := hw (row.map C.d) (by simp); simpa using this
    -- a pointer into the box
    have key : ∀ v c, CR γ w v c → CR (γ.still fun c => c = b) w v (frz0 k t row c) := by
      intro v c hc
      have hc' := hc.mono hle (.refl _ _) (.refl _)
      unfold frz0
      split
      · rename_i k' g wd' i j
        split
        · rename_i hb
          simp only [Bool.and_eq_true] at hb
          obtain ⟨e1, e2, e3⟩ := hb
          have e1 := beq_true e1; have e2 := beq_true e2; have e3 := beq_true e3
          subst e1 e2 e3
          obtain ⟨b', rfl, hb', _⟩ := (AR.c (γ := γ) _ _ hc).rp_inv
          rw [hβ] at hb'
          cases hb'
          refine .d _ _ ?_
          simp only [D.top0, Gh.at, beq_self_eq_true, if_true, Nat.zero_mul, Nat.zero_add]
          have := DR.p (w := w) (G := (γ.still fun c => c = b).F) 0 row b 0 j (fun q => arr.getD q undef) hF (fun q hq => by
            have hsz' : wd ≤ arr.size := by simpa using hsz
            have hpos : q < arr.size := by omega
            simp [World.cell?, harr, hpos]) (fun q d hd => by
            have hd2 : (row.map C.d)[q]? = some (.d d) := by simp [hd]
            have := hcell 0 q _ _ rfl hd2
            have hpd := List.all_eq_true.1 hp d (List.mem_of_getElem? hd)
            cases d with
            | v y =>
              have this : CR γ w (arr.getD (0 * wd + q) undef) (.d (.v y)) := this
              simp only [Nat.zero_mul, Nat.zero_add] at this
              obtain ⟨e1, e2⟩ := CR.sc_inv this
              rw [e1]
              exact .v y e2
            | _ => simp [isP] at hpd)
          simpa using this
        · exact hc'
      · exact hc'
    have en : (x.frz k t row).S = { ({ x.S with store := (x.frz k t row).S.store } : St) with tmps := (x.frz k t row).S.tmps } := by
      have e1 : (x.frz k t row).S.n = x.S.n := by simp [X.S, X.frz]
      have e2 : (x.frz k t row).S.gen = x.S.gen := rfl
      have e3 : (x.frz k t row).S.lvl = x.S.lvl := rfl
      revert e1 e2 e3
      generalize (x.frz k t row).S = s
      rintro e1 e2 e3
      cases s; simp_all
    rw [en]
    refine h2.know (f := (x.frz k t row).S.tmps) fun i => ?_
    have h3 := h.tmps i
    have e : (x.frz k t row).S.tmps i = frzA k t row (x.S.tmps i) := by
      simp only [X.S, X.frz, List.getD_eq_getElem?_getD, List.getElem?_map]
      cases x.tmps[i]? <;> rfl
    have h4 : AR (γ.still fun c => c = b) w (a.tmps.getD i undef) (frzA k t row (x.S.tmps i)) := by
      generalize a.tmps.getD i undef = v at h3 ⊢
      generalize x.S.tmps i = y at h3
      have hmono := h3.mono hle (.refl _ _) (.refl _)
      cases y with
      | c y =>
        simp only [frzA]
        have hy : CR γ w v y := by cases h3 with | c _ _ h => exact h
        refine .c _ _ ?_
        cases y with
        | cf fn fs cs =>
          simp only [frzC]
          split
          · rename_i p q hp1 hq1
            obtain ⟨e1, t1⟩ := stripF_spec _ _ hp1
            obtain ⟨e2, t2⟩ := stripF_spec _ _ hq1
            cases hy with
            | cf _ _ _ fv cv s1 s2 c1 c2 =>
              refine .d _ _ ?_
              show DR w (γ.still fun c => c = b).F _ _
              have l1 : fs.length = p.length := by have := congrArg List.length e1; simpa using this
              have l2 : cs.length = q.length := by have := congrArg List.length e2; simpa using this
              refine .f fn p q fv cv (by omega) (by omega) (fun j d hd => ?_) (fun j d hd => ?_)
              · have hj : j < fs.length := by have := (List.getElem?_eq_some_iff.1 hd).1; omega
                have hk2 := key _ _ (c1 j fs[j] (List.getElem?_eq_getElem hj))
                have : (fs.map (frz0 k t row))[j]? = some (.d d) := by rw [e1]; simp [hd]
                rw [List.getElem?_map, List.getElem?_eq_getElem hj] at this
                simp only [Option.map_some, Option.some.injEq] at this
                rw [this] at hk2
                have h5 := (AR.c (γ := γ.still fun c => c = b) _ _ hk2).d_inv
                rw [List.all_eq_true.1 t1 d (List.mem_of_getElem? hd)] at h5
                exact h5
              · have hj : j < cs.length := by have := (List.getElem?_eq_some_iff.1 hd).1; omega
                have hk2 := key _ _ (c2 j cs[j] (List.getElem?_eq_getElem hj))
                have : (cs.map (frz0 k t row))[j]? = some (.d d) := by rw [e2]; simp [hd]
                rw [List.getElem?_map, List.getElem?_eq_getElem hj] at this
                simp only [Option.map_some, Option.some.injEq] at this
                rw [this] at hk2
                have h5 := (AR.c (γ := γ.still fun c => c = b) _ _ hk2).d_inv
                rw [List.all_eq_true.1 t2 d (List.mem_of_getElem? hd)] at h5
                exact h5
          · cases hmono with | c _ _ h => exact h
        | _ => simp only [frzC]; exact key _ _ hy
      | _ => exact hmono
    rw [← e] at h4
    exact h4

/-- The end, some boxes laid still. -/
def finF (P : Program) (fn : Func) (k : Nat) (K : DV → Prop) (e : Exit) (x : X) : Prop :=
  match lookN x.store k with
  | some (.bx t wd row) => match strip.stripRow row with
    | some r => match r.all isP with | true => finX P fn K e (x.frz k t r) | false => False
    | none => False
  | _ => False
theorem ct_of_evpF {H : Hooks} (k : Nat) (hH : CallsOK P H) (hm : P.follows .mixedOrders = true) {f : FuncId} {fn : Func} {c : Code} {args : List DV} {res : DV} (n : Nat) (hf : P.funcs[f]? = some fn) (hb : fn.body = some c) (hl : LoopsOK P H c) (hn : args.length ≤ fn.ntmps) (hfit : (DV.tup args).fit32 = true)
    (h : evp P H n c (finF P fn k fun r => r = res) (entryX fn.ntmps args)) : CT P f args res := by
  refine ct_ofX hf hb hn hfit ?_
  intro w0 own γ a w hR
  refine Code.wp_mono (fun e a' w' hp => ?_) (evp_sound hH hm n _ _ _ hl h w0 own γ a w hR)
  obtain ⟨γ', x', g1, g2, hq⟩ := hp
  unfold finF at hq
  split at hq
  · rename_i t wd row hk
    split at hq
    · rename_i r hr
      split at hq
      · rename_i hp
        have e := stripRow_spec _ _ hr
        subst e
        obtain ⟨γ2, q1, q2⟩ := g2.frz hk hp
        exact ⟨γ2, _, q1.trans g1, q2, hq⟩
      · exact hq.elim
    · exact hq.elim
  · exact hq.elim
end
end Vm
