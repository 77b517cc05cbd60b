/- An interpreter for Go's texts over plain data, and its proof: what it answers is what the model does. My own work. -/
import Derived.Test.YtdfehiebnempaaaGB
import Derived.ChangeKeysEq
import Derived.Laws.StructEq
namespace Vm
section
open Go
set_option linter.unusedSimpArgs false
set_option linter.unusedVariables false

variable {P : Program} {w0 : World} {own : Nat → Prop} {γ : Gh} {st : St} {a : Act} {w : World}
variable {ops : Array Oper} {o : Oper}

theorem pk_move {x : Operand} {y : A} (hd : st.fits o.dst = true) (ho : o.op = .move x ∨ o.op = .assign x) (hy : evA st x = y) : PatchOK P w0 own ops o [] st ⟨o.dst, y, []⟩ :=
  .plain fun st' ha => by
    have e := ha.ev (x := x) (by rcases ho with h | h <;> rw [h] <;> simp [Op.operands])
    rw [← hy, ← e]
    exact op_move (fits_alike ha hd) ho

theorem pk_pick {c x y : Operand} {t : Bool} {z : A} (hd : st.fits o.dst = true) (ho : o.op = .pick c x y) (hc : evA st c = sc (.bool t)) (hz : (if t then evA st x else evA st y) = z) : PatchOK P w0 own ops o [] st ⟨o.dst, z, []⟩ :=
  .plain fun st' ha => by
    have e1 := ha.ev (x := c) (by rw [ho]; simp [Op.operands])
    have e2 := ha.ev (x := x) (by rw [ho]; simp [Op.operands])
    have e3 := ha.ev (x := y) (by rw [ho]; simp [Op.operands])
    rw [← hz, ← e2, ← e3]
    exact op_pick (fits_alike ha hd) ho (e1.trans hc)

theorem pk_bin {b : BinOp} {t u : TypeId} {x y : Operand} {p q r : Value} (hd : st.fits o.dst = true) (ho : o.op = .binOp b t x y u) (hx : (evA st x).val = some p) (hy : (evA st y).val = some q)
    (hr : pureRun P (do eqGuard b t x y p q; binOp b t p q) = some r) (hp : plain r = true) : PatchOK P w0 own ops o [] st ⟨o.dst, sc r, []⟩ :=
  .plain fun st' ha => by
    have e1 := ha.ev (x := x) (by rw [ho]; simp [Op.operands])
    have e2 := ha.ev (x := y) (by rw [ho]; simp [Op.operands])
    exact op_bin (fits_alike ha hd) ho (by rw [e1]; exact hx) (by rw [e2]; exact hy) hr hp

theorem pk_un {b : UnOp} {t : TypeId} {x : Operand} {p r : Value} (hd : st.fits o.dst = true) (ho : o.op = .unOp b t x) (hx : (evA st x).val = some p)
    (hr : pureRun P (Op.unary b p) = some r) (hp : plain r = true) : PatchOK P w0 own ops o [] st ⟨o.dst, sc r, []⟩ :=
  .plain fun st' ha => by
    have e1 := ha.ev (x := x) (by rw [ho]; simp [Op.operands])
    exact op_un (fits_alike ha hd) ho (by rw [e1]; exact hx) hr hp

theorem pk_conv {t u : TypeId} {x : Operand} {p r : Value} (hd : st.fits o.dst = true) (ho : o.op = .convert t u x) (hx : (evA st x).val = some p)
    (hr : pureRun P (convert t u p) = some r) (hp : plain r = true) : PatchOK P w0 own ops o [] st ⟨o.dst, sc r, []⟩ :=
  .plain fun st' ha => by
    have e1 := ha.ev (x := x) (by rw [ho]; simp [Op.operands])
    exact op_conv (fits_alike ha hd) ho (by rw [e1]; exact hx) hr hp

theorem pk_alloc {t : TypeId} {zs : List Value} (k : Nat) (hd : st.fits o.dst = true) (ho : o.op = .alloc t) (hz : zeroT P t = some zs) (hp : zs.all plain = true)
    : PatchOK P w0 own ops o [k] st ⟨o.dst, .c (.rp k (st.gen k + 1) zs.length 0 0), [(k, some ⟨st.gen k + 1, true, zs.length, [zs.map fun x => .d (.v x)]⟩, st.gen k + 1)]⟩ :=
  .one fun st' ha => by
    have := op_alloc (P := P) (w0 := w0) (own := own) k (fits_alike ha hd) ho hz hp
    rw [root_patch, ha.gen k (by simp)] at this
    exact this

theorem pk_box {t : TypeId} {x : Operand} {cs : List C} (k : Nat) (hd : st.fits o.dst = true) (ho : o.op = .box t x) (hx : (evA st x).cells = some cs) (hp : cellsOK cs = true)
    : PatchOK P w0 own ops o [k] st ⟨o.dst, .c (.rp k (st.gen k + 1) cs.length 0 0), [(k, some ⟨st.gen k + 1, true, cs.length, [cs]⟩, st.gen k + 1)]⟩ :=
  .one fun st' ha => by
    have e1 := ha.ev (x := x) (by rw [ho]; simp [Op.operands])
    have := op_box (P := P) (w0 := w0) (own := own) k (fits_alike ha hd) ho (by rw [e1]; exact hx) hp
    rw [root_patch, ha.gen k (by simp)] at this
    exact this

theorem pk_load {t : TypeId} {x : Operand} {k g wd i j n : Nat} {R : Root} {r cs : List C} {ag : Bool} {y : A} (hd : st.fits o.dst = true) (ho : o.op = .load t x) (hx : evA st x = .c (.rp k g wd i j)) (hk : st.store k = some R) (hgw : R.tag = g ∧ R.wd = wd)
    (hr : R.rows[i]? = some r) (ha : aggT P t = some ag) (hn : szT P t = some n) (hs : seg r j n = some cs) (hy : mkA ag (cs.map C.lend) = some y) : PatchOK P w0 own ops o [k] st ⟨o.dst, y, []⟩ :=
  .reads fun st' hal => by
    have e1 := hal.ev (x := x) (by rw [ho]; simp [Op.operands])
    exact op_load (fits_alike hal hd) ho (e1.trans hx) ((hal.store k (by simp)).trans hk) hgw.1 hgw.2 hr ha hn hs hy

theorem pk_loadp {t : TypeId} {x : Operand} {tg off n : Nat} {cells cs : List D} {ag : Bool} {y : A} (hd : st.fits o.dst = true) (ho : o.op = .load t x) (hx : evA st x = .c (.d (.p tg cells off)))
    (ha : aggT P t = some ag) (hn : szT P t = some n) (hs : seg cells off n = some cs) (hy : mkA ag (cs.map (D.under tg)) = some y) : PatchOK P w0 own ops o [] st ⟨o.dst, y, []⟩ :=
  .plain fun st' hal => by
    have e1 := hal.ev (x := x) (by rw [ho]; simp [Op.operands])
    exact op_loadp (fits_alike hal hd) ho (e1.trans hx) ha hn hs hy

theorem pk_fieldAddr {t ft : TypeId} {x : Operand} {f off n : Nat} {y z : A} (hd : st.fits o.dst = true) (ho : o.op = .fieldAddr t x f) (hx : evA st x = y) (hf : fldT P t f = some (off, ft)) (hn : szT P ft = some n) (h0 : n ≠ 0)
    (hz : y.ptrAdd off = some z) : PatchOK P w0 own ops o [] st ⟨o.dst, z, []⟩ :=
  .plain fun st' hal => by
    have e1 := hal.ev (x := x) (by rw [ho]; simp [Op.operands])
    exact op_fieldAddr (fits_alike hal hd) ho (e1.trans hx) hf hn h0 hz

theorem pk_indexArr {t e : TypeId} {x ix : Operand} {n sz q : Nat} {u : Value} {y z : A} (hd : st.fits o.dst = true) (ho : o.op = .indexAddr t x ix) (hx : evA st x = y) (hix : evA st ix = sc u) (ht : arT P t = some (n, e)) (hs : szT P e = some sz) (hq : idx u n = some q)
    (hz : y.ptrAdd (q * sz) = some z) : PatchOK P w0 own ops o [] st ⟨o.dst, z, []⟩ :=
  .plain fun st' hal => by
    have e1 := hal.ev (x := x) (by rw [ho]; simp [Op.operands])
    have e2 := hal.ev (x := ix) (by rw [ho]; simp [Op.operands])
    exact op_indexArr (fits_alike hal hd) ho (e1.trans hx) (e2.trans hix) ht hs hq hz

theorem pk_indexOwn {t e : TypeId} {x ix : Operand} {k g wd lo len kn q : Nat} {u : Value} (hd : st.fits o.dst = true) (ho : o.op = .indexAddr t x ix) (hx : evA st x = .c (.rs k g wd lo len kn)) (hix : evA st ix = sc u) (ht : elT P t = some e) (hs : szT P e = some wd) (hq : idx u len = some q)
    : PatchOK P w0 own ops o [] st ⟨o.dst, .c (.rp k g wd (lo + q) 0), []⟩ :=
  .plain fun st' hal => by
    have e1 := hal.ev (x := x) (by rw [ho]; simp [Op.operands])
    have e2 := hal.ev (x := ix) (by rw [ho]; simp [Op.operands])
    exact op_indexOwn (fits_alike hal hd) ho (e1.trans hx) (e2.trans hix) ht hs hq

theorem pk_indexD {t e : TypeId} {x ix : Operand} {tg sz q : Nat} {rows spare : List (List D)} {r : List D} {u : Value} (hd : st.fits o.dst = true) (ho : o.op = .indexAddr t x ix) (hx : evA st x = .c (.d (.s tg sz rows spare))) (hix : evA st ix = sc u) (ht : elT P t = some e) (hs : szT P e = some sz) (hq : idx u rows.length = some q)
    (hr : rows[q]? = some r) : PatchOK P w0 own ops o [] st ⟨o.dst, .c (.d (.p tg r 0)), []⟩ :=
  .plain fun st' hal => by
    have e1 := hal.ev (x := x) (by rw [ho]; simp [Op.operands])
    have e2 := hal.ev (x := ix) (by rw [ho]; simp [Op.operands])
    exact op_indexD (fits_alike hal hd) ho (e1.trans hx) (e2.trans hix) ht hs hq hr

theorem pk_nilCheck {x : Operand} {y : A} (hd : st.fits o.dst = true) (ho : o.op = .nilCheck x) (hx : evA st x = y) (hy : y.isPtr = true) : PatchOK P w0 own ops o [] st ⟨o.dst, y, []⟩ :=
  .plain fun st' hal => by
    have e1 := hal.ev (x := x) (by rw [ho]; simp [Op.operands])
    exact op_nilCheck (fits_alike hal hd) ho (e1.trans hx) hy

theorem pk_extract {x : Operand} {i : Nat} {xs : List A} {y : A} (hd : st.fits o.dst = true) (ho : o.op = .extract x i) (hx : evA st x = .tup xs) (hy : xs[i]? = some y) : PatchOK P w0 own ops o [] st ⟨o.dst, y, []⟩ :=
  .plain fun st' hal => by
    have e1 := hal.ev (x := x) (by rw [ho]; simp [Op.operands])
    exact op_extract (fits_alike hal hd) ho (e1.trans hx) hy

theorem pk_store {t : TypeId} {x y : Operand} {k g wd i j : Nat} {R : Root} {r cs : List C} (hd : st.fits o.dst = true) (ho : o.op = .store t x y) (hx : evA st x = .c (.rp k g wd i j)) (hk : st.store k = some R) (hgw : R.tag = g ∧ R.wd = wd)
    (hr : R.rows[i]? = some r) (hy : (evA st y).cells = some cs) (hok : cellsOK cs = true) (hn : szT P t = some cs.length) (hj : j + cs.length ≤ wd)
    : PatchOK P w0 own ops o [k] st ⟨o.dst, .dead, [(k, some { R with rows := R.rows.set i (splice r j cs) }, st.gen k)]⟩ :=
  .one fun st' hal => by
    have e1 := hal.ev (x := x) (by rw [ho]; simp [Op.operands])
    have e2 := hal.ev (x := y) (by rw [ho]; simp [Op.operands])
    have := op_store (P := P) (w0 := w0) (own := own) (fits_alike hal hd) ho (e1.trans hx) ((hal.store k (by simp)).trans hk) hgw.1 hgw.2 hr (by rw [e2]; exact hy) hok hn hj
    rw [set_patch, hal.gen k (by simp)] at this
    exact this

theorem pk_makeFunc {f : FuncId} {fst cap : List Operand} {cf cc : List C} (hd : st.fits o.dst = true) (ho : o.op = .makeFunc (.func f) fst.toArray cap.toArray) (h1 : ones st fst = some cf) (h2 : ones st cap = some cc) : PatchOK P w0 own ops o [] st ⟨o.dst, .c (.cf f cf cc), []⟩ :=
  .plain fun st' hal => by
    exact op_makeFunc (fits_alike hal hd) ho (by rw [ones_alike hal fst fun x hx => by rw [ho]; simp [Op.operands, hx]]; exact h1) (by rw [ones_alike hal cap fun x hx => by rw [ho]; simp [Op.operands, hx]]; exact h2)

theorem pk_field {t ft : TypeId} {x : Operand} {f off n : Nat} {cs r : List C} {ag : Bool} {y : A} (hd : st.fits o.dst = true) (ho : o.op = .field t x f) (hx : evA st x = .agg cs) (hf : fldT P t f = some (off, ft)) (ha : aggT P ft = some ag) (hn : szT P ft = some n) (hr : seg cs off n = some r) (hy : mkA ag r = some y)
    : PatchOK P w0 own ops o [] st ⟨o.dst, y, []⟩ :=
  .plain fun st' hal => by
    have e1 := hal.ev (x := x) (by rw [ho]; simp [Op.operands])
    exact op_field (fits_alike hal hd) ho (e1.trans hx) hf ha hn hr hy

theorem pk_index {t e : TypeId} {x ix : Operand} {n sz q : Nat} {u : Value} {cs r : List C} {ag : Bool} {y : A} (hd : st.fits o.dst = true) (ho : o.op = .index t x ix) (hx : evA st x = .agg cs) (hix : evA st ix = sc u) (ht : arT P t = some (n, e)) (hq : idx u n = some q) (ha : aggT P e = some ag) (hn : szT P e = some sz)
    (hr : seg cs (q * sz) sz = some r) (hy : mkA ag r = some y) : PatchOK P w0 own ops o [] st ⟨o.dst, y, []⟩ :=
  .plain fun st' hal => by
    have e1 := hal.ev (x := x) (by rw [ho]; simp [Op.operands])
    have e2 := hal.ev (x := ix) (by rw [ho]; simp [Op.operands])
    exact op_index (fits_alike hal hd) ho (e1.trans hx) (e2.trans hix) ht hq ha hn hr hy

theorem pk_build {t : TypeId} {ps : List (Nat × Operand)} {zs : List Value} {out : List C} {fs : Array Field} (hd : st.fits o.dst = true) (ho : o.op = .build t ps.toArray) (hz : zeroT P t = some zs) (hp : zs.all plain = true)
    (hf : fillA (placeT P t) (zs.map fun x => .d (.v x)) (partsA st ps) = some out) (hu : P.underlying t = some (.struct fs)) (hsome : ∀ f ∈ fs.toList, (szT P f.type).isSome = true) : PatchOK P w0 own ops o [] st ⟨o.dst, .agg out, []⟩ :=
  .plain fun st' hal => by
    exact op_build (fits_alike hal hd) ho hz hp (by rw [partsA_alike hal ps fun p hp => by rw [ho]; simp only [Op.operands]; simp; exact ⟨p.1, hp⟩]; exact hf) hu hsome

theorem pk_buildArr {t e : TypeId} {n sz : Nat} {ps : List (Nat × Operand)} {zs : List Value} {out : List C} (hd : st.fits o.dst = true) (ho : o.op = .build t ps.toArray) (hz : zeroT P t = some zs) (hp : zs.all plain = true) (ht : arT P t = some (n, e)) (hsz : szT P e = some sz)
    (hf : fillA (fun i => some (i * sz, sz)) (zs.map fun x => .d (.v x)) (partsA st ps) = some out) : PatchOK P w0 own ops o [] st ⟨o.dst, .agg out, []⟩ :=
  .plain fun st' hal => by
    exact op_buildArr (fits_alike hal hd) ho hz hp ht hsz (by rw [partsA_alike hal ps fun p hp => by rw [ho]; simp only [Op.operands]; simp; exact ⟨p.1, hp⟩]; exact hf)
end

section
open Go
set_option linter.unusedSimpArgs false
set_option linter.unusedVariables false

variable {P : Program} {w0 : World} {own : Nat → Prop} {γ : Gh} {st : St} {a : Act} {w : World}
variable {ops : Array Oper} {o : Oper}

/-! ### which roots a call's arguments lean on -/
def keysC (σ : Nat → Option Root) : Nat → C → List Nat
  | 0, _ => []
  | _ + 1, .d _ => []
  | _ + 1, .rs k _ _ _ _ _ => [k]
  | n + 1, .rp k _ _ i _ => k :: (match σ k with | some R => ((R.rows[i]?).getD []).flatMap (keysC σ n) | none => [])
  | n + 1, .cf _ fs cs => fs.flatMap (keysC σ n) ++ cs.flatMap (keysC σ n)
  | _ + 1, .non => []

theorem resRow_congr {f g : C → Option D} : ∀ (l : List C), (∀ c ∈ l, f c = g c) → resRow f l = resRow g l
  | [], _ => rfl
  | c :: l, h => by
    simp only [resRow]
    rw [h c (by simp), resRow_congr l fun c hc => h c (by simp [hc])]

theorem resC_congr {σ σ' : Nat → Option Root} : ∀ (n : Nat) (c : C), (∀ k ∈ keysC σ n c, σ' k = σ k) → resC σ' n c = resC σ n c
  | 0, _, _ => by simp [resC]
  | n + 1, .d x, _ => by simp [resC]
  | n + 1, .rs k g wd lo len kn, h => by
    simp only [resC]
    rw [h k (by simp [keysC])]
  | n + 1, .rp k g wd i j, h => by
    simp only [resC]
    rw [h k (by simp [keysC])]
    cases hk : σ k with
    | none => rfl
    | some R =>
      simp only
      split
      · cases hr : R.rows[i]? with
        | none => rfl
        | some r =>
          simp only [Option.bind_some]
          rw [resRow_congr r fun c hc => resC_congr n c fun k' hk' => h k' (by simp only [keysC, hk, hr, Option.getD_some]; exact List.mem_cons_of_mem _ (List.mem_flatMap.2 ⟨c, hc, hk'⟩))]
      · rfl
  | n + 1, .cf fn fs cs, h => by
    simp only [resC]
    rw [resRow_congr fs fun c hc => resC_congr n c fun k' hk' => h k' (by simp only [keysC]; exact List.mem_append_left _ (List.mem_flatMap.2 ⟨c, hc, hk'⟩)),
      resRow_congr cs fun c hc => resC_congr n c fun k' hk' => h k' (by simp only [keysC]; exact List.mem_append_right _ (List.mem_flatMap.2 ⟨c, hc, hk'⟩))]
  | n + 1, .non, _ => by simp [resC]

def keysA (σ : Nat → Option Root) (n : Nat) : A → List Nat
  | .c y => keysC σ n y
  | .agg cs => cs.flatMap (keysC σ n)
  | _ => []

theorem resA_congr {σ σ' : Nat → Option Root} (n : Nat) (y : A) (h : ∀ k ∈ keysA σ n y, σ' k = σ k) : resA σ' n y = resA σ n y := by
  cases y with
  | c y => simp only [resA]; rw [resC_congr n y h]
  | agg cs => simp only [resA]; rw [resRow_congr cs fun c hc => resC_congr n c fun k hk => h k (List.mem_flatMap.2 ⟨c, hc, hk⟩)]
  | _ => rfl

def keysArgs (m : Bool) (n : Nat) (st : St) (xs : List Operand) : List Nat := if m then [] else xs.flatMap fun x => keysA st.store n (evA st x)

theorem argsA_congr {st st' : St} (m : Bool) (n : Nat) : ∀ (xs : List Operand), (∀ x ∈ xs, evA st' x = evA st x) → (∀ k ∈ keysArgs m n st xs, st'.store k = st.store k) → argsA m n st' xs = argsA m n st xs
  | [], _, _ => rfl
  | x :: xs, h1, h2 => by
    simp only [argsA]
    rw [h1 x (by simp), argsA_congr m n xs (fun y hy => h1 y (by simp [hy])) fun k hk => h2 k (by
      unfold keysArgs at hk ⊢
      split
      · rename_i hm; rw [if_pos hm] at hk; exact hk
      · rename_i hm; rw [if_neg hm] at hk; rw [List.flatMap_cons]; exact List.mem_append_right _ hk)]
    cases m with
    | true => rfl
    | false =>
      simp only [Bool.false_eq_true, if_false]
      rw [resA_congr n _ fun k hk => h2 k (by
        unfold keysArgs
        rw [if_neg (by simp), List.flatMap_cons]
        exact List.mem_append_left _ hk)]

/-! ### roots, as the walk keeps them -/
inductive XRoot where
  | bx (tag wd : Nat) (row : List C)
  | sl (tag wd : Nat) (rows : List (List D))
  deriving Inhabited
def XRoot.root : XRoot → Root
  | .bx t wd row => ⟨t, true, wd, [row]⟩
  | .sl t wd rows => ⟨t, false, wd, emb rows⟩
abbrev Ups := List (Nat × Option XRoot × Nat)
def toU (u : Ups) : List (Nat × Option Root × Nat) := u.map fun (k, R, g) => (k, R.map XRoot.root, g)

theorem keysU_toU (u : Ups) : keysU (toU u) = u.map (·.1) := by
  simp [keysU, toU, List.map_map, Function.comp_def]

def upD (gen : Nat → Nat) (k : Nat) (d : D) : Ups × C :=
  match d with
  | .s 1 z rows sp => ([(k, some (.sl (gen k + 1) z (rows ++ sp)), gen k + 1)], .rs k (gen k + 1) z 0 rows.length (rows.length + sp.length))
  | d => ([], .d d)
def upL (gen : Nat → Nat) (k : Nat) : List D → Ups × List C
  | [] => ([], [])
  | d :: l => ((upD gen k d).1 ++ (upL gen (k + 1) l).1, (upD gen k d).2 :: (upL gen (k + 1) l).2)
def upV1 (gen : Nat → Nat) (k : Nat) : DV → Ups × A
  | .c d => ((upD gen k d).1, .c (upD gen k d).2)
  | .agg xs => ((upL gen k xs).1, .agg (upL gen k xs).2)
  | .tup _ => ([], .dead)
def upT (gen : Nat → Nat) (k : Nat) : List DV → Ups × List A
  | [] => ([], [])
  | d :: l => ((upV1 gen k d).1 ++ (upT gen (k + 32) l).1, (upV1 gen k d).2 :: (upT gen (k + 32) l).2)
def upV (gen : Nat → Nat) (k : Nat) : DV → Ups × A
  | .tup xs => ((upT gen k xs).1, .tup (upT gen k xs).2)
  | d => upV1 gen k d

def DV.width : DV → Nat
  | .c _ => 1
  | .agg xs => xs.length
  | .tup _ => 0
def DV.fit32 : DV → Bool
  | .tup xs => xs.all fun d => decide (d.width ≤ 32)
  | _ => true

def St.ups (st : St) (u : Ups) : St := st.patch ⟨none, .dead, toU u⟩

theorem lookU_append (u v : List (Nat × Option Root × Nat)) (i : Nat) : lookU (u ++ v) i = (lookU u i).or (lookU v i) := by
  induction u with
  | nil => simp [lookU]
  | cons p u ih =>
    obtain ⟨k, x⟩ := p
    simp only [List.cons_append, lookU]
    split
    · simp
    · exact ih

theorem ups_nil (st : St) : st.ups [] = st := by simp [St.ups, St.patch, toU, lookU]
theorem ups_append (st : St) (u v : Ups) (h : ∀ k, k ∈ u.map (·.1) → k ∉ v.map (·.1)) : (st.ups u).ups v = st.ups (u ++ v) := by
  have key : ∀ i, lookU (toU u) i = none ∨ lookU (toU v) i = none := fun i => by
    by_cases hi : i ∈ keysU (toU u)
    · exact .inr (lookU_none _ _ (by rw [keysU_toU]; rw [keysU_toU] at hi; exact h i hi))
    · exact .inl (lookU_none _ _ hi)
  simp only [St.ups, St.patch]
  have e : toU (u ++ v) = toU u ++ toU v := by simp [toU]
  rw [e]
  simp only [lookU_append]
  congr 1
  · funext i
    rcases key i with h | h
    · simp [h]
    · rw [h]; cases lookU (toU u) i <;> rfl
  · funext i
    rcases key i with h | h
    · simp [h]
    · rw [h]; cases lookU (toU u) i <;> rfl

theorem ups_gen (st : St) (u : Ups) (i : Nat) (h : i ∉ u.map (·.1)) : (st.ups u).gen i = st.gen i := by
  simp only [St.ups, St.patch]
  rw [lookU_none _ _ (by rw [keysU_toU]; exact h)]

theorem upD_keys (gen : Nat → Nat) (k : Nat) (d : D) (i : Nat) (h : i ∈ (upD gen k d).1.map (·.1)) : i = k := by
  unfold upD at h
  split at h
  · simpa using h
  · simp at h
theorem upL_keys (gen : Nat → Nat) : ∀ (l : List D) (k i : Nat), i ∈ (upL gen k l).1.map (·.1) → k ≤ i ∧ i < k + l.length
  | [], k, i, h => by simp [upL] at h
  | d :: l, k, i, h => by
    simp only [upL, List.map_append, List.mem_append] at h
    rcases h with h | h
    · have := upD_keys gen k d i h
      simp; omega
    · have := upL_keys gen l (k + 1) i h
      simp; omega
theorem upV1_keys (gen : Nat → Nat) (d : DV) (k i : Nat) (h : i ∈ (upV1 gen k d).1.map (·.1)) : k ≤ i ∧ i < k + d.width := by
  cases d with
  | c d => have := upD_keys gen k d i h; simp [DV.width]; omega
  | agg xs => exact upL_keys gen xs k i h
  | tup _ => simp [upV1] at h
theorem upT_keys (gen : Nat → Nat) : ∀ (l : List DV) (k i : Nat), i ∈ (upT gen k l).1.map (·.1) → k ≤ i
  | [], k, i, h => by simp [upT] at h
  | d :: l, k, i, h => by
    simp only [upT, List.map_append, List.mem_append] at h
    rcases h with h | h
    · exact (upV1_keys gen d k i h).1
    · have := upT_keys gen l (k + 32) i h; omega

theorem upD_congr {gen gen' : Nat → Nat} {k : Nat} {d : D} (h : ∀ i ∈ (upD gen k d).1.map (·.1), gen' i = gen i) : upD gen' k d = upD gen k d := by
  unfold upD at h ⊢
  split
  · simp at h; rw [h]
  · rfl
theorem upL_congr {gen gen' : Nat → Nat} : ∀ (l : List D) (k : Nat), (∀ i ∈ (upL gen k l).1.map (·.1), gen' i = gen i) → upL gen' k l = upL gen k l
  | [], _, _ => rfl
  | d :: l, k, h => by
    simp only [upL, List.map_append, List.mem_append] at h ⊢
    rw [upD_congr fun i hi => h i (.inl hi), upL_congr l (k + 1) fun i hi => h i (.inr hi)]
theorem upV1_congr {gen gen' : Nat → Nat} {k : Nat} {d : DV} (h : ∀ i ∈ (upV1 gen k d).1.map (·.1), gen' i = gen i) : upV1 gen' k d = upV1 gen k d := by
  cases d with
  | c d => simp only [upV1] at h ⊢; rw [upD_congr h]
  | agg xs => simp only [upV1] at h ⊢; rw [upL_congr xs k h]
  | tup _ => rfl
theorem upT_congr {gen gen' : Nat → Nat} : ∀ (l : List DV) (k : Nat), (∀ i ∈ (upT gen k l).1.map (·.1), gen' i = gen i) → upT gen' k l = upT gen k l
  | [], _, _ => rfl
  | d :: l, k, h => by
    simp only [upT, List.map_append, List.mem_append] at h ⊢
    rw [upV1_congr fun i hi => h i (.inl hi), upT_congr l (k + 32) fun i hi => h i (.inr hi)]
theorem upV_congr {gen gen' : Nat → Nat} {k : Nat} {d : DV} (h : ∀ i ∈ (upV gen k d).1.map (·.1), gen' i = gen i) : upV gen' k d = upV gen k d := by
  cases d with
  | tup xs => simp only [upV] at h ⊢; rw [upT_congr xs k h]
  | c d => exact upV1_congr h
  | agg xs => exact upV1_congr h

theorem upD_other (gen : Nat → Nat) (k : Nat) (d : D) (h : ∀ z rows sp, d ≠ .s 1 z rows sp) : upD gen k d = ([], .d d) := by
  unfold upD
  split
  · exact (h _ _ _ rfl).elim
  · rfl
theorem matD_other (st : St) (k : Nat) (d : D) (h : ∀ z rows sp, d ≠ .s 1 z rows sp) : matD st k d = (st, .d d) := by
  unfold matD
  split
  · exact (h _ _ _ rfl).elim
  · rfl
theorem matD_up (st : St) (k : Nat) (d : D) : matD st k d = (st.ups (upD st.gen k d).1, (upD st.gen k d).2) := by
  by_cases h : ∃ z rows sp, d = .s 1 z rows sp
  · obtain ⟨z, rows, sp, rfl⟩ := h
    have := root_patch st none .dead k false z (emb (rows ++ sp))
    simp only [St.put] at this
    show (st.root k false z (emb (rows ++ sp)), _) = _
    rw [this]
    rfl
  · have h' : ∀ z rows sp, d ≠ .s 1 z rows sp := fun z rows sp e => h ⟨z, rows, sp, e⟩
    rw [matD_other _ _ _ h', upD_other _ _ _ h', ups_nil]
theorem matL_up : ∀ (l : List D) (st : St) (k : Nat), matL st k l = (st.ups (upL st.gen k l).1, (upL st.gen k l).2)
  | [], st, k => by simp [matL, upL, ups_nil]
  | d :: l, st, k => by
    simp only [matL, matD_up, upL]
    have e : upL (st.ups (upD st.gen k d).1).gen (k + 1) l = upL st.gen (k + 1) l := upL_congr l (k + 1) fun i hi => by
      refine ups_gen st _ i fun hk => ?_
      have := upD_keys _ _ _ _ hk
      have := upL_keys _ _ _ _ hi
      omega
    rw [matL_up l, e, ups_append _ _ _ fun i hi hi' => by
      have := upD_keys _ _ _ _ hi
      have := upL_keys _ _ _ _ hi'
      omega]
theorem matV1_up (st : St) (k : Nat) (d : DV) : matV1 st k d = (st.ups (upV1 st.gen k d).1, (upV1 st.gen k d).2) := by
  cases d with
  | c d => simp only [matV1, matD_up, upV1]
  | agg xs => simp only [matV1, matL_up, upV1]
  | tup _ => simp only [matV1, upV1, ups_nil]
theorem matT_up : ∀ (l : List DV) (st : St) (k : Nat), (l.all fun d => decide (d.width ≤ 32)) = true → matT st k l = (st.ups (upT st.gen k l).1, (upT st.gen k l).2)
  | [], st, k, _ => by simp [matT, upT, ups_nil]
  | d :: l, st, k, h => by
    simp only [List.all_cons, Bool.and_eq_true, decide_eq_true_eq] at h
    simp only [matT, matV1_up, upT]
    have e : upT (st.ups (upV1 st.gen k d).1).gen (k + 32) l = upT st.gen (k + 32) l := upT_congr l (k + 32) fun i hi => by
      refine ups_gen st _ i fun hk => ?_
      have := upV1_keys _ _ _ _ hk
      have := upT_keys _ _ _ _ hi
      omega
    rw [matT_up l _ _ h.2, e, ups_append _ _ _ fun i hi hi' => by
      have := upV1_keys _ _ _ _ hi
      have := upT_keys _ _ _ _ hi'
      omega]
theorem matV_up (st : St) (k : Nat) (d : DV) (h : d.fit32 = true) : matV st k d = (st.ups (upV st.gen k d).1, (upV st.gen k d).2) := by
  cases d with
  | c d => exact matV1_up st k (.c d)
  | agg xs => exact matV1_up st k (.agg xs)
  | tup xs => simp only [matV, matT_up xs st k h, upV]

theorem ups_put (st : St) (u : Ups) (d : Option Nat) (y : A) : (st.ups u).put d y = st.patch ⟨d, y, toU u⟩ := by
  rw [put_patch]
  simp only [St.ups, St.patch, lookU]
  congr 1

theorem pk_call {f : FuncId} {xs : List Operand} {tys : Array TypeId} {ds : List DV} {res : DV} (m : Bool) (n k : Nat) (hd : st.fits o.dst = true) (ho : o.op = .call { callee := .value (.func f), args := xs.toArray, argTypes := tys }) (hg : Goes P f)
    (ha : argsA m n st xs = some ds) (hct : CT P f ds res) (hm : m = true ∨ res.pureOwn = true) (hfit : res.fit32 = true) :
    PatchOK P w0 own ops o (keysArgs m n st xs ++ (upV st.gen k res).1.map (·.1)) st ⟨o.dst, (upV st.gen k res).2, toU (upV st.gen k res).1⟩ := by
  refine ⟨rfl, fun i hi => ?_, fun st' hal => ?_⟩
  · rw [keysU_toU] at hi; exact List.mem_append_right _ hi
  · have e1 : argsA m n st' xs = argsA m n st xs := argsA_congr m n xs (fun x hx => hal.ev (by rw [ho]; simp [Op.operands, Call.operands, hx])) fun i hi => hal.store i (List.mem_append_left _ hi)
    have e2 : upV st'.gen k res = upV st.gen k res := upV_congr fun i hi => hal.gen i (List.mem_append_right _ hi)
    have e3 := matV_up st' k res hfit
    have := op_call (P := P) (w0 := w0) (own := own) (st := st') (o := o) (res := res) m n k (by
      rw [e3]
      have := fits_alike hal hd
      cases h : o.dst <;> simp_all [St.fits, St.ups, St.patch]) ho hg (e1.trans ha) hct hm
    rw [e3, e2, ups_put] at this
    exact this
end

section
open Go
set_option linter.unusedSimpArgs false
set_option linter.unusedVariables false

variable {P : Program} {w0 : World} {own : Nat → Prop} {γ : Gh} {st : St} {a : Act} {w : World}
variable {ops : Array Oper} {o : Oper}

/-! ### the walk's own state: lists -/
def lookN {α : Type} : List (Nat × α) → Nat → Option α
  | [], _ => none
  | (k, v) :: l, i => match Nat.beq k i with | true => some v | false => lookN l i
def setN {α : Type} : List (Nat × α) → Nat → α → List (Nat × α)
  | [], i, v => [(i, v)]
  | (k, u) :: l, i, v => match Nat.beq k i with | true => (k, v) :: l | false => (k, u) :: setN l i v
def delN {α : Type} : List (Nat × α) → Nat → List (Nat × α)
  | [], _ => []
  | (k, u) :: l, i => match Nat.beq k i with | true => delN l i | false => (k, u) :: delN l i

theorem beq_true {k i : Nat} (h : Nat.beq k i = true) : k = i := Nat.eq_of_beq_eq_true h
theorem beq_false {k i : Nat} (h : Nat.beq k i = false) : k ≠ i := Nat.ne_of_beq_eq_false h
theorem beq_self (k : Nat) : Nat.beq k k = true := Nat.beq_refl k
theorem beq_ne {k i : Nat} (h : k ≠ i) : Nat.beq k i = false := by
  cases e : Nat.beq k i
  · rfl
  · exact (h (beq_true e)).elim

theorem lookN_setN {α : Type} (l : List (Nat × α)) (i : Nat) (v : α) (j : Nat) : lookN (setN l i v) j = if j = i then some v else lookN l j := by
  induction l with
  | nil =>
    simp only [setN, lookN]
    by_cases h : j = i
    · subst h; simp [beq_self]
    · simp [beq_ne (Ne.symm h), h]
  | cons p l ih =>
    obtain ⟨k, u⟩ := p
    simp only [setN]
    cases e : Nat.beq k i with
    | true =>
      have := beq_true e; subst this
      simp only [lookN]
      by_cases h : j = k
      · subst h; simp [beq_self]
      · simp [beq_ne (Ne.symm h), h]
    | false =>
      have hk := beq_false e
      simp only [lookN]
      cases e2 : Nat.beq k j with
      | true => have := beq_true e2; subst this; simp [hk]
      | false => simp only [ih]
theorem lookN_delN {α : Type} (l : List (Nat × α)) (i : Nat) (j : Nat) : lookN (delN l i) j = if j = i then none else lookN l j := by
  induction l with
  | nil => simp [delN, lookN]
  | cons p l ih =>
    obtain ⟨k, u⟩ := p
    simp only [delN]
    cases e : Nat.beq k i with
    | true =>
      have := beq_true e; subst this
      simp only [ih, lookN]
      by_cases h : j = k
      · simp [h]
      · simp [beq_ne (Ne.symm h), h]
    | false =>
      have hk := beq_false e
      simp only [lookN]
      cases e2 : Nat.beq k j with
      | true => have := beq_true e2; subst this; simp [hk]
      | false => simp only [ih]

structure X where
  tmps : List A
  store : List (Nat × XRoot)
  gens : List (Nat × Nat)

def X.gen (x : X) (k : Nat) : Nat := (lookN x.gens k).getD 0
def X.S (x : X) : St := { n := x.tmps.length, lvl := 0, tmps := fun i => x.tmps.getD i .dead, store := fun k => (lookN x.store k).map XRoot.root, gen := x.gen }

def X.up1 (x : X) (k : Nat) (R : Option XRoot) (g : Nat) : X :=
  { x with
    store := match R with | some R => setN x.store k R | none => delN x.store k
    gens := match Nat.beq (x.gen k) g with | true => x.gens | false => setN x.gens k g }
def X.ups (x : X) : Ups → X
  | [] => x
  | (k, R, g) :: l => (x.ups l).up1 k R g
def X.put (x : X) (d : Option Nat) (y : A) : X := match d with | some d => { x with tmps := x.tmps.set d y } | none => x

structure XP where
  val : A
  ups : Ups
def X.patch (x : X) (d : Option Nat) (p : XP) : X := (x.ups p.ups).put d p.val
def XP.patch (p : XP) (d : Option Nat) : Patch := ⟨d, p.val, toU p.ups⟩

theorem up1_S (x : X) (k : Nat) (R : Option XRoot) (g : Nat) : (x.up1 k R g).S = { x.S with store := fun i => if i = k then R.map XRoot.root else x.S.store i, gen := fun i => if i = k then g else x.S.gen i } := by
  have h1 : (fun i => (lookN (match R with | some R => setN x.store k R | none => delN x.store k) i).map XRoot.root) = fun i => if i = k then R.map XRoot.root else (lookN x.store i).map XRoot.root := by
    funext i
    cases R with
    | none => simp only [lookN_delN]; split <;> rfl
    | some R => simp only [lookN_setN]; split <;> rfl
  have h2 : (fun i => (lookN (match Nat.beq (x.gen k) g with | true => x.gens | false => setN x.gens k g) i).getD 0) = fun i => if i = k then g else x.gen i := by
    funext i
    cases e : Nat.beq (x.gen k) g with
    | true =>
      have := beq_true e
      simp only
      split
      · rename_i hi; subst hi; exact this
      · rfl
    | false =>
      simp only [lookN_setN]
      split
      · rfl
      · rfl
  unfold X.S X.up1
  simp only
  congr 1
theorem ups_S (x : X) : ∀ u : Ups, (x.ups u).S = x.S.ups u
  | [] => by simp [X.ups, ups_nil]
  | (k, R, g) :: l => by
    simp only [X.ups, up1_S, ups_S x l]
    simp only [St.ups, St.patch, toU, List.map_cons, lookU]
    congr 1
    · funext i; split
      · rename_i h; simp [h]
      · rename_i h; simp [h]
    · funext i; split
      · rename_i h; simp [h]
      · rename_i h; simp [h]

theorem getD_set (l : List A) (d : Nat) (y : A) (i : Nat) (hd : d < l.length) : (l.set d y).getD i .dead = if some d = some i then y else l.getD i .dead := by
  simp only [List.getD_eq_getElem?_getD, List.getElem?_set]
  by_cases h : d = i
  · subst h; simp [hd]
  · simp [h]

theorem put_S (x : X) (d : Option Nat) (y : A) (hd : x.S.fits d = true) : (x.put d y).S = x.S.patch ⟨d, y, []⟩ := by
  cases d with
  | none => simp [X.put, St.patch, lookU, X.S]
  | some d =>
    have hd' : d < x.tmps.length := by simpa [St.fits, X.S] using hd
    simp only [X.put, St.patch, X.S, lookU, List.length_set]
    congr 1
    funext i
    rw [getD_set _ _ _ _ hd']

theorem patch_S (x : X) (d : Option Nat) (p : XP) (hd : x.S.fits d = true) : (x.patch d p).S = x.S.patch (p.patch d) := by
  have e : (x.ups p.ups).S.fits d = true := by
    rw [ups_S]; cases d <;> simp_all [St.fits, St.ups, St.patch]
  unfold X.patch
  rw [put_S _ _ _ e, ups_S]
  simp only [XP.patch, St.ups, St.patch, lookU]
  congr 1

/-! ### after a region: what is stale goes, and all counts begin anew -/
mutual
def C.norm (g : Nat → Nat) : C → C
  | .rs k t wd lo len kn => match Nat.beq t (g k) with | true => .rs k 0 wd lo len kn | false => .non
  | .rp k t wd i j => match Nat.beq t (g k) with | true => .rp k 0 wd i j | false => .non
  | .cf fn fs cs => .cf fn (normL g fs) (normL g cs)
  | .d x => .d x
  | .non => .non
def normL (g : Nat → Nat) : List C → List C
  | [] => []
  | c :: l => C.norm g c :: normL g l
end
theorem normL_map (g : Nat → Nat) : ∀ l : List C, normL g l = l.map (C.norm g)
  | [] => by simp [normL]
  | c :: l => by simp [normL, normL_map g l]

mutual
def A.norm (g : Nat → Nat) : A → A
  | .dead => .dead
  | .c x => .c (x.norm g)
  | .agg xs => .agg (normL g xs)
  | .tup xs => .tup (normT g xs)
  | .bb q => .bb q
  | .rx k t wd lo len cap => match Nat.beq t (g k) with | true => .rx k 0 wd lo len cap | false => .dead
def normT (g : Nat → Nat) : List A → List A
  | [] => []
  | c :: l => A.norm g c :: normT g l
end
theorem normT_map (g : Nat → Nat) : ∀ l : List A, normT g l = l.map (A.norm g)
  | [] => by simp [normT]
  | c :: l => by simp [normT, normT_map g l]

def XRoot.cur (g : Nat → Nat) (k : Nat) : XRoot → Bool
  | .bx t _ _ => Nat.beq t (g k)
  | .sl t _ _ => Nat.beq t (g k)
def XRoot.norm (g : Nat → Nat) : XRoot → XRoot
  | .bx _ wd row => .bx 0 wd (normL g row)
  | .sl _ wd rows => .sl 0 wd rows
def curS (g : Nat → Nat) : List (Nat × XRoot) → Bool
  | [] => true
  | (k, R) :: l => R.cur g k && curS g l
def normS (g : Nat → Nat) : List (Nat × XRoot) → List (Nat × XRoot)
  | [] => []
  | (k, R) :: l => (k, R.norm g) :: normS g l
def X.norm (x : X) : X :=
  match x.gens with
  | [] => x
  | _ => match curS x.gen x.store with
    | true => { tmps := normT x.gen x.tmps, store := normS x.gen x.store, gens := [] }
    | false => x

def Gh.anew (γ : Gh) : Gh := { γ with β := fun k g => match g with | 0 => γ.β k (γ.gen k) | _ => none, gen := fun _ => 0 }
theorem anew_G (γ : Gh) : γ.anew.G = γ.G := rfl
theorem anew_at (γ : Gh) (b : Bool) : γ.anew.at b = γ.at b := by cases b <;> rfl

theorem CR.anew {v : Value} {c : C} (h : CR γ w v c) : CR γ.anew w v (c.norm γ.gen) := by
  induction h with
  | d v x h => simp only [C.norm]; exact .d v x (by rw [anew_at]; exact h)
  | rs k g wd lo len kn cap b E n h1 h2 h3 h4 h5 h6 =>
    simp only [C.norm]
    split
    · rename_i e
      have := beq_true e; subst this
      exact .rs k 0 wd lo len kn cap b E n (Nat.zero_le _) h2 h3 h4 h5 h6
    · exact .non _
  | rn a k g wd h1 h2 =>
    simp only [C.norm]
    split
    · rename_i e
      have := beq_true e; subst this
      exact .rn a k 0 wd (Nat.zero_le _) h2
    · exact .non _
  | rp k g wd i j b h1 h2 =>
    simp only [C.norm]
    split
    · rename_i e
      have := beq_true e; subst this
      exact .rp k 0 wd i j b (Nat.zero_le _) h2
    · exact .non _
  | cf fn first caps fv cv h1 h2 _ _ i1 i2 =>
    simp only [C.norm, normL_map]
    refine .cf fn _ _ fv cv (by simpa using h1) (by simpa using h2) (fun i c hc => ?_) (fun i c hc => ?_)
    · rw [List.getElem?_map] at hc
      obtain ⟨c0, h0, rfl⟩ := Option.map_eq_some_iff.1 hc
      exact i1 i c0 h0
    · rw [List.getElem?_map] at hc
      obtain ⟨c0, h0, rfl⟩ := Option.map_eq_some_iff.1 hc
      exact i2 i c0 h0
  | non v => simp only [C.norm]; exact .non v

theorem AR.anew {v : Value} {c : A} (h : AR γ w v c) : AR γ.anew w v (c.norm γ.gen) := by
  induction h with
  | dead v => simp only [A.norm]; exact .dead v
  | c v x h => simp only [A.norm]; exact .c v _ h.anew
  | agg vs xs h1 h2 =>
    simp only [A.norm, normL_map]
    refine .agg vs _ (by simpa using h1) fun i c hc => ?_
    rw [List.getElem?_map] at hc
    obtain ⟨c0, h0, rfl⟩ := Option.map_eq_some_iff.1 hc
    exact (h2 i c0 h0).anew
  | tup vs xs h1 _ ih =>
    simp only [A.norm, normT_map]
    refine .tup vs _ (by simpa using h1) fun i c hc => ?_
    rw [List.getElem?_map] at hc
    obtain ⟨c0, h0, rfl⟩ := Option.map_eq_some_iff.1 hc
    exact ih i c0 h0
  | bb b q h => simp only [A.norm]; exact .bb b q h
  | rx k g wd lo len cap b E n h1 h2 h3 h4 h5 =>
    simp only [A.norm]
    split
    · rename_i e
      have := beq_true e; subst this
      exact .rx k 0 wd lo len cap b E n (Nat.zero_le _) h2 h3 h4 h5
    · exact .dead _

theorem SR.anew {v : Value} {c : C} {S : Nat → Prop} (h : SR γ w v c S) : SR γ.anew w v (c.norm γ.gen) S := by
  unfold SR at h
  split at h
  · simp only [C.norm]
    exact h
  · rename_i hne
    have h2 := h.anew
    unfold SR
    split
    · rename_i z rows spare e
      cases c with
      | d x => simp only [C.norm] at e; exact (hne _ _ _ e).elim
      | rs => simp only [C.norm] at e; split at e <;> cases e
      | rp => simp only [C.norm] at e; split at e <;> cases e
      | cf => simp only [C.norm] at e; cases e
      | non => simp only [C.norm] at e; cases e
    · exact h2

theorem normS_look (g : Nat → Nat) : ∀ (l : List (Nat × XRoot)) (k : Nat), lookN (normS g l) k = (lookN l k).map (XRoot.norm g)
  | [], k => rfl
  | (k', R0) :: l, k => by
    simp only [normS, lookN]
    split
    · rfl
    · exact normS_look g l k
theorem curS_look (g : Nat → Nat) : ∀ (l : List (Nat × XRoot)) (k : Nat) (R : XRoot), curS g l = true → lookN l k = some R → R.cur g k = true
  | [], k, R, _, h => by simp [lookN] at h
  | (k', R0) :: l, k, R, hc, h => by
    simp only [curS, Bool.and_eq_true] at hc
    simp only [lookN] at h
    split at h
    · rename_i e
      have := beq_true e; subst this
      cases h; exact hc.1
    · exact curS_look g l k R hc.2 h

theorem cur_tag {g : Nat → Nat} {k : Nat} {R : XRoot} (h : R.cur g k = true) : R.root.tag = g k := by
  cases R <;> exact beq_true h
theorem norm_tag {g : Nat → Nat} {R : XRoot} : (R.norm g).root.tag = 0 := by cases R <;> rfl
theorem norm_wd {g : Nat → Nat} {R : XRoot} : (R.norm g).root.wd = R.root.wd := by cases R <;> rfl
theorem norm_rows {g : Nat → Nat} {R : XRoot} : (R.norm g).root.rows = R.root.rows.map fun r => r.map (C.norm g) := by
  cases R with
  | bx t wd row => simp [XRoot.norm, XRoot.root, normL_map]
  | sl t wd rows => simp [XRoot.norm, XRoot.root, emb, Function.comp_def, C.norm]

theorem Rel.anew {x : X} (h : Rel w0 own γ x.S a w) (hc : curS x.gen x.store = true) : Rel w0 own γ.anew { tmps := normT x.gen x.tmps, store := normS x.gen x.store, gens := [] : X }.S a w := by
  have hg : γ.gen = x.gen := h.gen
  have old : ∀ k R, ({ tmps := normT x.gen x.tmps, store := normS x.gen x.store, gens := [] : X }.S).store k = some R → ∃ R0 : XRoot, x.S.store k = some R0.root ∧ R = (R0.norm x.gen).root ∧ R0.root.tag = x.gen k := by
    intro k R hk
    simp only [X.S, normS_look] at hk
    cases hl : lookN x.store k with
    | none => rw [hl] at hk; cases hk
    | some R0 =>
      rw [hl] at hk
      cases hk
      exact ⟨R0, by simp [X.S, hl], rfl, cur_tag (curS_look _ _ _ _ hc hl)⟩
  have hβ : ∀ k (R0 : XRoot), R0.root.tag = x.gen k → γ.anew.β k (R0.norm x.gen).root.tag = γ.β k R0.root.tag := by
    intro k R0 ht
    rw [norm_tag, ht, ← hg]; rfl
  refine { env := h.env, size := by rw [h.size]; simp [X.S, normT_map], defers := h.defers, tmps := fun i => ?_, gen := by funext k; rfl, tag := fun k R hk => ?_, mem := fun k R hk => ?_, inj := fun k R k' R' b hk hk' h1 h2 => ?_, rootF := fun k R b hk h1 => ?_, fpF := h.fpF, fpD := h.fpD, fs := h.fs, lt := h.lt, ltβ := fun k g b hg' hb => ?_ }
  · have := (h.tmps i).anew
    rw [hg] at this
    have e : (({ tmps := normT x.gen x.tmps, store := normS x.gen x.store, gens := [] : X }.S).tmps i) = (x.S.tmps i).norm x.gen := by
      simp only [X.S, normT_map, List.getD_eq_getElem?_getD, List.getElem?_map]
      cases x.tmps[i]? <;> simp [A.norm]
    rw [e]; exact this
  · obtain ⟨R0, _, rfl, _⟩ := old k R hk
    rw [norm_tag]; exact Nat.zero_le _
  · obtain ⟨R0, h0, rfl, ht⟩ := old k R hk
    have hm := h.mem k _ h0
    unfold RootOK at hm ⊢
    rw [hβ k R0 ht]
    cases hb : γ.β k R0.root.tag with
    | none => rw [hb] at hm; simp only at hm ⊢; rw [norm_rows, hm]; rfl
    | some b =>
      rw [hb] at hm
      obtain ⟨arr, E, q1, q2, q3, q4⟩ := hm
      refine ⟨arr, E, q1, ?_, ?_, ?_⟩
      · intro r hr
        rw [norm_rows] at hr
        obtain ⟨r0, hr0, rfl⟩ := List.mem_map.1 hr
        rw [norm_wd]; simpa using q2 r0 hr0
      · rw [norm_rows, norm_wd]; simpa using q3
      · intro i j r c hr hcc
        rw [norm_rows, List.getElem?_map] at hr
        obtain ⟨r0, hr0, rfl⟩ := Option.map_eq_some_iff.1 hr
        rw [List.getElem?_map] at hcc
        obtain ⟨c0, hc0, rfl⟩ := Option.map_eq_some_iff.1 hcc
        rw [norm_wd, ← hg]
        exact (q4 i j r0 c0 hr0 hc0).anew
  · obtain ⟨R0, h0, rfl, ht⟩ := old k R hk
    obtain ⟨R0', h0', rfl, ht'⟩ := old k' R' hk'
    rw [hβ k R0 ht] at h1
    rw [hβ k' R0' ht'] at h2
    exact h.inj k _ k' _ b h0 h0' h1 h2
  · obtain ⟨R0, h0, rfl, ht⟩ := old k R hk
    rw [hβ k R0 ht] at h1
    exact h.rootF k _ b h0 h1
  · have : g = 0 := Nat.le_zero.1 hg'
    subst this
    exact h.ltβ k (γ.gen k) b (Nat.le_refl _) hb

theorem Rel.norm {x : X} (h : Rel w0 own γ x.S a w) : ∃ γ', γ'.F0 = γ.F0 ∧ Rel w0 own γ' x.norm.S a w := by
  unfold X.norm
  split
  · exact ⟨γ, rfl, h⟩
  · split
    · rename_i hc; exact ⟨γ.anew, rfl, h.anew hc⟩
    · exact ⟨γ, rfl, h⟩
end

section
open Go
set_option linter.unusedSimpArgs false
set_option linter.unusedVariables false

variable {P : Program} {o : Oper} {x : X}

/-- A piece of the walk that says what one operation does. -/
abbrev KO := List Nat → XP → X → Prop
def Sound (P : Program) (o : Oper) (x : X) (F : KO → Prop) : Prop :=
  ∀ K : KO, F K → x.S.fits o.dst = true → ∃ Ks p, K Ks p x ∧ ∀ w0 own ops, PatchOK P w0 own ops o Ks x.S (p.patch o.dst)

/-! ### a branch -/
def evB (x : X) (c : Operand) (K : Bool → X → Prop) : Prop :=
  match c with
  | .tmp t => match x.tmps.getD t .dead with
    | .c (.d (.v (.bool b))) => cond b (K true { x with tmps := x.tmps.set t (sc (.bool true)) }) (K false { x with tmps := x.tmps.set t (sc (.bool false)) })
    | _ => False
  | .const (.bool b) => K b x
  | _ => False

theorem set_same (l : List A) (t : Nat) (y : A) (h : l.getD t .dead = y) : l.set t y = l := by
  apply List.ext_getElem?
  intro i
  rw [List.getElem?_set]
  by_cases e : t = i
  · subst e
    simp only [if_true]
    by_cases hl : t < l.length
    · rw [if_pos hl, ← h]; simp [List.getD_eq_getElem?_getD, hl]
    · rw [if_neg hl, List.getElem?_eq_none (by omega)]
  · rw [if_neg e]

theorem evB_spec {c : Operand} {K : Bool → X → Prop} (h : evB x c K) : ∃ b, evA x.S c = sc (.bool b) ∧ K b x := by
  unfold evB at h
  split at h
  · rename_i t
    split at h
    · rename_i b hb
      refine ⟨b, hb, ?_⟩
      cases b with
      | true => simp only [cond_true] at h; have e : x.tmps.set t (sc (.bool true)) = x.tmps := set_same _ _ _ hb; rw [e] at h; exact h
      | false => simp only [cond_false] at h; have e : x.tmps.set t (sc (.bool false)) = x.tmps := set_same _ _ _ hb; rw [e] at h; exact h
    · exact h.elim
  · rename_i b; exact ⟨b, rfl, h⟩
  · exact h.elim

theorem cond_P {b : Bool} {p : Prop} (h : cond b p False) : b = true ∧ p := by
  cases b
  · exact h.elim
  · exact ⟨rfl, h⟩

/-! ### cells of whole numbers -/
def hdI : List C → Int
  | .d (.v (.int _ n)) :: _ => n
  | _ => 0
def isK : List IntKind → List C → Bool
  | [], _ => true
  | k :: ks, .d (.v (.int k' _)) :: r => decide (k' = k) && isK ks r
  | _ :: _, _ => false
def etaK : List IntKind → List C → List C
  | [], _ => []
  | k :: ks, r => .d (.v (.int k (hdI r))) :: etaK ks r.tail
def hdJ : List D → Int
  | .v (.int _ n) :: _ => n
  | _ => 0
def isJ : List IntKind → List D → Bool
  | [], _ => true
  | k :: ks, .v (.int k' _) :: r => decide (k' = k) && isJ ks r
  | _ :: _, _ => false
def etaJ : List IntKind → List D → List D
  | [], _ => []
  | k :: ks, r => .v (.int k (hdJ r)) :: etaJ ks r.tail

theorem etaK_len (ks : List IntKind) : ∀ r, (etaK ks r).length = ks.length := by
  induction ks with
  | nil => intro r; rfl
  | cons k ks ih => intro r; simp [etaK, ih]
theorem etaJ_len (ks : List IntKind) : ∀ r, (etaJ ks r).length = ks.length := by
  induction ks with
  | nil => intro r; rfl
  | cons k ks ih => intro r; simp [etaJ, ih]

theorem isK_eta : ∀ (ks : List IntKind) (r : List C), isK ks r = true → r.take ks.length = etaK ks r ∧ ks.length ≤ r.length
  | [], r, _ => by simp [etaK]
  | k :: ks, [], h => by simp [isK] at h
  | k :: ks, c :: r, h => by
    unfold isK at h
    split at h
    · contradiction
    · rename_i heq1 heq2
      cases heq1; cases heq2
      simp only [Bool.and_eq_true, decide_eq_true_eq] at h
      obtain ⟨rfl, h⟩ := h
      obtain ⟨i1, i2⟩ := isK_eta ks r h
      simp [etaK, hdI, i1]; exact i2
    · cases h
theorem isJ_eta : ∀ (ks : List IntKind) (r : List D), isJ ks r = true → r.take ks.length = etaJ ks r ∧ ks.length ≤ r.length
  | [], r, _ => by simp [etaJ]
  | k :: ks, [], h => by simp [isJ] at h
  | k :: ks, c :: r, h => by
    unfold isJ at h
    split at h
    · contradiction
    · rename_i heq1 heq2
      cases heq1; cases heq2
      simp only [Bool.and_eq_true, decide_eq_true_eq] at h
      obtain ⟨rfl, h⟩ := h
      obtain ⟨i1, i2⟩ := isJ_eta ks r h
      simp [etaJ, hdJ, i1]; exact i2
    · cases h
theorem seg_of_K {ks : List IntKind} {r : List C} {j : Nat} (h : isK ks (r.drop j) = true) (h0 : ks ≠ []) : seg r j ks.length = some (etaK ks (r.drop j)) := by
  obtain ⟨h1, h2⟩ := isK_eta _ _ h
  unfold seg
  have : 0 < ks.length := List.length_pos_iff.2 h0
  rw [List.length_drop] at h2
  rw [if_pos (by omega), h1]
theorem seg_of_J {ks : List IntKind} {r : List D} {j : Nat} (h : isJ ks (r.drop j) = true) (h0 : ks ≠ []) : seg r j ks.length = some (etaJ ks (r.drop j)) := by
  obtain ⟨h1, h2⟩ := isJ_eta _ _ h
  unfold seg
  have : 0 < ks.length := List.length_pos_iff.2 h0
  rw [List.length_drop] at h2
  rw [if_pos (by omega), h1]
theorem seg_map {α β : Type} (f : α → β) {r cs : List α} {j n : Nat} (h : seg r j n = some cs) : seg (r.map f) j n = some (cs.map f) := by
  unfold seg at h ⊢
  split at h
  · rename_i hle
    cases h
    rw [if_pos (by simpa using hle)]
    simp [List.map_take, List.map_drop]
  · cases h
theorem etaK_lend (ks : List IntKind) : ∀ r, (etaK ks r).map C.lend = etaK ks r := by
  induction ks with
  | nil => intro r; rfl
  | cons k ks ih => intro r; simp [etaK, ih, C.lend]
theorem etaJ_lend (ks : List IntKind) : ∀ r, ((etaJ ks r).map C.d).map C.lend = (etaJ ks r).map C.d := by
  induction ks with
  | nil => intro r; rfl
  | cons k ks ih => intro r; simp only [etaJ, List.map_cons]; rw [ih]; rfl
theorem etaJ_under (tg : Nat) (ks : List IntKind) : ∀ r, (etaJ ks r).map (D.under tg) = (etaJ ks r).map C.d := by
  induction ks with
  | nil => intro r; rfl
  | cons k ks ih => intro r; simp only [etaJ, List.map_cons]; rw [ih]; rfl

/-- What kinds of whole numbers a type's cells have, if it has no others (a hint: it is tested where it is used). -/
def kindsT (P : Program) (t : TypeId) : Option (List IntKind) :=
  match P.underlying t with
  | some (.int k) => some [k]
  | some (.struct fs) => fs.toList.mapM fun f => match P.underlying f.type with | some (.int k) => some k | _ => none
  | some (.array n e) => match P.underlying e with | some (.int k) => some (List.replicate n k) | _ => none
  | _ => none

/-- n cells of a row from the j-th on, as a value of type t. -/
def evSeg (P : Program) (t : TypeId) (row : List C) (j : Nat) (K : A → Prop) : Prop :=
  match szT P t, aggT P t with
  | some n, some ag =>
    match kindsT P t with
    | some (k :: ks) => match Nat.beq (k :: ks).length n with
      | true => cond (isK (k :: ks) (row.drop j)) (match mkA ag (etaK (k :: ks) (row.drop j)) with | some y => K y | none => False) False
      | false => False
    | _ => match seg row j n with
      | some cs => match mkA ag (cs.map C.lend) with | some y => K y | none => False
      | none => False
  | _, _ => False
theorem evSeg_spec {t : TypeId} {row : List C} {j : Nat} {K : A → Prop} (h : evSeg P t row j K) : ∃ n ag cs y, szT P t = some n ∧ aggT P t = some ag ∧ seg row j n = some cs ∧ mkA ag (cs.map C.lend) = some y ∧ K y := by
  unfold evSeg at h
  split at h
  · rename_i n ag hn ha
    split at h
    · rename_i k ks hk
      split at h
      · rename_i hl
        have hl := beq_true hl
        obtain ⟨hc, h⟩ := cond_P h
        split at h
        · rename_i y hy
          exact ⟨n, ag, _, y, hn, ha, by rw [← hl]; exact seg_of_K hc (by simp), by rw [etaK_lend]; exact hy, h⟩
        · exact h.elim
      · exact h.elim
    · split at h
      · rename_i cs hs
        split at h
        · rename_i y hy; exact ⟨n, ag, cs, y, hn, ha, hs, hy, h⟩
        · exact h.elim
      · exact h.elim
  · exact h.elim
def evSegD (P : Program) (t : TypeId) (row : List D) (j : Nat) (K : A → Prop) : Prop :=
  match szT P t, aggT P t with
  | some n, some ag =>
    match kindsT P t with
    | some (k :: ks) => match Nat.beq (k :: ks).length n with
      | true => cond (isJ (k :: ks) (row.drop j)) (match mkA ag ((etaJ (k :: ks) (row.drop j)).map C.d) with | some y => K y | none => False) False
      | false => False
    | _ => match seg row j n with
      | some cs => match mkA ag ((cs.map C.d).map C.lend) with | some y => K y | none => False
      | none => False
  | _, _ => False
theorem evSegD_spec {t : TypeId} {row : List D} {j : Nat} {K : A → Prop} (h : evSegD P t row j K) : ∃ n ag cs y, szT P t = some n ∧ aggT P t = some ag ∧ seg (row.map C.d) j n = some cs ∧ mkA ag (cs.map C.lend) = some y ∧ K y := by
  unfold evSegD at h
  split at h
  · rename_i n ag hn ha
    split at h
    · rename_i k ks hk
      split at h
      · rename_i hl
        have hl := beq_true hl
        obtain ⟨hc, h⟩ := cond_P h
        split at h
        · rename_i y hy
          exact ⟨n, ag, _, y, hn, ha, by rw [← hl]; exact seg_map _ (seg_of_J hc (by simp)), by rw [etaJ_lend]; exact hy, h⟩
        · exact h.elim
      · exact h.elim
    · split at h
      · rename_i cs hs
        split at h
        · rename_i y hy; exact ⟨n, ag, _, y, hn, ha, seg_map _ hs, hy, h⟩
        · exact h.elim
      · exact h.elim
  · exact h.elim
def evSegP (P : Program) (t : TypeId) (tg : Nat) (row : List D) (j : Nat) (K : A → Prop) : Prop :=
  match szT P t, aggT P t with
  | some n, some ag =>
    match kindsT P t with
    | some (k :: ks) => match Nat.beq (k :: ks).length n with
      | true => cond (isJ (k :: ks) (row.drop j)) (match mkA ag ((etaJ (k :: ks) (row.drop j)).map C.d) with | some y => K y | none => False) False
      | false => False
    | _ => match seg row j n with
      | some cs => match mkA ag (cs.map (D.under tg)) with | some y => K y | none => False
      | none => False
  | _, _ => False
theorem evSegP_spec {t : TypeId} {tg : Nat} {row : List D} {j : Nat} {K : A → Prop} (h : evSegP P t tg row j K) : ∃ n ag cs y, szT P t = some n ∧ aggT P t = some ag ∧ seg row j n = some cs ∧ mkA ag (cs.map (D.under tg)) = some y ∧ K y := by
  unfold evSegP at h
  split at h
  · rename_i n ag hn ha
    split at h
    · rename_i k ks hk
      split at h
      · rename_i hl
        have hl := beq_true hl
        obtain ⟨hc, h⟩ := cond_P h
        split at h
        · rename_i y hy
          exact ⟨n, ag, _, y, hn, ha, by rw [← hl]; exact seg_of_J hc (by simp), by rw [etaJ_under]; exact hy, h⟩
        · exact h.elim
      · exact h.elim
    · split at h
      · rename_i cs hs
        split at h
        · rename_i y hy; exact ⟨n, ag, cs, y, hn, ha, hs, hy, h⟩
        · exact h.elim
      · exact h.elim
  · exact h.elim
/-- The like of a value's cells. -/
def evPart (P : Program) (t : TypeId) (row : List C) (j : Nat) (K : A → Prop) : Prop :=
  match szT P t, aggT P t with
  | some n, some ag =>
    match kindsT P t with
    | some (k :: ks) => match Nat.beq (k :: ks).length n with
      | true => cond (isK (k :: ks) (row.drop j)) (match mkA ag (etaK (k :: ks) (row.drop j)) with | some y => K y | none => False) False
      | false => False
    | _ => match seg row j n with
      | some cs => match mkA ag cs with | some y => K y | none => False
      | none => False
  | _, _ => False
theorem evPart_spec {t : TypeId} {row : List C} {j : Nat} {K : A → Prop} (h : evPart P t row j K) : ∃ n ag cs y, szT P t = some n ∧ aggT P t = some ag ∧ seg row j n = some cs ∧ mkA ag cs = some y ∧ K y := by
  unfold evPart at h
  split at h
  · rename_i n ag hn ha
    split at h
    · rename_i k ks hk
      split at h
      · rename_i hl
        have hl := beq_true hl
        obtain ⟨hc, h⟩ := cond_P h
        split at h
        · rename_i y hy
          exact ⟨n, ag, _, y, hn, ha, by rw [← hl]; exact seg_of_K hc (by simp), hy, h⟩
        · exact h.elim
      · exact h.elim
    · split at h
      · rename_i cs hs
        split at h
        · rename_i y hy; exact ⟨n, ag, cs, y, hn, ha, hs, hy, h⟩
        · exact h.elim
      · exact h.elim
  · exact h.elim
end

section
open Go
set_option linter.unusedSimpArgs false
set_option linter.unusedVariables false

variable {P : Program} {o : Oper} {x : X}

def keyO (o : Oper) : Nat := match o.dst with | some d => d + 1 | none => 0

def evMove (x : X) (y : Operand) (K : KO) : Prop := K [] ⟨evA x.S y, []⟩ x
theorem evMove_sound {y : Operand} (ho : o.op = .move y ∨ o.op = .assign y) : Sound P o x (evMove x y) := fun K h hd =>
  ⟨_, _, h, fun w0 own ops => pk_move hd ho rfl⟩

def evPick (x : X) (c y z : Operand) (K : KO) : Prop := evB x c fun t x' => match t with | true => K [] ⟨evA x'.S y, []⟩ x' | false => K [] ⟨evA x'.S z, []⟩ x'
theorem evPick_sound {c y z : Operand} (ho : o.op = .pick c y z) : Sound P o x (evPick x c y z) := fun K h hd => by
  obtain ⟨b, hb, h⟩ := evB_spec h
  cases b with
  | true => exact ⟨_, _, h, fun w0 own ops => pk_pick hd ho hb rfl⟩
  | false => exact ⟨_, _, h, fun w0 own ops => pk_pick hd ho hb rfl⟩

def evAlloc (P : Program) (o : Oper) (x : X) (t : TypeId) (K : KO) : Prop :=
  match zeroT P t with
  | some zs => match zs.all plain with
    | true => K [keyO o] ⟨.c (.rp (keyO o) (x.gen (keyO o) + 1) zs.length 0 0), [(keyO o, some (.bx (x.gen (keyO o) + 1) zs.length (zs.map fun v => .d (.v v))), x.gen (keyO o) + 1)]⟩ x
    | false => False
  | none => False
theorem evAlloc_sound {t : TypeId} (ho : o.op = .alloc t) : Sound P o x (evAlloc P o x t) := fun K h hd => by
  unfold evAlloc at h
  split at h
  · rename_i zs hz
    split at h
    · rename_i hp
      exact ⟨_, _, h, fun w0 own ops => pk_alloc (keyO o) hd ho hz hp⟩
    · exact h.elim
  · exact h.elim

def evBox (o : Oper) (x : X) (y : Operand) (K : KO) : Prop :=
  match (evA x.S y).cells with
  | some cs => match cellsOK cs with
    | true => K [keyO o] ⟨.c (.rp (keyO o) (x.gen (keyO o) + 1) cs.length 0 0), [(keyO o, some (.bx (x.gen (keyO o) + 1) cs.length cs), x.gen (keyO o) + 1)]⟩ x
    | false => False
  | none => False
theorem evBox_sound {t : TypeId} {y : Operand} (ho : o.op = .box t y) : Sound P o x (evBox o x y) := fun K h hd => by
  unfold evBox at h
  split at h
  · rename_i cs hc
    split at h
    · rename_i hp
      exact ⟨_, _, h, fun w0 own ops => pk_box (keyO o) hd ho hc hp⟩
    · exact h.elim
  · exact h.elim

def evLoad (P : Program) (x : X) (t : TypeId) (y : Operand) (K : KO) : Prop :=
  match evA x.S y with
  | .c (.rp k g wd i j) =>
    match lookN x.store k with
    | some (.bx tag wd' row) => match Nat.beq tag g && (Nat.beq wd' wd && Nat.beq i 0) with
      | true => evSeg P t row j fun v => K [k] ⟨v, []⟩ x
      | false => False
    | some (.sl tag wd' rows) => match Nat.beq tag g && Nat.beq wd' wd with
      | true => cond (decide (i < rows.length)) (evSegD P t (rows.getD i []) j fun v => K [k] ⟨v, []⟩ x) False
      | false => False
    | none => False
  | .c (.d (.p tg cells off)) => evSegP P t tg cells off fun v => K [] ⟨v, []⟩ x
  | _ => False

theorem S_store {k : Nat} {R : XRoot} (h : lookN x.store k = some R) : x.S.store k = some R.root := by simp [X.S, h]

theorem emb_row {rows : List (List D)} {i : Nat} (h : i < rows.length) : (emb rows)[i]? = some ((rows.getD i []).map C.d) := by
  simp [emb, List.getD_eq_getElem?_getD, h]

theorem evLoad_sound {t : TypeId} {y : Operand} (ho : o.op = .load t y) : Sound P o x (evLoad P x t y) := fun K h hd => by
  unfold evLoad at h
  split at h
  · rename_i k g wd i j hy
    split at h
    · rename_i tag wd' row hk
      split at h
      · rename_i hb
        simp only [Bool.and_eq_true] at hb
        obtain ⟨e1, e2, e3⟩ := hb
        have e1 := beq_true e1; have e2 := beq_true e2; have e3 := beq_true e3
        subst e3
        obtain ⟨n, ag, cs, v, q1, q2, q3, q4, q5⟩ := evSeg_spec h
        exact ⟨_, _, q5, fun w0 own ops => pk_load hd ho hy (S_store hk) ⟨e1, e2⟩ (r := row) rfl q2 q1 q3 q4⟩
      · exact h.elim
    · rename_i tag wd' rows hk
      split at h
      · rename_i hb
        simp only [Bool.and_eq_true] at hb
        obtain ⟨e1, e2⟩ := hb
        have e1 := beq_true e1; have e2 := beq_true e2
        obtain ⟨hi, h⟩ := cond_P h
        simp only [decide_eq_true_eq] at hi
        obtain ⟨n, ag, cs, v, q1, q2, q3, q4, q5⟩ := evSegD_spec h
        exact ⟨_, _, q5, fun w0 own ops => pk_load hd ho hy (S_store hk) ⟨e1, e2⟩ (emb_row hi) q2 q1 q3 q4⟩
      · exact h.elim
    · exact h.elim
  · rename_i tg cells off hy
    obtain ⟨n, ag, cs, v, q1, q2, q3, q4, q5⟩ := evSegP_spec h
    exact ⟨_, _, q5, fun w0 own ops => pk_loadp hd ho hy q2 q1 q3 q4⟩
  · exact h.elim

def evStore (P : Program) (x : X) (t : TypeId) (y z : Operand) (K : KO) : Prop :=
  match evA x.S y, (evA x.S z).cells, szT P t with
  | .c (.rp k g wd i j), some cs, some n => match cellsOK cs && Nat.beq n cs.length with
    | true => match lookN x.store k with
      | some (.bx tag wd' row) => match Nat.beq tag g && (Nat.beq wd' wd && Nat.beq i 0) with
        | true => cond (decide (j + cs.length ≤ wd)) (match isK (List.replicate wd' .i64) row && Nat.beq row.length wd' with
          | true => cond (isK (List.replicate wd' .i64) (splice row j cs)) (K [k] ⟨.dead, [(k, some (.bx tag wd' (etaK (List.replicate wd' .i64) (splice row j cs))), x.gen k)]⟩ x) False
          | false => K [k] ⟨.dead, [(k, some (.bx tag wd' (splice row j cs)), x.gen k)]⟩ x) False
        | false => False
      | some (.sl tag wd' rows) => match Nat.beq tag g && Nat.beq wd' wd with
        | true => match strip.stripRow cs with
          | some ds => cond (decide (i < rows.length) && decide (j + cs.length ≤ wd)) (K [k] ⟨.dead, [(k, some (.sl tag wd' (rows.set i (splice (rows.getD i []) j ds))), x.gen k)]⟩ x) False
          | none => False
        | false => False
      | none => False
    | false => False
  | _, _, _ => False

theorem splice_map {α β : Type} (f : α → β) (r cs : List α) (j : Nat) : (splice r j cs).map f = splice (r.map f) j (cs.map f) := by
  simp [splice, List.map_take, List.map_drop]
theorem emb_set (rows : List (List D)) (i : Nat) (r : List D) : emb (rows.set i r) = (emb rows).set i (r.map C.d) := by
  simp [emb, List.map_set]

theorem evStore_sound {t : TypeId} {y z : Operand} (ho : o.op = .store t y z) : Sound P o x (evStore P x t y z) := fun K h hd => by
  unfold evStore at h
  split at h
  · rename_i k g wd i j cs n hy hz hn
    split at h
    · rename_i hb
      simp only [Bool.and_eq_true] at hb
      obtain ⟨hok, hl⟩ := hb
      have hl := beq_true hl
      subst hl
      split at h
      · rename_i tag wd' row hk
        split at h
        · rename_i hb
          simp only [Bool.and_eq_true] at hb
          obtain ⟨e1, e2, e3⟩ := hb
          have e1 := beq_true e1; have e2 := beq_true e2; have e3 := beq_true e3
          subst e3
          obtain ⟨hi, h⟩ := cond_P h
          simp only [decide_eq_true_eq] at hi
          split at h
          · rename_i hb2
            simp only [Bool.and_eq_true] at hb2
            have hl := beq_true hb2.2
            obtain ⟨hb3, h⟩ := cond_P h
            have hsl : (splice row j cs).length = wd' := by rw [splice_length _ _ _ (by omega)]; exact hl
            have he : etaK (List.replicate wd' .i64) (splice row j cs) = splice row j cs := by
              have := (isK_eta _ _ hb3).1
              rw [List.length_replicate, List.take_of_length_le (by omega)] at this
              exact this.symm
            rw [he] at h
            exact ⟨_, _, h, fun w0 own ops => pk_store hd ho hy (S_store hk) ⟨e1, e2⟩ (r := row) rfl hz hok hn hi⟩
          · exact ⟨_, _, h, fun w0 own ops => pk_store hd ho hy (S_store hk) ⟨e1, e2⟩ (r := row) rfl hz hok hn hi⟩
        · exact h.elim
      · rename_i tag wd' rows hk
        split at h
        · rename_i hb
          simp only [Bool.and_eq_true] at hb
          obtain ⟨e1, e2⟩ := hb
          have e1 := beq_true e1; have e2 := beq_true e2
          split at h
          · rename_i ds hds
            obtain ⟨hi, h⟩ := cond_P h
            simp only [Bool.and_eq_true, decide_eq_true_eq] at hi
            refine ⟨_, _, h, fun w0 own ops => ?_⟩
            have := pk_store (P := P) (w0 := w0) (own := own) (ops := ops) hd ho hy (S_store hk) ⟨e1, e2⟩ (emb_row hi.1) hz hok hn hi.2
            have e : ({ (XRoot.sl tag wd' rows).root with rows := (emb rows).set i (splice ((rows.getD i []).map C.d) j cs) } : Root) = (XRoot.sl tag wd' (rows.set i (splice (rows.getD i []) j ds))).root := by
              simp only [XRoot.root, emb_set, splice_map, ← stripRow_spec _ _ hds]
            simp only [XP.patch, toU, List.map_cons, List.map_nil, Option.map_some]
            rw [← e]; exact this
          · exact h.elim
        · exact h.elim
      · exact h.elim
    · exact h.elim
  · exact h.elim

def evNil (x : X) (y : Operand) (K : KO) : Prop := match (evA x.S y).isPtr with | true => K [] ⟨evA x.S y, []⟩ x | false => False
theorem evNil_sound {y : Operand} (ho : o.op = .nilCheck y) : Sound P o x (evNil x y) := fun K h hd => by
  unfold evNil at h
  split at h
  · rename_i hy; exact ⟨_, _, h, fun w0 own ops => pk_nilCheck hd ho rfl hy⟩
  · exact h.elim

def outV (r : Option Value) (K : Value → Prop) : Prop := match r with | some v => (match plain v with | true => K v | false => False) | none => False
theorem outV_spec {r : Option Value} {K : Value → Prop} (h : outV r K) : ∃ v, r = some v ∧ plain v = true ∧ K v := by
  unfold outV at h
  split at h
  · split at h
    · exact ⟨_, rfl, ‹_›, h⟩
    · exact h.elim
  · exact h.elim

def evBin (P : Program) (x : X) (b : BinOp) (t : TypeId) (y z : Operand) (K : KO) : Prop :=
  match (evA x.S y).val, (evA x.S z).val with
  | some p, some q => outV (pureRun P (do eqGuard b t y z p q; binOp b t p q)) fun r => K [] ⟨sc r, []⟩ x
  | _, _ => False
theorem evBin_sound {b : BinOp} {t u : TypeId} {y z : Operand} (ho : o.op = .binOp b t y z u) : Sound P o x (evBin P x b t y z) := fun K h hd => by
  unfold evBin at h
  split at h
  · rename_i p q hp hq
    obtain ⟨r, h1, h2, h3⟩ := outV_spec h
    exact ⟨_, _, h3, fun w0 own ops => pk_bin hd ho hp hq h1 h2⟩
  · exact h.elim

def evUn (P : Program) (x : X) (b : UnOp) (y : Operand) (K : KO) : Prop :=
  match (evA x.S y).val with
  | some p => outV (pureRun P (Op.unary b p)) fun r => K [] ⟨sc r, []⟩ x
  | _ => False
theorem evUn_sound {b : UnOp} {t : TypeId} {y : Operand} (ho : o.op = .unOp b t y) : Sound P o x (evUn P x b y) := fun K h hd => by
  unfold evUn at h
  split at h
  · rename_i p hp
    obtain ⟨r, h1, h2, h3⟩ := outV_spec h
    exact ⟨_, _, h3, fun w0 own ops => pk_un hd ho hp h1 h2⟩
  · exact h.elim

def evConv (P : Program) (x : X) (t u : TypeId) (y : Operand) (K : KO) : Prop :=
  match (evA x.S y).val with
  | some p => outV (pureRun P (convert t u p)) fun r => K [] ⟨sc r, []⟩ x
  | _ => False
theorem evConv_sound {t u : TypeId} {y : Operand} (ho : o.op = .convert t u y) : Sound P o x (evConv P x t u y) := fun K h hd => by
  unfold evConv at h
  split at h
  · rename_i p hp
    obtain ⟨r, h1, h2, h3⟩ := outV_spec h
    exact ⟨_, _, h3, fun w0 own ops => pk_conv hd ho hp h1 h2⟩
  · exact h.elim

def evMakeFunc (x : X) (f : FuncId) (fst cap : Array Operand) (K : KO) : Prop :=
  match ones x.S fst.toList, ones x.S cap.toList with
  | some cf, some cc => K [] ⟨.c (.cf f cf cc), []⟩ x
  | _, _ => False
theorem evMakeFunc_sound {f : FuncId} {fst cap : Array Operand} (ho : o.op = .makeFunc (.func f) fst cap) : Sound P o x (evMakeFunc x f fst cap) := fun K h hd => by
  unfold evMakeFunc at h
  split at h
  · rename_i cf cc h1 h2
    exact ⟨_, _, h, fun w0 own ops => pk_makeFunc (fst := fst.toList) (cap := cap.toList) hd (by simpa using ho) h1 h2⟩
  · exact h.elim

def evFieldAddr (P : Program) (x : X) (t : TypeId) (y : Operand) (f : Nat) (K : KO) : Prop :=
  match fldT P t f with
  | some (off, ft) => match szT P ft with
    | some (n + 1) => match (evA x.S y).ptrAdd off with | some z => K [] ⟨z, []⟩ x | none => False
    | _ => False
  | none => False
theorem evFieldAddr_sound {t : TypeId} {y : Operand} {f : Nat} (ho : o.op = .fieldAddr t y f) : Sound P o x (evFieldAddr P x t y f) := fun K h hd => by
  unfold evFieldAddr at h
  split at h
  · rename_i off ft hf
    split at h
    · rename_i n hn
      split at h
      · rename_i z hz
        exact ⟨_, _, h, fun w0 own ops => pk_fieldAddr hd ho rfl hf hn (by omega) hz⟩
      · exact h.elim
    · exact h.elim
  · exact h.elim

def evField (P : Program) (x : X) (t : TypeId) (y : Operand) (f : Nat) (K : KO) : Prop :=
  match evA x.S y, fldT P t f with
  | .agg cs, some (off, ft) => evPart P ft cs off fun v => K [] ⟨v, []⟩ x
  | _, _ => False
theorem evField_sound {t : TypeId} {y : Operand} {f : Nat} (ho : o.op = .field t y f) : Sound P o x (evField P x t y f) := fun K h hd => by
  unfold evField at h
  split at h
  · rename_i cs off ft hy hf
    obtain ⟨n, ag, r, v, q1, q2, q3, q4, q5⟩ := evPart_spec h
    exact ⟨_, _, q5, fun w0 own ops => pk_field hd ho hy hf q2 q1 q3 q4⟩
  · exact h.elim

def addN (a b : Nat) : Nat := match a with | 0 => b | _ => a + b
theorem addN_eq (a b : Nat) : addN a b = a + b := by cases a <;> simp [addN]
def mulN (a b : Nat) : Nat := match b with | 1 => a | _ => a * b
theorem mulN_eq (a b : Nat) : mulN a b = a * b := by unfold mulN; split <;> simp

theorem idx_of {kd : IntKind} {i : Int} {n : Nat} (h : (decide (0 ≤ i) && decide (i < n)) = true) : idx (.int kd i) n = some i.toNat := by
  simp only [Bool.and_eq_true, decide_eq_true_eq] at h
  simp [idx, h]

/-- A pointer moved on, whose offset may be unknown. -/
def A.ptrOn (y : A) (n : Nat) : Option A :=
  match y with
  | .c (.rp k g wd i j) => some (.c (.rp k g wd i (addN j n)))
  | .c (.d (.p tg cells off)) => some (.c (.d (.p tg cells (addN off n))))
  | _ => none
theorem ptrOn_spec {y z : A} {n : Nat} (h : y.ptrOn n = some z) : y.ptrAdd n = some z := by
  unfold A.ptrOn at h
  split at h
  · cases h; simp [A.ptrAdd, addN_eq]
  · cases h; simp [A.ptrAdd, addN_eq]
  · cases h

/-- An index, place by place. -/
def splitI (i : Int) (K : Nat → Prop) : Nat → Nat → Prop
  | _, 0 => False
  | j, m + 1 => cond (decide (i = (j : Int))) (K j) (splitI i K (j + 1) m)
theorem splitI_spec {i : Int} {K : Nat → Prop} : ∀ (m j : Nat), splitI i K j m → ∃ q : Nat, i = q ∧ q < j + m ∧ K q
  | 0, _, h => h.elim
  | m + 1, j, h => by
    unfold splitI at h
    cases hd : decide (i = (j : Int)) with
    | true => rw [hd] at h; exact ⟨j, of_decide_eq_true hd, by omega, h⟩
    | false =>
      rw [hd] at h
      obtain ⟨q, h1, h2, h3⟩ := splitI_spec m (j + 1) h
      exact ⟨q, h1, by omega, h3⟩

/-- A slice over a box: of things that are no plain data. -/
def boxW (s : List (Nat × XRoot)) (k : Nat) : Option Nat := match lookN s k with | some (.bx _ w _) => some w | _ => none
theorem op_indexBx {P : Program} {w0 : World} {own : Nat → Prop} {st : St} {o : Oper} {t e : TypeId} {x ix : Operand} {k g wd lo len kn q : Nat} {u : Value} (wdb : Nat) (hd : st.fits o.dst = true) (ho : o.op = .indexAddr t x ix) (hx : evA st x = .c (.rs k g wd lo len kn)) (hix : evA st ix = sc u) (ht : elT P t = some e) (hs : szT P e = some wd) (hq : idx u len = some q) :
    OpOK P w0 own o st (st.put o.dst (.c (.rp k g wdb 0 ((lo + q) * wd)))) :=
  .value hd fun γ a w hR => by
    have hex : (execOp a.eval o).run P w = ((do pure (.value (← Instr.indexAt t (a.eval x) (a.eval ix)))) : Sem Next).run P w := by unfold execOp; rw [ho]
    have hv := hR.ev x
    rw [hx] at hv
    have hi := hR.ev ix
    rw [hix] at hi
    obtain ⟨kd, e1, hlt⟩ := idx_spec hq
    rw [(AR.sc_inv hi).1, e1] at hex
    rcases hv.rs_inv with ⟨cap, b, E, n, e, hβ, hg, _⟩ | ⟨_, _, hl, _⟩
    · refine ⟨γ, w, .pointer (some ⟨b, lo * wd + q * wd, none⟩), ?_, γ.le_refl, hR, ?_⟩
      · rw [hex, e, Sem.run_bind, run_indexAt_slice ht hs hlt]; rfl
      · have := CR.rp (γ := γ) (w := w) k g wdb 0 ((lo + q) * wd) b hg hβ
        rw [Nat.zero_mul, Nat.zero_add, Nat.add_mul] at this
        rw [Nat.add_mul]
        exact .c _ _ this
    · omega
theorem pk_indexBx {P : Program} {w0 : World} {own : Nat → Prop} {st : St} {ops : Array Oper} {o : Oper} {t e : TypeId} {x ix : Operand} {k g wd lo len kn q : Nat} {u : Value} (wdb : Nat) (hd : st.fits o.dst = true) (ho : o.op = .indexAddr t x ix) (hx : evA st x = .c (.rs k g wd lo len kn)) (hix : evA st ix = sc u) (ht : elT P t = some e) (hs : szT P e = some wd) (hq : idx u len = some q)
    : PatchOK P w0 own ops o [] st ⟨o.dst, .c (.rp k g wdb 0 ((lo + q) * wd)), []⟩ :=
  .plain fun st' hal => by
    have e1 := hal.ev (x := x) (by rw [ho]; simp [Op.operands])
    have e2 := hal.ev (x := ix) (by rw [ho]; simp [Op.operands])
    exact op_indexBx wdb (fits_alike hal hd) ho (e1.trans hx) (e2.trans hix) ht hs hq

def evIndexAddr (P : Program) (x : X) (t : TypeId) (y ix : Operand) (K : KO) : Prop :=
  match evA x.S ix with
  | .c (.d (.v (.int _ i))) =>
    match arT P t with
    | some (n, e) => match szT P e with
      | some sz => match kindsT P e with
        | some _ => cond (decide (0 ≤ i) && decide (i < n)) (match (evA x.S y).ptrOn (mulN i.toNat sz) with | some z => K [] ⟨z, []⟩ x | none => False) False
        | none => splitI i (fun q => match (evA x.S y).ptrOn (q * sz) with | some z => K [] ⟨z, []⟩ x | none => False) 0 n
      | none => False
    | none => match elT P t with
      | some e => match evA x.S y with
        | .c (.rs k g wd lo len kn) => match szT P e with
          | some sz => match Nat.beq sz wd with
            | true => match boxW x.store k with
              | some wdb => splitI i (fun q => K [] ⟨.c (.rp k g wdb 0 ((lo + q) * wd)), []⟩ x) 0 len
              | none => cond (decide (0 ≤ i) && decide (i < len)) (K [] ⟨.c (.rp k g wd (addN lo i.toNat) 0), []⟩ x) False
            | false => False
          | none => False
        | .c (.d (.s tg sz rows sp)) => match szT P e with
          | some sz' => match Nat.beq sz' sz with
            | true => cond (decide (0 ≤ i) && decide (i < rows.length)) (K [] ⟨.c (.d (.p tg (rows.getD i.toNat []) 0)), []⟩ x) False
            | false => False
          | none => False
        | _ => False
      | none => False
  | _ => False
theorem evIndexAddr_sound {t : TypeId} {y ix : Operand} (ho : o.op = .indexAddr t y ix) : Sound P o x (evIndexAddr P x t y ix) := fun K h hd => by
  unfold evIndexAddr at h
  split at h
  · rename_i kd i hix
    split at h
    · rename_i n e ht
      split at h
      · rename_i sz hs
        split at h
        · obtain ⟨hi, h⟩ := cond_P h
          split at h
          · rename_i z hz
            exact ⟨_, _, h, fun w0 own ops => pk_indexArr hd ho rfl hix ht hs (idx_of hi) (by rw [← mulN_eq]; exact ptrOn_spec hz)⟩
          · exact h.elim
        · obtain ⟨q, hi, hq, h⟩ := splitI_spec _ _ h
          split at h
          · rename_i z hz
            have hi' : (decide (0 ≤ i) && decide (i < (n : Nat))) = true := by simp; omega
            have e : i.toNat = q := by omega
            exact ⟨_, _, h, fun w0 own ops => pk_indexArr hd ho rfl hix ht hs (idx_of hi') (by rw [e]; exact ptrOn_spec hz)⟩
          · exact h.elim
      · exact h.elim
    · split at h
      · rename_i e ht
        split at h
        · rename_i k g wd lo len kn hy
          split at h
          · rename_i sz hs
            split at h
            · rename_i hb
              have := beq_true hb; subst this
              split at h
              · rename_i wdb _
                obtain ⟨q, hi, hq, h⟩ := splitI_spec _ _ h
                have hi' : (decide (0 ≤ i) && decide (i < (len : Nat))) = true := by simp; omega
                have e : i.toNat = q := by omega
                exact ⟨_, _, h, fun w0 own ops => by
                  have := pk_indexBx (P := P) (w0 := w0) (own := own) (ops := ops) (st := x.S) wdb hd ho hy hix ht hs (idx_of hi')
                  rw [e] at this; exact this⟩
              · obtain ⟨hi, h⟩ := cond_P h
                rw [addN_eq] at h
                exact ⟨_, _, h, fun w0 own ops => pk_indexOwn hd ho hy hix ht hs (idx_of hi)⟩
            · exact h.elim
          · exact h.elim
        · rename_i tg sz rows sp hy
          split at h
          · rename_i sz' hs
            split at h
            · rename_i hb
              have := beq_true hb; subst this
              obtain ⟨hi, h⟩ := cond_P h
              refine ⟨_, _, h, fun w0 own ops => pk_indexD hd ho hy hix ht hs (idx_of hi) ?_⟩
              simp only [Bool.and_eq_true, decide_eq_true_eq] at hi
              have : i.toNat < rows.length := by omega
              simp [List.getD_eq_getElem?_getD, this]
            · exact h.elim
          · exact h.elim
        · exact h.elim
      · exact h.elim
  · exact h.elim

def evIndex (P : Program) (x : X) (t : TypeId) (y ix : Operand) (K : KO) : Prop :=
  match evA x.S ix, evA x.S y with
  | .c (.d (.v (.int _ i))), .agg cs =>
    match arT P t with
    | some (n, e) => match szT P e with
      | some sz => match kindsT P e with
        | some _ => cond (decide (0 ≤ i) && decide (i < n)) (evPart P e cs (mulN i.toNat sz) fun v => K [] ⟨v, []⟩ x) False
        | none => splitI i (fun q => evPart P e cs (q * sz) fun v => K [] ⟨v, []⟩ x) 0 n
      | none => False
    | none => False
  | _, _ => False
theorem evIndex_sound {t : TypeId} {y ix : Operand} (ho : o.op = .index t y ix) : Sound P o x (evIndex P x t y ix) := fun K h hd => by
  unfold evIndex at h
  split at h
  · rename_i kd i cs hix hy
    split at h
    · rename_i n e ht
      split at h
      · rename_i sz hs
        split at h
        · obtain ⟨hi, h⟩ := cond_P h
          obtain ⟨n', ag, r, v, q1, q2, q3, q4, q5⟩ := evPart_spec h
          rw [hs] at q1; cases q1
          rw [mulN_eq] at q3
          exact ⟨_, _, q5, fun w0 own ops => pk_index hd ho hy hix ht (idx_of hi) q2 hs q3 q4⟩
        · obtain ⟨q, hi, hq, h⟩ := splitI_spec _ _ h
          obtain ⟨n', ag, r, v, q1, q2, q3, q4, q5⟩ := evPart_spec h
          rw [hs] at q1; cases q1
          have hi' : (decide (0 ≤ i) && decide (i < (n : Nat))) = true := by simp; omega
          have e : i.toNat = q := by omega
          rw [← e] at q3
          exact ⟨_, _, q5, fun w0 own ops => pk_index hd ho hy hix ht (idx_of hi') q2 hs q3 q4⟩
      · exact h.elim
    · exact h.elim
  · exact h.elim

def evExtract (x : X) (y : Operand) (i : Nat) (K : KO) : Prop :=
  match evA x.S y with
  | .tup xs => match xs[i]? with | some v => K [] ⟨v, []⟩ x | none => False
  | _ => False
theorem evExtract_sound {y : Operand} {i : Nat} (ho : o.op = .extract y i) : Sound P o x (evExtract x y i) := fun K h hd => by
  unfold evExtract at h
  split at h
  · rename_i xs hy
    split at h
    · rename_i v hv; exact ⟨_, _, h, fun w0 own ops => pk_extract hd ho hy hv⟩
    · exact h.elim
  · exact h.elim

def evBuild (P : Program) (x : X) (t : TypeId) (ps : Array (Nat × Operand)) (K : KO) : Prop :=
  match zeroT P t with
  | some zs => match zs.all plain with
    | true => match P.underlying t with
      | some (.struct fs) => match fs.toList.all fun f => (szT P f.type).isSome with
        | true => match fillA (placeT P t) (zs.map fun v => .d (.v v)) (partsA x.S ps.toList) with | some out => K [] ⟨.agg out, []⟩ x | none => False
        | false => False
      | some (.array n e) => match szT P e with
        | some sz => match fillA (fun i => some (i * sz, sz)) (zs.map fun v => .d (.v v)) (partsA x.S ps.toList) with | some out => K [] ⟨.agg out, []⟩ x | none => False
        | none => False
      | _ => False
    | false => False
  | none => False
theorem evBuild_sound {t : TypeId} {ps : Array (Nat × Operand)} (ho : o.op = .build t ps) : Sound P o x (evBuild P x t ps) := fun K h hd => by
  have ho' : o.op = .build t ps.toList.toArray := by simpa using ho
  unfold evBuild at h
  split at h
  · rename_i zs hz
    split at h
    · rename_i hp
      split at h
      · rename_i fs hu
        split at h
        · rename_i hall
          split at h
          · rename_i out hf
            exact ⟨_, _, h, fun w0 own ops => pk_build hd ho' hz hp hf hu fun f hfm => List.all_eq_true.1 hall f hfm⟩
          · exact h.elim
        · exact h.elim
      · rename_i n e hu
        split at h
        · rename_i sz hs
          split at h
          · rename_i out hf
            exact ⟨_, _, h, fun w0 own ops => pk_buildArr (n := n) (e := e) hd ho' hz hp (by simp [arT, hu]) hs hf⟩
          · exact h.elim
        · exact h.elim
      · exact h.elim
    · exact h.elim
  · exact h.elim
end

section
open Go
set_option linter.unusedSimpArgs false
set_option linter.unusedVariables false

variable {P : Program} {w0 : World} {own : Nat → Prop} {γ : Gh} {st : St} {a : Act} {w : World} {o : Oper} {x : X}

/-! ### arguments -/
/-- As it is read by a callee. -/
def D.ro1 : D → D
  | .s _ z rows sp => .s 0 z rows sp
  | .p _ cells off => .p 0 cells off
  | d => d
theorem DR.ro1 {G : Nat → Prop} {v : Value} {d : D} (h : DR w G v d) : DR w G v d.ro1 := by
  cases d with
  | s t z rows sp => exact h.retag 0
  | p t cells off => exact h.retagp 0
  | _ => exact h
theorem D.ro1_not_own (d : D) (z : Nat) (rows spare : List (List D)) : d.ro1 ≠ .s 1 z rows spare := by cases d <;> simp [D.ro1]

def cut (rows : List (List D)) (lo n : Nat) : List (List D) := (rows.drop lo).take n

def evC (x : X) : Nat → C → (D → Prop) → Prop
  | 0, _, _ => False
  | _ + 1, .d d, K => K d.ro1
  | _ + 1, .rs k g wd lo len kn, K =>
    match lookN x.store k with
    | some (.sl tag wd' rows) => match Nat.beq tag g && Nat.beq wd' wd with
      | true => cond (decide (lo + len ≤ rows.length)) (K (.s 0 wd (cut rows lo len) (cut rows (lo + len) (kn - len)))) False
      | false => False
    | _ => False
  | n + 1, .rp k g wd i j, K =>
    match lookN x.store k with
    | some (.bx tag wd' row) => match Nat.beq tag g && (Nat.beq wd' wd && Nat.beq i 0) with
      | true => evCL (evC x n) row fun ds => K (.p 0 ds j)
      | false => False
    | some (.sl tag wd' rows) => match Nat.beq tag g && Nat.beq wd' wd with
      | true => cond (decide (i < rows.length)) (K (.p 0 (rows.getD i []) j)) False
      | false => False
    | none => False
  | n + 1, .cf fn fs cs, K => evCL (evC x n) fs fun ds => evCL (evC x n) cs fun es => K (.f fn ds es)
  | _ + 1, .non, _ => False
where
  evCL (f : C → (D → Prop) → Prop) : List C → (List D → Prop) → Prop
    | [], K => K []
    | c :: l, K => f c fun d => evCL f l fun ds => K (d :: ds)

theorem evCL_spec {f : C → (D → Prop) → Prop} {g : C → D → Prop} (hf : ∀ c K, f c K → ∃ d, K d ∧ g c d) : ∀ (l : List C) (K : List D → Prop), evC.evCL f l K → ∃ ds, K ds ∧ l.length = ds.length ∧ ∀ (i : Nat) (c : C) (d : D), l[i]? = some c → ds[i]? = some d → g c d
  | [], K, h => ⟨[], h, rfl, by simp⟩
  | c :: l, K, h => by
    simp only [evC.evCL] at h
    obtain ⟨d, h1, h2⟩ := hf c _ h
    obtain ⟨ds, h3, h4, h5⟩ := evCL_spec hf l _ h1
    refine ⟨d :: ds, h3, by simp [h4], fun i c' d' hc hd => ?_⟩
    cases i with
    | zero => simp at hc hd; subst hc hd; exact h2
    | succ i => exact h5 i c' d' (by simpa using hc) (by simpa using hd)

/-- In every memory that is alike on these keys, what is read of c is d. -/
def Reads (x : X) (n : Nat) (c : C) (d : D) : Prop :=
  (∀ d0, c = .d d0 → d = d0.ro1) ∧ ∀ (w0 : World) (own : Nat → Prop) (γ : Gh) (st : St) (a : Act) (w : World) (v : Value), Rel w0 own γ st a w → (∀ k, k ∈ keysC x.S.store n c → st.store k = x.S.store k) → CR γ w v c →
    DR w (· < w.heap.size) v d ∧ ∀ z rows spare, d ≠ .s 1 z rows spare

theorem evC_spec : ∀ (n : Nat) (c : C) (K : D → Prop), evC x n c K → ∃ d, K d ∧ Reads x n c d
  | 0, c, K, h => h.elim
  | n + 1, .d d, K, h => ⟨_, h, fun d0 e => by cases e; rfl, fun w0 own γ st a w v hR _ hc => by
      have := (AR.c (γ := γ) _ _ hc).d_inv
      exact ⟨(this.mono (fun b hb => hR.lt b (γ.at_G _ b hb)) (Same.refl _ _)).ro1, d.ro1_not_own⟩⟩
  | n + 1, .rs k g wd lo len kn, K, h => by
    simp only [evC] at h
    split at h
    · rename_i tag wd' rows hk
      split at h
      · rename_i hb
        simp only [Bool.and_eq_true] at hb
        obtain ⟨e1, e2⟩ := hb
        have e1 := beq_true e1; have e2 := beq_true e2
        subst e1 e2
        obtain ⟨hle, h⟩ := cond_P h
        simp only [decide_eq_true_eq] at hle
        refine ⟨_, h, by simp, fun w0 own γ st a w v hR hst hc => ⟨?_, by simp⟩⟩
        have hk' : st.store k = some (XRoot.sl tag wd' rows).root := (hst k (by simp [keysC])).trans (S_store hk)
        have hm := hR.mem k _ hk'
        unfold RootOK at hm
        rcases (AR.c (γ := γ) _ _ hc).rs_inv with ⟨cap, b, E, nn, rfl, hβ, hg, hsh, hcap, hlc, hkn⟩ | ⟨⟨_, rfl⟩, hlo, hl0, hk0, hβ, _⟩
        · rw [show (XRoot.sl tag wd' rows).root.tag = tag from rfl, hβ] at hm
          obtain ⟨arr, E', harr, hw, hsz, hcell⟩ := hm
          have hlr : (emb rows).length = rows.length := by simp [emb]
          have hsz' : rows.length * wd' ≤ arr.size := by
            have : (emb rows).length * wd' ≤ arr.size := hsz
            rwa [hlr] at this
          have hll : (cut rows lo len).length = len := by simp [cut]; omega
          have hb : b < w.heap.size := hR.ltβ k tag b hg hβ
          generalize hsp : cut rows (lo + len) (kn - len) = sp
          have hspl : sp.length ≤ kn - len ∧ sp.length ≤ rows.length - (lo + len) := by rw [← hsp]; simp [cut]; omega
          have hget : ∀ (i : Nat) r, (cut rows lo len ++ sp)[i]? = some r → i < len + sp.length ∧ rows[lo + i]? = some r := by
            intro i r hi
            have hil : i < len + sp.length := by have := (List.getElem?_eq_some_iff.1 hi).1; simp [hll] at this; omega
            refine ⟨hil, ?_⟩
            by_cases hi2 : i < len
            · rw [List.getElem?_append_left (by omega)] at hi
              unfold cut at hi
              rw [List.getElem?_take, if_pos hi2, List.getElem?_drop] at hi
              exact hi
            · rw [List.getElem?_append_right (by omega), hll, ← hsp] at hi
              unfold cut at hi
              rw [List.getElem?_take] at hi
              split at hi
              · rw [List.getElem?_drop] at hi
                rw [← hi]; congr 1; omega
              · cases hi
          have key : DR w (· < w.heap.size) (.slice (some ⟨b, lo * wd', none⟩) (cut rows lo len).length cap) (.s 0 wd' (cut rows lo len) sp) := by
            refine .s 0 _ sp b (lo * wd') cap wd' (fun i j => arr.getD ((lo + i) * wd' + j) undef) hb ?_ (by omega) ?_ ?_
            · intro r hr
              obtain ⟨i, hi⟩ := List.getElem?_of_mem hr
              obtain ⟨_, hi⟩ := hget i r hi
              have : r.map C.d ∈ emb rows := List.mem_map.2 ⟨r, List.mem_of_getElem? hi, rfl⟩
              have := hw _ this
              simpa [XRoot.root] using this
            · intro i j hi hj
              rw [hll] at hi
              have hpos : (lo + i) * wd' + j < arr.size := Nat.lt_of_lt_of_le (row_lt (by omega : lo + i < rows.length) hj) hsz'
              have e : lo * wd' + (i * wd' + j) = (lo + i) * wd' + j := by rw [Nat.add_mul]; omega
              rw [e]
              simp [World.cell?, harr, hpos]
            · intro i j r d h1 h2
              obtain ⟨_, h1⟩ := hget i r h1
              obtain ⟨r', g1, g2⟩ := emb_get h1 h2
              exact (hcell _ _ _ _ g1 g2).read.mono hR.lt (Same.refl _ _)
          rw [hll] at key
          exact key
        · subst hl0 hk0
          have e1 : cut rows lo 0 = [] := by simp [cut]
          have e2 : cut rows (lo + 0) (0 - 0) = [] := by simp [cut]
          rw [e1, e2]
          exact .e _ 0 _ _
      · exact h.elim
    · exact h.elim
  | n + 1, .rp k g wd i j, K, h => by
    simp only [evC] at h
    split at h
    · rename_i tag wd' row hk
      split at h
      · rename_i hb
        simp only [Bool.and_eq_true] at hb
        obtain ⟨e1, e2, e3⟩ := hb
        have e1 := beq_true e1; have e2 := beq_true e2; have e3 := beq_true e3
        subst e1 e2 e3
        obtain ⟨ds, h1, h2, h3⟩ := evCL_spec (fun c K => evC_spec n c K) row _ h
        refine ⟨_, h1, by simp, fun w0 own γ st a w v hR hst hc => ⟨?_, by simp⟩⟩
        have hS := S_store (x := x) hk
        have hk' : st.store k = some (XRoot.bx tag wd' row).root := (hst k (by simp [keysC])).trans hS
        obtain ⟨b, rfl, hβ, hg⟩ := (AR.c (γ := γ) _ _ hc).rp_inv
        have hm := hR.mem k _ hk'
        unfold RootOK at hm
        rw [show (XRoot.bx tag wd' row).root.tag = tag from rfl, hβ] at hm
        obtain ⟨arr, E', harr, hw, hsz, hcell⟩ := hm
        have hrl : row.length = wd' := hw row (by simp [XRoot.root])
        have hsz' : wd' ≤ arr.size := by
          have : 1 * wd' ≤ arr.size := hsz
          omega
        refine .p 0 ds b (0 * wd') j (fun q => arr.getD (0 * wd' + q) undef) (hR.ltβ k tag b hg hβ) (fun q hq => ?_) (fun q d hd => ?_)
        · have hpos : q < arr.size := by omega
          simp [World.cell?, harr, hpos]
        · have hq : q < row.length := by have := (List.getElem?_eq_some_iff.1 hd).1; omega
          have hc' : row[q]? = some row[q] := List.getElem?_eq_getElem hq
          have hfc := h3 q row[q] d hc' hd
          have hsr := hcell 0 q row row[q] rfl hc'
          generalize hy : row[q] = y at hsr hfc
          have hkeys : ∀ k', k' ∈ keysC x.S.store n y → st.store k' = x.S.store k' := fun k' hk' => hst k' (by
            simp only [keysC, hS]
            refine List.mem_cons_of_mem _ (List.mem_flatMap.2 ⟨y, ?_, hk'⟩)
            have : y ∈ row := by rw [← hy]; exact List.getElem_mem hq
            simpa [XRoot.root] using this)
          cases y with
          | d x' =>
            have := hfc.1 x' rfl
            subst this
            exact (hsr.read.mono hR.lt (Same.refl _ _)).ro1
          | _ => exact (hfc.2 w0 own γ st a w _ hR hkeys hsr).1
      · exact h.elim
    · rename_i tag wd' rows hk
      split at h
      · rename_i hb
        simp only [Bool.and_eq_true] at hb
        obtain ⟨e1, e2⟩ := hb
        have e1 := beq_true e1; have e2 := beq_true e2
        subst e1 e2
        obtain ⟨hi, h⟩ := cond_P h
        simp only [decide_eq_true_eq] at hi
        refine ⟨_, h, by simp, fun w0 own γ st a w v hR hst hc => ⟨?_, by simp⟩⟩
        have hk' : st.store k = some (XRoot.sl tag wd' rows).root := (hst k (by simp [keysC])).trans (S_store hk)
        obtain ⟨b, rfl, hβ, hg⟩ := (AR.c (γ := γ) _ _ hc).rp_inv
        have hm := hR.mem k _ hk'
        unfold RootOK at hm
        rw [show (XRoot.sl tag wd' rows).root.tag = tag from rfl, hβ] at hm
        obtain ⟨arr, E', harr, hw, hsz, hcell⟩ := hm
        have hrow : (emb rows)[i]? = some ((rows.getD i []).map C.d) := emb_row hi
        have hrl : (rows.getD i []).length = wd' := by simpa [XRoot.root] using hw _ (List.mem_of_getElem? hrow)
        have hsz' : rows.length * wd' ≤ arr.size := by
          have : (emb rows).length * wd' ≤ arr.size := hsz
          simpa [emb] using this
        refine .p 0 _ b (i * wd') j (fun q => arr.getD (i * wd' + q) undef) (hR.ltβ k tag b hg hβ) (fun q hq => ?_) (fun q d hd => ?_)
        · have hpos : i * wd' + q < arr.size := Nat.lt_of_lt_of_le (row_lt hi (by omega)) hsz'
          simp [World.cell?, harr, hpos]
        · have := hcell i q _ (.d d) hrow (by rw [List.getElem?_map, hd]; rfl)
          exact this.read.mono hR.lt (Same.refl _ _)
      · exact h.elim
    · exact h.elim
  | n + 1, .cf fn fs cs, K, h => by
    simp only [evC] at h
    obtain ⟨ds, h1, h2, h3⟩ := evCL_spec (fun c K => evC_spec n c K) fs _ h
    obtain ⟨es, h4, h5, h6⟩ := evCL_spec (fun c K => evC_spec n c K) cs _ h1
    refine ⟨_, h4, by simp, fun w0 own γ st a w v hR hst hc => ⟨?_, by simp⟩⟩
    cases hc with
    | cf _ _ _ fv cv s1 s2 c1 c2 =>
      refine .f fn ds es fv cv (by omega) (by omega) (fun i d hd => ?_) (fun i d hd => ?_)
      · have hq : i < fs.length := by have := (List.getElem?_eq_some_iff.1 hd).1; omega
        exact ((h3 i _ d (List.getElem?_eq_getElem hq) hd).2 w0 own γ st a w _ hR (fun k hk => hst k (by simp only [keysC]; exact List.mem_append_left _ (List.mem_flatMap.2 ⟨_, List.getElem_mem hq, hk⟩))) (c1 i _ (List.getElem?_eq_getElem hq))).1
      · have hq : i < cs.length := by have := (List.getElem?_eq_some_iff.1 hd).1; omega
        exact ((h6 i _ d (List.getElem?_eq_getElem hq) hd).2 w0 own γ st a w _ hR (fun k hk => hst k (by simp only [keysC]; exact List.mem_append_right _ (List.mem_flatMap.2 ⟨_, List.getElem_mem hq, hk⟩))) (c2 i _ (List.getElem?_eq_getElem hq))).1
  | n + 1, .non, K, h => h.elim
end

section
open Go
set_option linter.unusedSimpArgs false
set_option linter.unusedVariables false

variable {P : Program} {w0 : World} {own : Nat → Prop} {γ : Gh} {st : St} {a : Act} {w : World} {o : Oper} {x : X} {ops : Array Oper}

/-- Which cells of a type are slices, and how wide their elements. -/
def cellW (P : Program) : Nat → TypeId → List (Option Nat)
  | 0, _ => []
  | n + 1, t => match P.underlying t with
    | some (.slice e) => [szT P e]
    | some (.struct fs) => fs.toList.flatMap fun f => cellW P n f.type
    | some (.array m e) => (List.range m).flatMap fun _ => cellW P n e
    | _ => [none]
def isNilC (c : C) : Bool := match c with | .d (.v (.slice none 0 0)) => true | _ => false
theorem isNilC_spec {c : C} (h : isNilC c = true) : c = .d (.v (.slice none 0 0)) := by
  unfold isNilC at h
  split at h
  · rfl
  · cases h
def nilTo (w : Option Nat) (c : C) : C := match isNilC c, w with | true, some z => .d (.s 0 z [] []) | _, _ => c
def nilsTo : List (Option Nat) → List C → List C
  | w :: ws, c :: cs => nilTo w c :: nilsTo ws cs
  | _, cs => cs
def nilsT (P : Program) (t : TypeId) (cs : List C) : List C := match cs.any isNilC with | true => nilsTo (cellW P 9 t) cs | false => cs
theorem nilTo_spec {v : Value} {c : C} (wd : Option Nat) (h : CR γ w v c) : CR γ w v (nilTo wd c) := by
  unfold nilTo
  split
  · rename_i z hn
    have := isNilC_spec hn
    subst this
    have e := (AR.sc_inv (show AR γ w v (sc (.slice none 0 0)) from .c _ _ h)).1
    subst e
    exact .d _ _ (.e none 0 z 0)
  · exact h
theorem nilTo_keys (σ : Nat → Option Root) (n : Nat) (wd : Option Nat) (c : C) {k : Nat} (h : k ∈ keysC σ n (nilTo wd c)) : k ∈ keysC σ n c := by
  unfold nilTo at h
  split at h
  · cases n <;> simp [keysC] at h
  · exact h
theorem nilsTo_get : ∀ (ws : List (Option Nat)) (cs : List C), (nilsTo ws cs).length = cs.length ∧ ∀ (i : Nat) c, cs[i]? = some c → ∃ wd, (nilsTo ws cs)[i]? = some (nilTo wd c)
  | [], cs => ⟨by cases cs <;> rfl, fun i c h => ⟨none, by
      have e : nilsTo [] cs = cs := by cases cs <;> rfl
      rw [e, h]; unfold nilTo; split
      · rename_i h; cases h
      · rfl⟩⟩
  | wd :: ws, [] => ⟨rfl, by simp⟩
  | wd :: ws, c :: cs => by
    obtain ⟨h1, h2⟩ := nilsTo_get ws cs
    refine ⟨by simp [nilsTo, h1], fun i c' h => ?_⟩
    cases i with
    | zero => simp at h; subst h; exact ⟨wd, rfl⟩
    | succ i => simpa [nilsTo] using h2 i c' (by simpa using h)
theorem nilTo_none (c : C) : nilTo none c = c := by unfold nilTo; split <;> first | rfl | (rename_i h; cases h)
theorem nilsT_get (P : Program) (t : TypeId) (cs : List C) : (nilsT P t cs).length = cs.length ∧ ∀ (i : Nat) c, cs[i]? = some c → ∃ wd, (nilsT P t cs)[i]? = some (nilTo wd c) := by
  unfold nilsT
  split
  · exact nilsTo_get _ _
  · exact ⟨rfl, fun i c h => ⟨none, by rw [h, nilTo_none]⟩⟩

def evArg (P : Program) (x : X) (t : TypeId) (y : A) (K : DV → Prop) : Prop :=
  match y with
  | .c (.d (.v (.slice none 0 0))) => match elT P t with
    | some e => match szT P e with | some z => K (.c (.s 0 z [] [])) | none => False
    | none => False
  | .c c => evC x 40 c fun d => K (.c d)
  | .agg cs => evC.evCL (evC x 40) (nilsT P t cs) fun ds => K (.agg ds)
  | _ => False

def ReadsA (x : X) (y : A) (d : DV) : Prop :=
  ∀ (w0 : World) (own : Nat → Prop) (γ : Gh) (st : St) (a : Act) (w : World) (v : Value), Rel w0 own γ st a w → (∀ k, k ∈ keysA x.S.store 40 y → st.store k = x.S.store k) → AR γ w v y → OV w (· < w.heap.size) v d fun _ => False

theorem readsA_c {c : C} {d : D} (h : Reads x 40 c d) : ReadsA x (.c c) (.c d) := fun w0 own γ st a w v hR hk hv => by
  cases hv with
  | c _ _ hc =>
    obtain ⟨h1, h2⟩ := h.2 w0 own γ st a w v hR hk hc
    exact .c _ _ _ (.r _ _ _ h2 h1)

theorem evArg_spec {t : TypeId} {y : A} {K : DV → Prop} (h : evArg P x t y K) : ∃ d, K d ∧ ReadsA x y d := by
  unfold evArg at h
  split at h
  · split at h
    · split at h
      · rename_i z _
        refine ⟨_, h, fun w0 own γ st a w v hR hk hv => ?_⟩
        obtain ⟨rfl, _⟩ := AR.sc_inv hv
        exact .c _ _ _ (.r _ _ _ (by simp) (.e none 0 z 0))
      · exact h.elim
    · exact h.elim
  · obtain ⟨d, h1, h2⟩ := evC_spec _ _ _ h
    exact ⟨_, h1, readsA_c h2⟩
  · rename_i cs
    obtain ⟨ds, h1, h2, h3⟩ := evCL_spec (fun c K => evC_spec 40 c K) _ _ h
    obtain ⟨n1, n2⟩ := nilsT_get P t cs
    refine ⟨_, h1, fun w0 own γ st a w v hR hk hv => ?_⟩
    cases hv with
    | agg vs _ hs hc =>
      refine .agg vs ds _ (fun _ _ => False) (by omega) (fun i d hd => ?_) (fun _ _ h => h) (fun _ _ _ h _ => h.elim)
      have hq : i < cs.length := by have := (List.getElem?_eq_some_iff.1 hd).1; omega
      have hcr := hc i cs[i] (List.getElem?_eq_getElem hq)
      obtain ⟨wd, hw⟩ := n2 i cs[i] (List.getElem?_eq_getElem hq)
      have hrd := h3 i _ d hw hd
      obtain ⟨g1, g2⟩ := hrd.2 w0 own γ st a w _ hR (fun k hkk => hk k (List.mem_flatMap.2 ⟨_, List.getElem_mem hq, nilTo_keys _ _ wd _ hkk⟩)) (nilTo_spec wd hcr)
      exact .r _ _ _ g2 g1
  · exact h.elim

def evArgs (P : Program) (x : X) : List Operand → List TypeId → (List DV → Prop) → Prop
  | [], _, K => K []
  | y :: l, ts, K => evArg P x (ts.headD 0) (evA x.S y) fun d => evArgs P x l ts.tail fun ds => K (d :: ds)

theorem evArgs_spec : ∀ (l : List Operand) (ts : List TypeId) (K : List DV → Prop), evArgs P x l ts K → ∃ ds, K ds ∧ l.length = ds.length ∧ ∀ (i : Nat) y d, l[i]? = some y → ds[i]? = some d → ReadsA x (evA x.S y) d
  | [], ts, K, h => ⟨[], h, rfl, by simp⟩
  | y :: l, ts, K, h => by
    simp only [evArgs] at h
    obtain ⟨d, h1, h2⟩ := evArg_spec h
    obtain ⟨ds, h3, h4, h5⟩ := evArgs_spec l _ _ h1
    refine ⟨d :: ds, h3, by simp [h4], fun i y' d' hy hd => ?_⟩
    cases i with
    | zero => simp at hy hd; subst hy hd; exact h2
    | succ i => exact h5 i y' d' (by simpa using hy) (by simpa using hd)

/-- A call that enters f with such data. -/
def Enters (P : Program) (w0 : World) (own : Nat → Prop) (o : Oper) (st : St) (f : FuncId) (ds : List DV) : Prop :=
  ∀ γ a w, Rel w0 own γ st a w → ∃ vs, (execOp a.eval o).run P w = .ok (.enter f vs) w ∧ OV w (· < w.heap.size) (.tuple vs) (.tup ds) fun _ => False

theorem op_callG {f : FuncId} {ds : List DV} {res : DV} (k : Nat) (hd : (matV st k res).1.fits o.dst = true) (he : Enters P w0 own o st f ds) (hct : CT P f ds res) (hp : res.pureOwn = true ∨ (DV.tup ds).pureOwn = true) : OpOK P w0 own o st ((matV st k res).1.put o.dst (matV st k res).2) := by
  intro γ a w next Q hR hn
  obtain ⟨vs, hex, hov⟩ := he γ a w hR
  suffices key : ∀ Gx : Nat → Prop, OV w Gx (.tuple vs) (.tup ds) (fun _ => False) → (∀ b, Gx b → b < w.heap.size) → (∀ (w' : World) v S' (G' : Nat → Prop), (∀ b, w.heap.size ≤ b ∧ b < w'.heap.size ∧ ¬ S' b → G' b) → OV w' (fun b => (Gx b ∨ False ∨ w.heap.size ≤ b) ∧ b < w'.heap.size ∧ ¬ S' b) v res S' → OV w' G' v res S') → o.wp P a w next Q by
    rcases hp with hp | hp
    · exact key _ hov (fun b hb => hb) fun w' v S' G' _ hv => hv.pure hp
    · exact key (fun _ => False) (hov.pure hp) (fun b hb => hb.elim) fun w' v S' G' hG hv => hv.mono (fun b ⟨h1, h2, h3⟩ => hG b ⟨h1.elim (fun h => h.elim) fun h => h.elim (fun h => h.elim) id, h2, h3⟩) (.refl _ _) (.refl _ _)
  intro Gx hov hGx hpx
  have hcall := hct w _ (fun _ => False) Gx hov (fun b hb => ⟨hGx b hb, fun h => h⟩) (fun _ h => h.elim)
  simp only [Oper.wp, hex, Oper.upon_enter]
  refine hcall.mono fun e w' ⟨v, S', he, hv, hS', henv⟩ => ?_
  subst he
  simp only
  have hR1 := hR.world (w' := w') (fun b hb => henv.block b hb fun h => h) henv.size henv.os henv.tape henv.output
  have hfreshN : ∀ b, w.heap.size ≤ b → b < w'.heap.size → Free w0 own γ st w' (fun c => c = b) := by
    rintro b hb hb' c rfl
    refine ⟨fun hG => ?_, fun k' R hk hβ => ?_, .inr (Nat.le_trans hR.env.size hb), hb'⟩
    · have := hR.lt c hG; omega
    · have := hR.ltβ k' R.tag c (by rw [hR.gen]; exact hR.tag k' R hk) hβ; omega
  have hfree : ∀ S : Nat → Prop, (∀ b, S b → w.heap.size ≤ b ∧ b < w'.heap.size) → Free w0 own γ st w' S := fun S h b hb => hfreshN b (h b hb).1 (h b hb).2 b rfl
  have hSf : ∀ b, S' b → w.heap.size ≤ b ∧ b < w'.heap.size := fun b hb => ⟨(hS' b hb).1.elim (fun h => h.elim) id, (hS' b hb).2⟩
  obtain ⟨hR2, hle2⟩ := hR1.still (N := fun b => w.heap.size ≤ b ∧ b < w'.heap.size ∧ ¬ S' b) (hfree _ fun b hb => ⟨hb.1, hb.2.1⟩)
  have hv2 : OV w' (γ.still fun b => w.heap.size ≤ b ∧ b < w'.heap.size ∧ ¬ S' b).F v res S' := hpx _ _ _ _ (fun b hb => .inr hb) hv
  have hfS : Free w0 own (γ.still fun b => w.heap.size ≤ b ∧ b < w'.heap.size ∧ ¬ S' b) st w' S' := by
    intro b hb
    obtain ⟨f1, f2, f3, f4⟩ := hfree S' hSf b hb
    refine ⟨fun hG => ?_, f2, f3, f4⟩
    rcases hG with (hF | hN) | hf
    · exact f1 (.inl hF)
    · exact hN.2.2 hb
    · exact f1 (.inr hf)
  obtain ⟨γ3, q1, q2, q3, _⟩ := matV_spec hR2 k hv2 hfS
  exact hn γ3 _ w' (Gh.le_trans hle2 q1) (q2.put q3 hd)

theorem pk_callG {f : FuncId} {ds : List DV} {res : DV} {Ks : List Nat} (k : Nat) (hd : st.fits o.dst = true) (he : ∀ st', Alike ops o (Ks ++ (upV st.gen k res).1.map (·.1)) st st' → Enters P w0 own o st' f ds) (hct : CT P f ds res) (hp : res.pureOwn = true ∨ (DV.tup ds).pureOwn = true) (hfit : res.fit32 = true) :
    PatchOK P w0 own ops o (Ks ++ (upV st.gen k res).1.map (·.1)) st ⟨o.dst, (upV st.gen k res).2, toU (upV st.gen k res).1⟩ := by
  refine ⟨rfl, fun i hi => ?_, fun st' hal => ?_⟩
  · rw [keysU_toU] at hi; exact List.mem_append_right _ hi
  · have e2 : upV st'.gen k res = upV st.gen k res := upV_congr fun i hi => hal.gen i (List.mem_append_right _ hi)
    have e3 := matV_up st' k res hfit
    have := op_callG (P := P) (w0 := w0) (own := own) (st := st') (o := o) (res := res) k (by
      rw [e3]
      have := fits_alike hal hd
      cases h : o.dst <;> simp_all [St.fits, St.ups, St.patch]) (he st' hal) hct hp
    rw [e3, e2, ups_put] at this
    exact this

/-- '&' and '|' of two ints. -/
def band (x y : Int) : Int := IntKind.i64.wrap (BitVec.toNat (BitVec.ofInt 64 x &&& BitVec.ofInt 64 y))
def bor (x y : Int) : Int := IntKind.i64.wrap (BitVec.toNat (BitVec.ofInt 64 x ||| BitVec.ofInt 64 y))
def bxor (x y : Int) : Int := IntKind.i64.wrap (BitVec.toNat (BitVec.ofInt 64 x ^^^ BitVec.ofInt 64 y))
/-- Whole numbers as floats and back. -/
def rI2F (n : Int) : Nat := FloatKind.f64.nearest n
def rOK (b : Nat) : Bool := match (FloatKind.f64.decode b).toInt .zero with | some n => decide (IntKind.i64.min ≤ n ∧ n ≤ IntKind.i64.max) | none => false
def rF2I (b : Nat) : Int := ((FloatKind.f64.decode b).toInt .zero).getD 0
theorem run_f2i {P : Program} {b : Nat} (h : rOK b = true) : pureRun P (Conv.floatToInt .f64 b .i64) = some (.int .i64 (rF2I b)) := by
  unfold rOK at h
  unfold Conv.floatToInt rF2I
  split at h
  · rename_i n hn
    have h := of_decide_eq_true h
    simp only [hn, if_pos h, Option.getD_some]
    rfl
  · cases h
structure Hooks where
  split : Bool := false
  give : Nat → Bool := fun _ => false
  over : Nat → Bool := fun _ => false
  pick : Nat → Option Int := fun _ => none
  and : Int → Int → Int
  or : Int → Int → Int
  i2f : Int → Nat
  f2i : Nat → Int
  fok : Nat → Bool
  call : FuncId → List DV → (DV → Prop) → Prop
  loop : Nat → Option ((Exit → X → Prop) → X → Prop)

def CallsOK (P : Program) (H : Hooks) : Prop := (∀ x y, H.and x y = band x y) ∧ (∀ x y, H.or x y = bor x y) ∧ ((∀ x, H.i2f x = rI2F x) ∧ (∀ x, H.f2i x = rF2I x) ∧ ∀ x, H.fok x = rOK x) ∧ ∀ f ds Q, H.call f ds Q → Goes P f ∧ ∃ r, CT P f ds r ∧ (r.pureOwn = true ∨ (DV.tup ds).pureOwn = true) ∧ r.fit32 = true ∧ Q r

/-- A key whose roots are nobody's yet. -/
def hasK : List (Nat × XRoot) → Nat → Bool
  | [], _ => false
  | (i, _) :: l, k => (Nat.ble k i && Nat.ble (i + 1) (k + 32)) || hasK l k
def freeK (s : List (Nat × XRoot)) (base : Nat) : Nat → Nat → Nat
  | 0, _ => base
  | n + 1, k => match hasK s k with | true => freeK s base n (k + 32) | false => k
def X.freeC (x : X) (o : Oper) : Nat := freeK x.store (1000 * keyO o) 31 (1000 * keyO o)
def X.freeO (x : X) (o : Oper) : Nat := match lookN x.store (keyO o) with
  | none => keyO o
  | some _ => freeK x.store (keyO o) 31 (40000000 + 1000 * keyO o)

def keysOps (x : X) (l : List Operand) : List Nat := l.flatMap fun y => keysA x.S.store 40 (evA x.S y)

def D.notOwn : D → Bool
  | .s t _ _ _ => match t with | 1 => false | _ => true
  | _ => true
theorem notOwn_spec {d : D} (h : d.notOwn = true) (z : Nat) (rows sp : List (List D)) : d ≠ .s 1 z rows sp := by
  rintro rfl; simp [D.notOwn] at h

/-- Which function is called, what stands before and behind the arguments. -/
def evCallee (x : X) (c : Operand) (K : FuncId → List DV → List DV → Prop) : Prop :=
  match c with
  | .func f => K f [] []
  | .tmp t => match x.tmps.getD t .dead with
    | .c y => evC x 40 y fun d => match d with
      | .f fn fs cs => match fs.all D.notOwn && cs.all D.notOwn with | true => K fn (fs.map .c) (cs.map .c) | false => False
      | _ => False
    | _ => False
  | _ => False

def evCall (P : Program) (H : Hooks) (o : Oper) (x : X) (c : Operand) (args : Array Operand) (tys : Array TypeId) (K : KO) : Prop :=
  evCallee x c fun f fs cs => evArgs P x args.toList tys.toList fun ds => H.call f (fs ++ (ds ++ cs)) fun res =>
    K (keysOps x (c :: args.toList) ++ (upV x.gen (x.freeC o) res).1.map (·.1)) ⟨(upV x.gen (x.freeC o) res).2, (upV x.gen (x.freeC o) res).1⟩ x

theorem ov_tuple {vs : List Value} {ds : List DV} (hl : vs.length = ds.length) (h : ∀ (i : Nat) v d, vs[i]? = some v → ds[i]? = some d → OV w (· < w.heap.size) v d fun _ => False) : OV w (· < w.heap.size) (.tuple vs.toArray) (.tup ds) fun _ => False :=
  .tup _ _ _ (fun _ _ => False) (by simp [hl]) (fun i d hd => by
    have hi : i < vs.length := by have := (List.getElem?_eq_some_iff.1 hd).1; omega
    have := h i vs[i] d (List.getElem?_eq_getElem hi) hd
    simpa [Array.getD, hi] using this) (fun _ _ h => h) (fun _ _ _ h _ => h.elim)

theorem evCall_sound {H : Hooks} (hH : CallsOK P H) {c : Operand} {args : Array Operand} {tys : Array TypeId} (ho : o.op = .call { callee := .value c, args := args, argTypes := tys }) : Sound P o x (evCall P H o x c args tys) := fun K h hd => by
  have hops : o.op.operands.toList = c :: args.toList := by rw [ho]; simp [Op.operands, Call.operands]
  have hargs : ∀ (ds : List DV), args.toList.length = ds.length → (∀ (i : Nat) y d, args.toList[i]? = some y → ds[i]? = some d → ReadsA x (evA x.S y) d) →
      ∀ (w0 : World) (own : Nat → Prop) (γ : Gh) (st' : St) (a : Act) (w : World), Rel w0 own γ st' a w → (∀ y ∈ c :: args.toList, evA st' y = evA x.S y) → (∀ k ∈ keysOps x (c :: args.toList), st'.store k = x.S.store k) →
        ∀ (i : Nat) v d, (args.toList.map a.eval)[i]? = some v → ds[i]? = some d → OV w (· < w.heap.size) v d fun _ => False := by
    intro ds hl hr w0 own γ st' a w hR h1 h2 i v d hv hd
    rw [List.getElem?_map] at hv
    obtain ⟨y, hy, rfl⟩ := Option.map_eq_some_iff.1 hv
    have hym : y ∈ c :: args.toList := List.mem_cons_of_mem _ (List.mem_of_getElem? hy)
    have := hR.ev y
    rw [h1 y hym] at this
    exact hr i y d hy hd w0 own γ st' a w _ hR (fun k hk => h2 k (List.mem_flatMap.2 ⟨y, hym, hk⟩)) this
  unfold evCall evCallee at h
  split at h
  · rename_i f
    obtain ⟨ds, h1, h2, h3⟩ := evArgs_spec _ _ _ h
    obtain ⟨hg, r, hct, hp, hfit, hK⟩ := hH.2.2.2 _ _ _ h1
    simp only [List.nil_append, List.append_nil] at hct hp
    refine ⟨_, _, hK, fun w0 own ops => pk_callG _ hd (fun st' hal => fun γ a w hR => ⟨(args.toList.map a.eval).toArray, ?_, ?_⟩) hct hp hfit⟩
    · unfold execOp
      rw [ho]
      simp only [resolve, Act.eval, Deferred.ofValue, Sem.run_bind]
      have e : args.map a.eval = (args.toList.map a.eval).toArray := by apply Array.ext'; simp
      simp [Sem.run, invoke, hg _ w, e]
    · exact ov_tuple (by simpa using h2) (hargs ds h2 h3 w0 own γ st' a w hR (fun y hy => hal.ev (by rw [hops]; exact hy)) fun k hk => hal.store k (List.mem_append_left _ hk))
  · rename_i t
    split at h
    · rename_i y hy
      obtain ⟨d, h, hrd⟩ := evC_spec _ _ _ h
      split at h
      · rename_i fn fs cs
        split at h
        rotate_left
        · exact h.elim
        rename_i hno
        simp only [Bool.and_eq_true] at hno
        obtain ⟨ds, h1, h2, h3⟩ := evArgs_spec _ _ _ h
        obtain ⟨hg, r, hct, hp, hfit, hK⟩ := hH.2.2.2 _ _ _ h1
        refine ⟨_, _, hK, fun w0 own ops => pk_callG _ hd (fun st' hal => fun γ a w hR => ?_) hct hp hfit⟩
        have ht : evA st' (.tmp t) = .c y := (hal.ev (by rw [hops]; simp)).trans hy
        have hv := hR.ev (.tmp t)
        rw [ht] at hv
        generalize hvv : a.eval (.tmp t) = vv at hv
        cases hv with
        | c _ _ hc =>
          obtain ⟨g1, _⟩ := hrd.2 w0 own γ st' a w _ hR (fun k hk => hal.store k (List.mem_append_left _ (List.mem_flatMap.2 ⟨.tmp t, by simp, by
            have : evA x.S (.tmp t) = .c y := hy
            rw [this]; exact hk⟩))) hc
          cases g1 with
          | f _ _ _ fv cv s1 s2 c1 c2 =>
            refine ⟨fv ++ (args.toList.map a.eval).toArray ++ cv, ?_, ?_⟩
            · unfold execOp
              rw [ho]
              have e : args.map a.eval = (args.toList.map a.eval).toArray := by apply Array.ext'; simp
              simp only [resolve, hvv, Deferred.ofValue, Sem.run_bind]
              simp [Sem.run, invoke, hg _ w, e]
            · have e : fv ++ (args.toList.map a.eval).toArray ++ cv = (fv.toList ++ (args.toList.map a.eval ++ cv.toList)).toArray := by
                apply Array.ext'; simp
              rw [e]
              have hA := hargs ds h2 h3 w0 own γ st' a w hR (fun y hy => hal.ev (by rw [hops]; exact hy)) fun k hk => hal.store k (List.mem_append_left _ hk)
              have hl1 : fv.toList.length = (fs.map DV.c).length := by simp [s1]
              have hl2 : (args.toList.map a.eval).length = ds.length := by simpa using h2
              refine ov_tuple (by simp [s1, s2, ← h2]) fun i v d hv hd => ?_
              by_cases hi : i < fv.toList.length
              · rw [List.getElem?_append_left hi] at hv
                rw [List.getElem?_append_left (by omega)] at hd
                rw [List.getElem?_map] at hd
                obtain ⟨d0, hd0, rfl⟩ := Option.map_eq_some_iff.1 hd
                have hne := notOwn_spec (List.all_eq_true.1 hno.1 d0 (List.mem_of_getElem? hd0))
                have := c1 i d0 hd0
                have e2 : fv.getD i undef = v := by
                  rw [Array.getD_eq_getD_getElem?, ← Array.getElem?_toList, hv]; rfl
                rw [e2] at this
                exact .c _ _ _ (.r _ _ _ hne this)
              · rw [List.getElem?_append_right (by omega)] at hv
                rw [List.getElem?_append_right (by omega)] at hd
                rw [← hl1] at hd
                by_cases hi2 : i - fv.toList.length < (args.toList.map a.eval).length
                · rw [List.getElem?_append_left hi2] at hv
                  rw [List.getElem?_append_left (by omega)] at hd
                  exact hA _ v d hv hd
                · rw [List.getElem?_append_right (by omega)] at hv
                  rw [List.getElem?_append_right (by omega)] at hd
                  rw [← hl2] at hd
                  rw [List.getElem?_map] at hd
                  obtain ⟨d0, hd0, rfl⟩ := Option.map_eq_some_iff.1 hd
                  have hne := notOwn_spec (List.all_eq_true.1 hno.2 d0 (List.mem_of_getElem? hd0))
                  have := c2 _ d0 hd0
                  have e2 : cv.getD (i - fv.toList.length - (args.toList.map a.eval).length) undef = v := by
                    rw [Array.getD_eq_getD_getElem?, ← Array.getElem?_toList, hv]; rfl
                  rw [e2] at this
                  exact .c _ _ _ (.r _ _ _ hne this)
      · exact h.elim
    · exact h.elim
  · exact h.elim
end

section
open Go
set_option linter.unusedSimpArgs false
set_option linter.unusedVariables false

variable {P : Program} {w0 : World} {own : Nat → Prop} {γ : Gh} {st : St} {a : Act} {w : World} {o : Oper} {x : X} {ops : Array Oper}

/-! ### builtins -/
def vals (st : St) : List Operand → Option (List Value)
  | [] => some []
  | y :: l => match (evA st y).val, vals st l with | some v, some r => some (v :: r) | _, _ => none
theorem vals_spec (hR : Rel w0 own γ st a w) : ∀ (l : List Operand) (r : List Value), vals st l = some r → l.map a.eval = r
  | [], r, h => by simp [vals] at h; subst h; rfl
  | y :: l, r, h => by
    simp only [vals] at h
    split at h
    · rename_i v r' h1 h2
      cases h
      rw [List.map_cons, A.val_spec (hR.ev y) h1, vals_spec hR l r' h2]
    · cases h
theorem vals_alike {K : List Nat} {st' : St} (h : Alike ops o K st st') : ∀ (l : List Operand), (∀ y ∈ l, y ∈ o.op.operands.toList) → vals st' l = vals st l
  | [], _ => rfl
  | y :: l, hy => by simp only [vals]; rw [h.ev (hy y (by simp)), vals_alike h l fun z hz => hy z (by simp [hz])]

def constsOf (args : Array Operand) : Array Bool := args.map fun | .const _ => true | _ => false

/-- Builtins of numbers alone. -/
def numB (P : Program) (b : Builtin) (argTypes : Array TypeId) (type : TypeId) (args : Array Value) : Option Value :=
  match b with
  | .complex => pureRun P (Builtin.complex_ argTypes type args)
  | .real => pureRun P (Builtin.real_ argTypes type args)
  | .imag => pureRun P (Builtin.imag_ argTypes type args)
  | .len => pureRun P (Builtin.len_ argTypes type args)
  | .max => pureRun P (Builtin.max_ argTypes type args)
  | .min => pureRun P (Builtin.min_ argTypes type args)
  | _ => none
theorem numB_spec {b : Builtin} {argTypes : Array TypeId} {type : TypeId} {consts : Array Bool} {args : Array Value} {v : Value} (h : numB P b argTypes type args = some v) (w : World) : (builtin b argTypes type consts args).run P w = .ok (.value v) w := by
  unfold numB at h
  unfold builtin
  split at h <;> first | cases h | (simp only [Sem.run_bind, pureRun_spec P w _ _ h]; rfl)

def evNumB (P : Program) (o : Oper) (x : X) (b : Builtin) (args : Array Operand) (tys : Array TypeId) (K : KO) : Prop :=
  match vals x.S args.toList with
  | some vs => outV (numB P b tys o.type vs.toArray) fun r => K [] ⟨sc r, []⟩ x
  | none => False
theorem evNumB_sound {b : Builtin} {args : Array Operand} {tys : Array TypeId} (ho : o.op = .call { callee := .builtin b, args := args, argTypes := tys }) : Sound P o x (evNumB P o x b args tys) := fun K h hd => by
  unfold evNumB at h
  split at h
  · rename_i vs hvs
    obtain ⟨r, h1, h2, h3⟩ := outV_spec h
    refine ⟨_, _, h3, fun w0 own ops => .plain fun st' hal => op_pure (fits_alike hal hd) h2 fun γ a w hR => ?_⟩
    have e := vals_spec hR _ _ ((vals_alike hal args.toList fun y hy => by rw [ho]; simp [Op.operands, Call.operands, hy]).trans hvs)
    have e' : args.map a.eval = vs.toArray := by
      rw [← e]; apply Array.ext'; simp
    unfold execOp
    rw [ho]
    simp only [resolve, Sem.run_bind, e']
    simp [Sem.run, invoke, numB_spec h1 w]
  · exact h.elim

theorem AR.sliceLen {v : Value} {y : A} (h : AR γ w v y) {n : Nat} (hy : (∃ k g wd lo kn, y = .c (.rs k g wd lo n kn)) ∨ (∃ t z rows sp, y = .c (.d (.s t z rows sp)) ∧ rows.length = n) ∨ (y = .c (.d (.v (.slice none 0 0))) ∧ n = 0)) : ∃ b cap, v = .slice b n cap := by
  rcases hy with ⟨k, g, wd, lo, kn, rfl⟩ | ⟨t, z, rows, sp, rfl, rfl⟩ | ⟨rfl, rfl⟩
  rotate_left 2
  · exact ⟨none, 0, (AR.sc_inv (show AR γ w v (sc (.slice none 0 0)) from h)).1⟩
  · rcases h.rs_inv with ⟨cap, b, E, nn, rfl, _⟩ | ⟨⟨_, rfl⟩, _, rfl, _⟩
    · exact ⟨_, _, rfl⟩
    · exact ⟨_, _, rfl⟩
  · have := h.d_inv
    cases this with
    | e a _ _ cap => exact ⟨_, _, rfl⟩
    | s _ _ _ b off cap sz vs => exact ⟨_, _, rfl⟩

def lenA (y : A) : Option Nat :=
  match y with
  | .c (.rs _ _ _ _ len _) => some len
  | .c (.d (.s _ _ rows _)) => some rows.length
  | .c (.d (.v (.slice none 0 0))) => some 0
  | _ => none
def evLen (P : Program) (o : Oper) (x : X) (args : Array Operand) (tys : Array TypeId) (K : KO) : Prop :=
  match args.toList, tys.toList with
  | [y], [t] => match lenA (evA x.S y).wk with
    | some n => match elT P t with
      | some e => K [] ⟨sc (.int .i64 n), []⟩ x
      | none => False
    | none => evNumB P o x .len args tys K
  | _, _ => False
theorem evLen_sound {args : Array Operand} {tys : Array TypeId} (ho : o.op = .call { callee := .builtin .len, args := args, argTypes := tys }) : Sound P o x (evLen P o x args tys) := fun K h hd => by
  unfold evLen at h
  split at h
  · rename_i y t hy ht
    split at h
    · rename_i n hn
      split at h
      · rename_i e he
        refine ⟨_, _, h, fun w0 own ops => .plain fun st' hal => op_pure (fits_alike hal hd) rfl fun γ a w hR => ?_⟩
        have e1 : args = #[y] := by apply Array.ext'; rw [hy]
        have e2 : tys = #[t] := by apply Array.ext'; rw [ht]
        subst e1 e2
        have hev := hR.ev y
        rw [hal.ev (x := y) (by rw [ho]; simp [Op.operands, Call.operands])] at hev
        obtain ⟨b, cap, hv⟩ := hev.wk.sliceLen (n := n) (by
          unfold lenA at hn
          split at hn
          · cases hn; rename_i heq; exact .inl ⟨_, _, _, _, _, heq⟩
          · cases hn; rename_i heq; exact .inr (.inl ⟨_, _, _, _, heq, rfl⟩)
          · cases hn; rename_i heq; exact .inr (.inr ⟨heq, rfl⟩)
          · cases hn)
        have hu : P.underlying t = some (.slice e) := by
          unfold elT at he
          split at he
          · rename_i e' hu; cases he; exact hu
          · cases he
        unfold execOp
        rw [ho]
        simp only [resolve, Sem.run_bind]
        have e3 : (#[y] : Array Operand).map a.eval = #[.slice b n cap] := by simp [hv]
        rw [e3]
        simp [Sem.run, invoke, builtin, Builtin.len_, Sem.run_bind, run_under hu, goInt]

      · exact h.elim
    · exact evNumB_sound ho K h hd
  · exact h.elim

/-! ### '==' of two values of whole numbers -/
def ints (k : IntKind) : List C → Option (List Int)
  | [] => some []
  | .d (.v (.int k' n)) :: l => if k' = k then (ints k l).map (n :: ·) else none
  | _ :: _ => none
theorem ints_spec (k : IntKind) : ∀ (cs : List C) (ns : List Int), ints k cs = some ns → cs = ns.map fun n => C.d (.v (.int k n))
  | [], ns, h => by simp [ints] at h; subst h; rfl
  | c :: l, ns, h => by
    unfold ints at h
    split at h
    · contradiction
    · rename_i k' n l' heq
      cases heq
      split at h
      · rename_i hk
        subst hk
        obtain ⟨ms, h1, rfl⟩ := Option.map_eq_some_iff.1 h
        rw [ints_spec k' _ ms h1]; rfl
      · cases h
    · cases h
def eqI : List Int → List Int → Bool
  | x :: xs, y :: ys => (x == y) && eqI xs ys
  | [], [] => true
  | _, _ => false

/-- A type of whole numbers of one kind, side by side. -/
def flatT (P : Program) (t : TypeId) (k : IntKind) (n : Nat) : Bool :=
  match P.underlying t with
  | some (.array m e) => Nat.beq m n && (match P.info? e with | some i => Nat.beq i.size 1 | none => false) && (match P.underlying e with | some (.int k') => decide (k' = k) | _ => false)
  | some (.struct fs) => !P.stoodInHeld t && flatF fs.toList 0
  | _ => false
where
  flatF : List Field → Nat → Bool
    | [], i => Nat.beq i n
    | f :: fs, i => (f.name != "_") && (Nat.beq f.offset i && ((match P.underlying f.type with | some (.int k') => decide (k' = k) | _ => false) && flatF fs (i + 1)))

theorem run_part_int {e : TypeId} {k k' : IntKind} {ns : List Int} {i : Nat} (hu : P.underlying e = some (.int k')) (hi : i < ns.length) (w : World) : (part e (ns.map fun n => Value.int k n).toArray i).run P w = .ok (.int k ns[i]) w := by
  unfold part
  rw [Sem.run_bind]
  have : (isAgg e).run P w = .ok false w := run_isAgg (by simp [aggT, hu]) w
  rw [this]
  simp [hi]

theorem eqI_drop (xs ys : List Int) (i : Nat) (h1 : i < xs.length) (h2 : i < ys.length) : eqI (xs.drop i) (ys.drop i) = ((xs[i] == ys[i]) && eqI (xs.drop (i + 1)) (ys.drop (i + 1))) := by
  rw [List.drop_eq_getElem_cons h1, List.drop_eq_getElem_cons h2]; rfl

theorem eqFields_int (k : IntKind) (xs ys : List Int) (n : Nat) (hx : xs.length = n) (hy : ys.length = n) (d : Nat) (w : World) : ∀ (fs : List Field) (i : Nat), flatT.flatF P k n fs i = true → i ≤ n →
    (Op.eqFields (d + 1) (xs.map fun n => Value.int k n).toArray (ys.map fun n => Value.int k n).toArray fs).run P w = .ok (eqI (xs.drop i) (ys.drop i)) w
  | [], i, h, _ => by
    have := beq_true h
    subst this
    rw [List.drop_eq_nil_of_le (by omega), List.drop_eq_nil_of_le (by omega)]
    rfl
  | f :: fs, i, h, hle => by
    simp only [flatT.flatF, Bool.and_eq_true] at h
    obtain ⟨h1, h2, h3, h4⟩ := h
    have h2 := beq_true h2
    cases hu : P.underlying f.type with
    | none => rw [hu] at h3; simp at h3
    | some td =>
      rw [hu] at h3
      cases td with
      | int k' =>
        simp only [decide_eq_true_eq] at h3
        have hlen : ∀ (fs : List Field) (i : Nat), flatT.flatF P k n fs i = true → i ≤ n := by
          intro fs
          induction fs with
          | nil => intro i h; have := beq_true h; omega
          | cons g gs ih =>
            intro i h
            simp only [flatT.flatF, Bool.and_eq_true] at h
            have := ih (i + 1) h.2.2.2
            omega
        have hin : i < n := by have := hlen fs (i + 1) h4; omega
        have ih := eqFields_int k xs ys n hx hy d w fs (i + 1) h4 (by omega)
        unfold Op.eqFields
        have hname : f.name ≠ "_" := by simpa using h1
        rw [if_pos hname, h2]
        rw [Sem.run_bind, run_part_int hu (by omega)]
        simp only [Result.andThen_ok]
        rw [Sem.run_bind, run_part_int hu (by omega)]
        simp only [Result.andThen_ok]
        rw [Sem.run_bind, run_equalIn_int w d f.type k k' _ _ hu]
        simp only [Result.andThen_ok]
        rw [eqI_drop xs ys i (by omega) (by omega)]
        cases hb : (xs[i] == ys[i])
        · rfl
        · simp only [Bool.not_true, Bool.false_eq_true, if_false, Bool.true_and]
          exact ih
      | _ => simp at h3

theorem eqItems_int (k k' : IntKind) {e : TypeId} (hu : P.underlying e = some (.int k')) (xs ys : List Int) (n : Nat) (hx : xs.length = n) (hy : ys.length = n) (d : Nat) (w : World) : ∀ (m i : Nat), i + m = n →
    (Op.eqItems (d + 1) e 1 (xs.map fun n => Value.int k n).toArray (ys.map fun n => Value.int k n).toArray (List.range' i m)).run P w = .ok (eqI (xs.drop i) (ys.drop i)) w
  | 0, i, h => by
    rw [List.drop_eq_nil_of_le (by omega), List.drop_eq_nil_of_le (by omega)]
    rfl
  | m + 1, i, h => by
    have ih := eqItems_int k k' hu xs ys n hx hy d w m (i + 1) (by omega)
    rw [List.range'_succ]
    unfold Op.eqItems
    rw [Nat.mul_one]
    rw [Sem.run_bind, run_part_int hu (by omega)]
    simp only [Result.andThen_ok]
    rw [Sem.run_bind, run_part_int hu (by omega)]
    simp only [Result.andThen_ok]
    rw [Sem.run_bind, run_equalIn_int w d e k k' _ _ hu]
    simp only [Result.andThen_ok]
    rw [eqI_drop xs ys i (by omega) (by omega)]
    cases hb : (xs[i] == ys[i])
    · rfl
    · simp only [Bool.not_true, Bool.false_eq_true, if_false, Bool.true_and]
      exact ih

theorem run_eq_flat {t : TypeId} {k : IntKind} {xs ys : List Int} (hf : flatT P t k xs.length = true) (hl : ys.length = xs.length) (w : World) :
    (Op.equalIn 10000 t (.agg (xs.map fun n => Value.int k n).toArray) (.agg (ys.map fun n => Value.int k n).toArray)).run P w = .ok (eqI xs ys) w := by
  unfold flatT at hf
  split at hf
  · rename_i m e hu
    simp only [Bool.and_eq_true] at hf
    obtain ⟨⟨h1, h2⟩, h3⟩ := hf
    have h1 := beq_true h1
    subst h1
    cases hi : P.info? e with
    | none => rw [hi] at h2; simp at h2
    | some i =>
      rw [hi] at h2
      have h2 := beq_true h2
      rw [run_equalIn_array w 9999 _ _ hu hi]
      have hc : P.cellsOf e = 1 := by simp [Program.cellsOf, hi, h2]
      rw [hc]
      cases hue : P.underlying e with
      | none => rw [hue] at h3; simp at h3
      | some td =>
        rw [hue] at h3
        cases td with
        | int k' =>
          have := eqItems_int k k' hue xs ys xs.length rfl hl 9998 w xs.length 0 (by omega)
          simpa [List.range_eq_range'] using this
        | _ => simp at h3
  · rename_i fs hu
    simp only [Bool.and_eq_true, Bool.not_eq_true'] at hf
    have hu' : P.underlying t = some (.struct (P.fieldsOf t)) := by simp [Program.fieldsOf, hu]
    have hfs : P.fieldsOf t = fs := by rw [hu] at hu'; cases hu'; rfl
    rw [run_equalIn_struct w 9999 t _ _ hu' hf.1, hfs]
    have := eqFields_int k xs ys xs.length rfl hl 9998 w fs.toList 0 hf.2 (by omega)
    simpa using this
  · cases hf

def firstK : List C → IntKind
  | .d (.v (.int k _)) :: _ => k
  | _ => .i64

def evEq (P : Program) (x : X) (neg : Bool) (t : TypeId) (cs ds : List C) (K : KO) : Prop :=
  match ints (firstK cs) cs, ints (firstK cs) ds with
  | some xs, some ys => match flatT P t (firstK cs) xs.length && (Nat.beq ys.length xs.length && !P.eqGuardType P.depth t) with
    | true => K [] ⟨sc (.bool (match neg with | true => !eqI xs ys | false => eqI xs ys)), []⟩ x
    | false => False
  | _, _ => False

theorem AR.agg_ints {v : Value} {cs : List C} {k : IntKind} {ns : List Int} (h : AR γ w v (.agg cs)) (hi : ints k cs = some ns) : v = .agg (ns.map fun n => Value.int k n).toArray := by
  have e := ints_spec k cs ns hi
  have hval : (A.agg cs).val = some (.agg (ns.map fun n => Value.int k n).toArray) := by
    have : ∀ ns : List Int, scalars (ns.map fun n => C.d (.v (.int k n))) = some (ns.map fun n => Value.int k n) := by
      intro ns
      induction ns with
      | nil => rfl
      | cons n ns ih => simp [scalars, ih]
    simp only [A.val, e, this, Option.map_some]
  exact A.val_spec h hval

theorem evEq_sound {b : BinOp} {t u : TypeId} {y z : Operand} {cs ds : List C} {neg : Bool} (hb : (neg = false ∧ b = .eql) ∨ (neg = true ∧ b = .neq)) (ho : o.op = .binOp b t y z u) (hy : evA x.S y = .agg cs) (hz : evA x.S z = .agg ds) : Sound P o x (evEq P x neg t cs ds) := fun K h hd => by
  unfold evEq at h
  split at h
  · rename_i xs ys hx hy'
    split at h
    · rename_i hf
      simp only [Bool.and_eq_true, Bool.not_eq_true'] at hf
      obtain ⟨h1, h2, h3⟩ := hf
      have h2 := beq_true h2
      refine ⟨_, _, h, fun w0 own ops => .plain fun st' hal => op_pure (fits_alike hal hd) rfl fun γ a w hR => ?_⟩
      have ey := hR.ev y
      rw [(hal.ev (x := y) (by rw [ho]; simp [Op.operands])).trans hy] at ey
      have ez := hR.ev z
      rw [(hal.ev (x := z) (by rw [ho]; simp [Op.operands])).trans hz] at ez
      have e1 := ey.agg_ints hx
      have e2 := ez.agg_ints hy'
      unfold execOp
      rw [ho]
      simp only [e1, e2]
      have hg := run_eqGuard_agg w b t y z (xs.map fun n => Value.int (firstK cs) n).toArray (ys.map fun n => Value.int (firstK cs) n).toArray h3
      rw [Sem.run_bind, Sem.run_bind, hg]
      simp only [Result.andThen_ok]
      rcases hb with ⟨rfl, rfl⟩ | ⟨rfl, rfl⟩
      · rw [run_eql_struct, run_eq_flat h1 h2]; rfl
      · rw [run_neq_struct, run_eq_flat h1 h2]; rfl
    · exact h.elim
  · exact h.elim
end

section
open Go
set_option linter.unusedSimpArgs false
set_option linter.unusedVariables false

variable {P : Program} {w0 : World} {own : Nat → Prop} {γ : Gh} {st : St} {a : Act} {w : World} {o : Oper} {x : X} {ops : Array Oper}

/-! ### a slice written out -/
def chunk {α : Type} (sz : Nat) : Nat → List α → List (List α)
  | 0, _ => []
  | n + 1, l => l.take sz :: chunk sz n (l.drop sz)
theorem chunk_len {α : Type} (sz : Nat) : ∀ (n : Nat) (l : List α), (chunk sz n l).length = n
  | 0, _ => rfl
  | n + 1, l => by simp [chunk, chunk_len sz n]
theorem chunk_get {α : Type} (sz : Nat) : ∀ (n : Nat) (l : List α) (i : Nat), i < n → (chunk sz n l)[i]? = some ((l.drop (i * sz)).take sz)
  | 0, _, _, h => by omega
  | n + 1, l, 0, _ => by simp [chunk]
  | n + 1, l, i + 1, h => by
    simp only [chunk, List.getElem?_cons_succ]
    rw [chunk_get sz n _ i (by omega), List.drop_drop]
    congr 3
    rw [Nat.succ_mul]; omega

theorem run_mapZeros {zs : Value} (n : Nat) (hne : n ≠ 0 → zs.cells.size ≠ 0) : True := trivial

theorem op_buildSlice {o : Oper} {t e : TypeId} {n sz : Nat} {ps : List (Nat × Operand)} {zs : List Value} {out : List C} {ds : List D} (k : Nat) (hd : st.fits o.dst = true) (ho : o.op = .buildSlice t n ps.toArray) (ht : P.underlying t = some (.slice e)) (hs : szT P e = some sz) (hsmall : n * sz ≤ 2 ^ 24)
    (hz : zeroT P e = some zs) (hzl : zs.length = sz) (hz0 : 0 < sz) (hp : zs.all plain = true)
    (hf : fillA (fun i => some (i * sz, sz)) ((List.range (n * sz)).map fun i => .d (.v (zs.getD (i % sz) undef))) (partsA st ps) = some out) (hol : out.length = n * sz) (hds : strip.stripRow out = some ds) (hflat : ds.all (fun d => (C.d d).flat) = true) :
    OpOK P w0 own o st ((st.root k false sz (emb (chunk sz n ds))).put o.dst (.c (.rs k (st.gen k + 1) sz 0 n n))) :=
  .value (by cases h : o.dst <;> simp_all [St.fits, St.root]) fun γ a w hR => by
    obtain ⟨z, hz1, hz2⟩ := run_zero hz w
    have hzs : z.cells.size = sz := by rw [← Array.length_toList, hz2, hzl]
    have hout := stripRow_spec _ _ hds
    obtain ⟨arr, f1, f2, f3⟩ := fill_spec (γ := γ) (w := w) (fun i => some (i * sz, sz)) (partsA st ps) (ps.map fun (i, x) => (i, a.eval x)) ((Array.range (n * sz)).map fun i => z.cells[i % z.cells.size]!) _ out hf (by simp) (fun i c hc => by
        rw [List.getElem?_map] at hc
        obtain ⟨i', hi', rfl⟩ := Option.map_eq_some_iff.1 hc
        have hii : i < n * sz ∧ i' = i := by
          have h1 := (List.getElem?_eq_some_iff.1 hi')
          obtain ⟨h2, h3⟩ := h1
          simp at h2 h3
          exact ⟨h2, h3.symm⟩
        obtain ⟨hlt, rfl⟩ := hii
        have hm : i' % sz < sz := Nat.mod_lt _ hz0
        have e1 : ((Array.range (n * sz)).map fun i => z.cells[i % z.cells.size]!).getD i' undef = zs.getD (i' % sz) undef := by
          rw [Array.getD_eq_getD_getElem?]
          simp only [Array.getElem?_map, Array.getElem?_range, hlt, if_true, Option.map_some, Option.getD_some, hzs]
          have hm' : i' % sz < z.cells.size := by omega
          rw [getElem!_pos z.cells _ hm']
          have : zs[i' % sz]? = some z.cells[i' % sz] := by rw [← hz2]; simp [hm']
          simp [List.getD_eq_getElem?_getD, this]
        rw [e1]
        refine .d _ _ (.v _ ?_)
        have hml : i' % sz < zs.length := by omega
        have : zs.getD (i' % sz) undef = zs[i' % sz] := by simp [List.getD_eq_getElem?_getD, hml]
        rw [this]
        exact List.all_eq_true.1 hp _ (List.getElem_mem hml)) (by simp [partsA]) (partsA_spec hR ps)
    have hal : arr.size = n * sz := by rw [f2, hol]
    have hdl : ds.length = n * sz := by rw [← hol, hout]; simp
    have hrowlen : ∀ i, i < n → ((ds.drop (i * sz)).take sz).length = sz := fun i hi => by
      have : (i + 1) * sz ≤ n * sz := Nat.mul_le_mul_right _ hi
      have : (i + 1) * sz = i * sz + sz := Nat.succ_mul _ _
      simp; omega
    have hrow : ∀ r ∈ emb (chunk sz n ds), r.length = sz := fun r hr => by
      obtain ⟨r0, h0, rfl⟩ := List.mem_map.1 hr
      obtain ⟨i, hi⟩ := List.getElem?_of_mem h0
      have hin : i < n := by have := (List.getElem?_eq_some_iff.1 hi).1; rw [chunk_len] at this; exact this
      rw [chunk_get sz n ds i hin] at hi
      cases hi
      simpa using hrowlen i hin
    have hel : (emb (chunk sz n ds)).length = n := by simp [emb, chunk_len]
    refine ⟨_, w.alloc (.cells arr e), .slice (some ⟨w.heap.size, 0, none⟩) n n, ?_, γ.fresh_le k (some w.heap.size), hR.alloc k false sz (emb (chunk sz n ds)) arr e hrow (by rw [hel, hal]; exact Nat.le_refl _) ?_, ?_⟩
    · unfold execOp
      rw [ho]
      have f1' : Instr.fill (fun i => some (i * sz, sz)) ((Array.range (n * sz)).map fun i => z.cells[i % z.cells.size]!) (ps.map fun (i, x) => (i, a.eval x)) = some arr := f1
      have hns : ¬ (n * sz > 2 ^ 24) := by omega
      simp only [Instr.buildSlice, Sem.run_bind, run_under ht, run_size hs, Result.andThen_ok, hns, if_false]
      by_cases h0 : n * sz = 0
      · have e2 : Array.map (fun i => z.cells[i % z.cells.size]!) (Array.range (n * sz)) = #[] := by rw [h0]; simp
        rw [e2] at f1'
        have e3 : ∀ (z' : Array Value), Array.map (fun i => z'[i % z'.size]!) (Array.range (n * sz)) = #[] := fun z' => by rw [h0]; simp
        rw [if_pos h0]
        simp only [Sem.run_pure, Result.andThen_ok, e3]
        simp [f1', newRow, newObj, Sem.run]
      · simp [h0, hz1, f1', newRow, newObj, Sem.run]
    · intro i j r c hr hc
      have hin : i < n := by have := (List.getElem?_eq_some_iff.1 hr).1; omega
      simp only [emb, List.getElem?_map, chunk_get sz n ds i hin, Option.map_some, Option.some.injEq] at hr
      subst hr
      rw [List.getElem?_map] at hc
      obtain ⟨d, hd', rfl⟩ := Option.map_eq_some_iff.1 hc
      have hj : j < sz := by have := (List.getElem?_eq_some_iff.1 hd').1; simp at this; omega
      rw [List.getElem?_take, if_pos hj, List.getElem?_drop] at hd'
      refine ⟨f3 (i * sz + j) _ (by rw [hout, List.getElem?_map, hd']; rfl), List.all_eq_true.1 hflat d (List.mem_of_getElem? hd')⟩
    · have hg : γ.gen k = st.gen k := congrFun hR.gen k
      have := CR.rs (γ := γ.fresh k (some w.heap.size)) (w := w.alloc (.cells arr e)) k (st.gen k + 1) sz 0 n n n w.heap.size e arr.size (by rw [Gh.fresh_gen, hg]; exact Nat.le_refl _) (by rw [← hg, Gh.fresh_new]) (by simp only [World.shape?, heap_alloc_new]) (by rw [hal]; simp) (Nat.le_refl _) (Nat.le_refl _)
      simp at this
      exact .c _ _ this

theorem op_buildSliceB {o : Oper} {t e : TypeId} {n sz : Nat} {ps : List (Nat × Operand)} {zs : List Value} {out : List C} (k : Nat) (hd : st.fits o.dst = true) (ho : o.op = .buildSlice t n ps.toArray) (ht : P.underlying t = some (.slice e)) (hs : szT P e = some sz) (hsmall : n * sz ≤ 2 ^ 24)
    (hz : zeroT P e = some zs) (hzl : zs.length = sz) (hz0 : 0 < sz) (hp : zs.all plain = true)
    (hf : fillA (fun i => some (i * sz, sz)) ((List.range (n * sz)).map fun i => .d (.v (zs.getD (i % sz) undef))) (partsA st ps) = some out) (hol : out.length = n * sz) (hflat : out.all C.flat = true) :
    OpOK P w0 own o st ((st.root k true (n * sz) [out]).put o.dst (.c (.rs k (st.gen k + 1) sz 0 n n))) :=
  .value (by cases h : o.dst <;> simp_all [St.fits, St.root]) fun γ a w hR => by
    obtain ⟨z, hz1, hz2⟩ := run_zero hz w
    have hzs : z.cells.size = sz := by rw [← Array.length_toList, hz2, hzl]
    obtain ⟨arr, f1, f2, f3⟩ := fill_spec (γ := γ) (w := w) (fun i => some (i * sz, sz)) (partsA st ps) (ps.map fun (i, x) => (i, a.eval x)) ((Array.range (n * sz)).map fun i => z.cells[i % z.cells.size]!) _ out hf (by simp) (fun i c hc => by
        rw [List.getElem?_map] at hc
        obtain ⟨i', hi', rfl⟩ := Option.map_eq_some_iff.1 hc
        have hii : i < n * sz ∧ i' = i := by
          have h1 := (List.getElem?_eq_some_iff.1 hi')
          obtain ⟨h2, h3⟩ := h1
          simp at h2 h3
          exact ⟨h2, h3.symm⟩
        obtain ⟨hlt, rfl⟩ := hii
        have hm : i' % sz < sz := Nat.mod_lt _ hz0
        have e1 : ((Array.range (n * sz)).map fun i => z.cells[i % z.cells.size]!).getD i' undef = zs.getD (i' % sz) undef := by
          rw [Array.getD_eq_getD_getElem?]
          simp only [Array.getElem?_map, Array.getElem?_range, hlt, if_true, Option.map_some, Option.getD_some, hzs]
          have hm' : i' % sz < z.cells.size := by omega
          rw [getElem!_pos z.cells _ hm']
          have : zs[i' % sz]? = some z.cells[i' % sz] := by rw [← hz2]; simp [hm']
          simp [List.getD_eq_getElem?_getD, this]
        rw [e1]
        refine .d _ _ (.v _ ?_)
        have hml : i' % sz < zs.length := by omega
        have : zs.getD (i' % sz) undef = zs[i' % sz] := by simp [List.getD_eq_getElem?_getD, hml]
        rw [this]
        exact List.all_eq_true.1 hp _ (List.getElem_mem hml)) (by simp [partsA]) (partsA_spec hR ps)
    have hal : arr.size = n * sz := by rw [f2, hol]
    have hrow : ∀ r ∈ [out], r.length = n * sz := fun r hr => by rw [List.mem_singleton.1 hr, hol]
    refine ⟨_, w.alloc (.cells arr e), .slice (some ⟨w.heap.size, 0, none⟩) n n, ?_, γ.fresh_le k (some w.heap.size), hR.alloc k true (n * sz) [out] arr e hrow (by simp [hal]) ?_, ?_⟩
    · unfold execOp
      rw [ho]
      have f1' : Instr.fill (fun i => some (i * sz, sz)) ((Array.range (n * sz)).map fun i => z.cells[i % z.cells.size]!) (ps.map fun (i, x) => (i, a.eval x)) = some arr := f1
      have hns : ¬ (n * sz > 2 ^ 24) := by omega
      simp only [Instr.buildSlice, Sem.run_bind, run_under ht, run_size hs, Result.andThen_ok, hns, if_false]
      by_cases h0 : n * sz = 0
      · have e2 : Array.map (fun i => z.cells[i % z.cells.size]!) (Array.range (n * sz)) = #[] := by rw [h0]; simp
        rw [e2] at f1'
        have e3 : ∀ (z' : Array Value), Array.map (fun i => z'[i % z'.size]!) (Array.range (n * sz)) = #[] := fun z' => by rw [h0]; simp
        rw [if_pos h0]
        simp only [Sem.run_pure, Result.andThen_ok, e3]
        simp [f1', newRow, newObj, Sem.run]
      · simp [h0, hz1, f1', newRow, newObj, Sem.run]
    · intro i j r c hr hc
      have hi0 : i = 0 := by
        have := (List.getElem?_eq_some_iff.1 hr).1
        simpa using this
      subst hi0
      cases hr
      rw [Nat.zero_mul, Nat.zero_add]
      exact ⟨f3 j _ hc, List.all_eq_true.1 hflat c (List.mem_of_getElem? hc)⟩
    · have hg : γ.gen k = st.gen k := congrFun hR.gen k
      have := CR.rs (γ := γ.fresh k (some w.heap.size)) (w := w.alloc (.cells arr e)) k (st.gen k + 1) sz 0 n n n w.heap.size e arr.size (by rw [Gh.fresh_gen, hg]; exact Nat.le_refl _) (by rw [← hg, Gh.fresh_new]) (by simp only [World.shape?, heap_alloc_new]) (by rw [hal]; simp) (Nat.le_refl _) (Nat.le_refl _)
      simp at this
      exact .c _ _ this

def zcells (zs : List Value) (sz m : Nat) : List C := (List.range m).map fun i => .d (.v (zs.getD (i % sz) undef))

def evBuildSlice (P : Program) (o : Oper) (x : X) (t : TypeId) (n : Nat) (ps : Array (Nat × Operand)) (K : KO) : Prop :=
  match P.underlying t with
  | some (.slice e) => match szT P e, zeroT P e with
    | some (sz + 1), some zs => match Nat.ble (n * (sz + 1)) (2 ^ 24) && (Nat.beq zs.length (sz + 1) && zs.all plain) with
      | true => match fillA (fun i => some (i * (sz + 1), sz + 1)) (zcells zs (sz + 1) (n * (sz + 1))) (partsA x.S ps.toList) with
        | some out => match Nat.beq out.length (n * (sz + 1)), strip.stripRow out with
          | true, some ds => match ds.all fun d => (C.d d).flat with
            | true => K [x.freeO o] ⟨.c (.rs (x.freeO o) (x.gen (x.freeO o) + 1) (sz + 1) 0 n n), [(x.freeO o, some (.sl (x.gen (x.freeO o) + 1) (sz + 1) (chunk (sz + 1) n ds)), x.gen (x.freeO o) + 1)]⟩ x
            | false => False
          | true, none => match out.all C.flat with
            | true => K [x.freeO o] ⟨.c (.rs (x.freeO o) (x.gen (x.freeO o) + 1) (sz + 1) 0 n n), [(x.freeO o, some (.bx (x.gen (x.freeO o) + 1) (n * (sz + 1)) out), x.gen (x.freeO o) + 1)]⟩ x
            | false => False
          | _, _ => False
        | none => False
      | false => False
    | _, _ => False
  | _ => False
theorem evBuildSlice_sound {t : TypeId} {n : Nat} {ps : Array (Nat × Operand)} (ho : o.op = .buildSlice t n ps) : Sound P o x (evBuildSlice P o x t n ps) := fun K h hd => by
  have ho' : o.op = .buildSlice t n ps.toList.toArray := by simpa using ho
  unfold evBuildSlice at h
  split at h
  · rename_i e ht
    split at h
    · rename_i sz zs hs hz
      split at h
      · rename_i hb
        simp only [Bool.and_eq_true] at hb
        obtain ⟨b1, b2, b3⟩ := hb
        split at h
        · rename_i out hf
          split at h
          · rename_i ds hol hds
            split at h
            · rename_i hflat
              refine ⟨_, _, h, fun w0 own ops => .one fun st' hal => ?_⟩
              have := op_buildSlice (P := P) (w0 := w0) (own := own) (st := st') (x.freeO o) (fits_alike hal hd) ho' ht hs (Nat.le_of_ble_eq_true b1) hz (beq_true b2) (Nat.succ_pos _) b3
                (by rw [partsA_alike hal ps.toList fun p hp => by rw [ho]; simp only [Op.operands]; simp; exact ⟨p.1, by simpa using hp⟩]; exact hf) (beq_true hol) hds hflat
              rw [root_patch, hal.gen _ (by simp)] at this
              exact this
            · exact h.elim
          · rename_i hol hds
            split at h
            · rename_i hflat
              refine ⟨_, _, h, fun w0 own ops => .one fun st' hal => ?_⟩
              have := op_buildSliceB (P := P) (w0 := w0) (own := own) (st := st') (x.freeO o) (fits_alike hal hd) ho' ht hs (Nat.le_of_ble_eq_true b1) hz (beq_true b2) (Nat.succ_pos _) b3
                (by rw [partsA_alike hal ps.toList fun p hp => by rw [ho]; simp only [Op.operands]; simp; exact ⟨p.1, by simpa using hp⟩]; exact hf) (beq_true hol) hflat
              rw [root_patch, hal.gen _ (by simp)] at this
              exact this
            · exact h.elim
          · exact h.elim
        · exact h.elim
      · exact h.elim
    · exact h.elim
  · exact h.elim
end
end Vm
