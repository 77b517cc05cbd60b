/- What the functions of this text do, told by an interpreter that is proved right (YtdfehiebnempaaaGA to GD). My own work. -/
import Derived.Test.YtdfehiebnempaaaGWsC
namespace Vm
open Go Go.Proofs
set_option linter.unusedSimpArgs false
set_option linter.unusedVariables false
set_option maxRecDepth 100000
def gW (l : List (FuncId × Spec)) : Hooks := { hkA band bor l [] with give := fun f => Nat.beq f 86 }
theorem gW_ok {l : List (FuncId × Spec)} (h : SpecsOK Try.prog l) : CallsOK Try.prog (gW l) := ⟨fun _ _ => rfl, fun _ _ => rfl, ⟨fun _ => rfl, fun _ => rfl, fun _ => rfl⟩, fun f ds Q hq => lookS_ok h f ds Q hq⟩
theorem eWith (R sp : List (List D)) (a b c : Int) (K : DV → Prop) : (evp Try.prog (gW [(53, sWMy), (83, sCloneWrites), (84, sBSF), (86, sIns)]) 200 (bodyOf Try.f46) (finX Try.prog Try.f46 K) (entryX 42 [dS 3 R sp, .agg [vI a, vI b, vI c]])) = (bif okZ (3) R then bif !wmay (toZ R) then K (DV.tup [DV.c (D.s (1) (3) [] []), DV.c (D.v (Value.int IntKind.i64 (1000)))]) else bif !wmay (toZ [[D.v (Value.int IntKind.i64 a), D.v (Value.int IntKind.i64 b), D.v (Value.int IntKind.i64 c)]]) then K (DV.tup [DV.c (D.s (1) (3) [] []), DV.c (D.v (Value.int IntKind.i64 (1000)))]) else bif allV R && decide (List.length R ≤ 5864062014635) then bif okZ (3) R && decide (List.length R ≤ 4611686018427387903) then bif isW (toZ R) a b then bif decide (0 ≤ @Nat.cast Int _ (bsAt (ltW (toZ R) a b) (List.length (toZ R)))) && decide (@Nat.cast Int _ (bsAt (ltW (toZ R) a b) (List.length (toZ R))) < @Nat.cast Int _ (List.length R)) then bif decide (addN (0) (Int.toNat (@Nat.cast Int _ (bsAt (ltW (toZ R) a b) (List.length (toZ R))))) < List.length (R ++ [])) && decide (0 + 3 ≤ 3) then bif decide (List.length R ≤ List.length (List.set (R ++ []) (addN (0) (Int.toNat (@Nat.cast Int _ (bsAt (ltW (toZ R) a b) (List.length (toZ R)))))) (D.v (Value.int IntKind.i64 a) :: D.v (Value.int IntKind.i64 b) :: D.v (Value.int IntKind.i64 c) :: List.drop (0 + 3) (List.getD (R ++ []) (addN (0) (Int.toNat (@Nat.cast Int _ (bsAt (ltW (toZ R) a b) (List.length (toZ R)))))) [])))) && List.all (List.set (R ++ []) (addN (0) (Int.toNat (@Nat.cast Int _ (bsAt (ltW (toZ R) a b) (List.length (toZ R)))))) (D.v (Value.int IntKind.i64 a) :: D.v (Value.int IntKind.i64 b) :: D.v (Value.int IntKind.i64 c) :: List.drop (0 + 3) (List.getD (R ++ []) (addN (0) (Int.toNat (@Nat.cast Int _ (bsAt (ltW (toZ R) a b) (List.length (toZ R)))))) []))) fun r => List.all r D.keeps then K (DV.tup [DV.c (D.s (1) (3) (List.take (List.length R) (List.set (R ++ []) (addN (0) (Int.toNat (@Nat.cast Int _ (bsAt (ltW (toZ R) a b) (List.length (toZ R)))))) (D.v (Value.int IntKind.i64 a) :: D.v (Value.int IntKind.i64 b) :: D.v (Value.int IntKind.i64 c) :: List.drop (0 + 3) (List.getD (R ++ []) (addN (0) (Int.toNat (@Nat.cast Int _ (bsAt (ltW (toZ R) a b) (List.length (toZ R)))))) [])))) (List.take (List.length R + 0 - List.length R) (List.drop (List.length R) (List.set (R ++ []) (addN (0) (Int.toNat (@Nat.cast Int _ (bsAt (ltW (toZ R) a b) (List.length (toZ R)))))) (D.v (Value.int IntKind.i64 a) :: D.v (Value.int IntKind.i64 b) :: D.v (Value.int IntKind.i64 c) :: List.drop (0 + 3) (List.getD (R ++ []) (addN (0) (Int.toNat (@Nat.cast Int _ (bsAt (ltW (toZ R) a b) (List.length (toZ R)))))) [])))))), DV.c (D.v (Value.int IntKind.i64 (0)))]) else False else False else False else bif @Nat.cast Int _ (List.length R) == 16 then K (DV.tup [DV.c (D.s (1) (3) [] []), DV.c (D.v (Value.int IntKind.i64 (1000)))]) else bif decide (List.length R ≤ List.length (R ++ [])) && List.all (R ++ []) fun r => List.all r D.keeps then bif allV (R ++ []) then bif allV (List.take (List.length R) (R ++ [])) && (decide (0 ≤ @Nat.cast Int _ (bsAt (ltW (toZ R) a b) (List.length (toZ R)))) && (decide (@Nat.cast Int _ (bsAt (ltW (toZ R) a b) (List.length (toZ R))) ≤ @Nat.cast Int _ (List.length (List.take (List.length R) (R ++ [])))) && decide (List.length (List.take (List.length R) (R ++ [])) ≤ 5864062014634))) then bif decide (List.length (ins (List.take (List.length R) (R ++ [])) (Int.toNat (@Nat.cast Int _ (bsAt (ltW (toZ R) a b) (List.length (toZ R))))) [D.v (Value.int IntKind.i64 a), D.v (Value.int IntKind.i64 b), D.v (Value.int IntKind.i64 c)]) ≤ List.length (ins (List.take (List.length R) (R ++ [])) (Int.toNat (@Nat.cast Int _ (bsAt (ltW (toZ R) a b) (List.length (toZ R))))) [D.v (Value.int IntKind.i64 a), D.v (Value.int IntKind.i64 b), D.v (Value.int IntKind.i64 c)] ++ [])) && List.all (ins (List.take (List.length R) (R ++ [])) (Int.toNat (@Nat.cast Int _ (bsAt (ltW (toZ R) a b) (List.length (toZ R))))) [D.v (Value.int IntKind.i64 a), D.v (Value.int IntKind.i64 b), D.v (Value.int IntKind.i64 c)] ++ []) fun r => List.all r D.keeps then K (DV.tup [DV.c (D.s (1) (3) (List.take (List.length (ins (List.take (List.length R) (R ++ [])) (Int.toNat (@Nat.cast Int _ (bsAt (ltW (toZ R) a b) (List.length (toZ R))))) [D.v (Value.int IntKind.i64 a), D.v (Value.int IntKind.i64 b), D.v (Value.int IntKind.i64 c)])) (ins (List.take (List.length R) (R ++ [])) (Int.toNat (@Nat.cast Int _ (bsAt (ltW (toZ R) a b) (List.length (toZ R))))) [D.v (Value.int IntKind.i64 a), D.v (Value.int IntKind.i64 b), D.v (Value.int IntKind.i64 c)] ++ [])) (List.take (List.length (ins (List.take (List.length R) (R ++ [])) (Int.toNat (@Nat.cast Int _ (bsAt (ltW (toZ R) a b) (List.length (toZ R))))) [D.v (Value.int IntKind.i64 a), D.v (Value.int IntKind.i64 b), D.v (Value.int IntKind.i64 c)]) + 0 - List.length (ins (List.take (List.length R) (R ++ [])) (Int.toNat (@Nat.cast Int _ (bsAt (ltW (toZ R) a b) (List.length (toZ R))))) [D.v (Value.int IntKind.i64 a), D.v (Value.int IntKind.i64 b), D.v (Value.int IntKind.i64 c)])) (List.drop (List.length (ins (List.take (List.length R) (R ++ [])) (Int.toNat (@Nat.cast Int _ (bsAt (ltW (toZ R) a b) (List.length (toZ R))))) [D.v (Value.int IntKind.i64 a), D.v (Value.int IntKind.i64 b), D.v (Value.int IntKind.i64 c)])) (ins (List.take (List.length R) (R ++ [])) (Int.toNat (@Nat.cast Int _ (bsAt (ltW (toZ R) a b) (List.length (toZ R))))) [D.v (Value.int IntKind.i64 a), D.v (Value.int IntKind.i64 b), D.v (Value.int IntKind.i64 c)] ++ [])))), DV.c (D.v (Value.int IntKind.i64 (0)))]) else False else False else False else False else False else False else False) := by kernel_rfl
theorem eFind (R sp : List (List D)) (a b : Int) (K : DV → Prop) : (ask Try.prog [(53, sWMy), (84, sBSF)] Try.f48 [dS 3 R sp, I a, I b] K) = (bif okZ (3) R && decide (List.length R ≤ 4611686018427387903) then bif okZ (3) R then bif !wmay (toZ R) then K (DV.tup [DV.c (D.v (Value.int IntKind.i64 (0))), DV.c (D.v (Value.bool false))]) else bif !isW (toZ R) a b then K (DV.tup [DV.c (D.v (Value.int IntKind.i64 (0))), DV.c (D.v (Value.bool false))]) else bif decide (0 ≤ @Nat.cast Int _ (bsAt (ltW (toZ R) a b) (List.length (toZ R)))) && decide (@Nat.cast Int _ (bsAt (ltW (toZ R) a b) (List.length (toZ R))) < @Nat.cast Int _ (List.length R)) then bif isJ [IntKind.i64] (List.drop (2) (List.getD R (Int.toNat (@Nat.cast Int _ (bsAt (ltW (toZ R) a b) (List.length (toZ R))))) [])) then K (DV.tup [DV.c (D.v (Value.int IntKind.i64 (hdJ (List.drop (2) (List.getD R (Int.toNat (@Nat.cast Int _ (bsAt (ltW (toZ R) a b) (List.length (toZ R))))) []))))), DV.c (D.v (Value.bool true))]) else False else False else False else False) := by kernel_rfl
def neL (a : Int) (r : List Int) : Bool := r.getD 0 0 != a
theorem eAt1 (x y z a : Int) (K : DV → Prop) : (ask Try.prog [] Try.f88 [.agg [vI x, vI y, vI z], .c (.p 0 [vI a] 0)] K) = (K (DV.c (D.v (Value.bool (x != a))))) := by kernel_rfl
/-! ### what the search finds in writes that may be -/
theorem bsR_cut (p : Nat → Bool) (m n : Nat) (h1 : ∀ h, h < m → p h = true) (h2 : ∀ h, m ≤ h → h < n → p h = false) : ∀ (f i j : Nat), j - i ≤ f → i ≤ m → m ≤ j → j ≤ n → bsR p f i j = m
  | 0, i, j, h, hi, hj, _ => by simp only [bsR]; omega
  | f + 1, i, j, h, hi, hj, hn => by
    by_cases hij : i < j
    · simp only [bsR, hij, decide_true, cond_true]
      by_cases hm : (i + j) / 2 < m
      · rw [h1 _ hm]; exact bsR_cut p m n h1 h2 f _ _ (by omega) (by omega) hj hn
      · rw [h2 _ (by omega) (by omega)]; exact bsR_cut p m n h1 h2 f _ _ (by omega) hi (by omega) (by omega)
    · simp only [bsR, hij, decide_false, cond_false]; omega
def lessW (l : List (List Int)) (k : Int) : Nat := (l.takeWhile fun r => decide (key r < k)).length
theorem lessW_le (l : List (List Int)) (k : Int) : lessW l k ≤ l.length := (List.takeWhile_prefix _).length_le
theorem take_lessW (l : List (List Int)) (k : Int) : l.take (lessW l k) = l.takeWhile fun r => decide (key r < k) := by
  have := List.takeWhile_prefix (l := l) fun r => decide (key r < k)
  exact (List.prefix_iff_eq_take.1 this).symm
theorem lessW_lt {l : List (List Int)} {k : Int} {h : Nat} (hh : h < lessW l k) : key (l.getD h []) < k := by
  have hl : h < l.length := Nat.lt_of_lt_of_le hh (lessW_le l k)
  have e := take_lessW l k
  have hm : l[h] ∈ l.takeWhile fun r => decide (key r < k) := by
    rw [← e]
    exact List.mem_take_iff_getElem.2 ⟨h, by omega, rfl⟩
  have := List.all_eq_true.1 (List.all_takeWhile (l := l) (p := fun r => decide (key r < k))) _ hm
  simpa [List.getD_eq_getElem?_getD, hl] using this
theorem lessW_at {l : List (List Int)} {k : Int} (hh : lessW l k < l.length) : k ≤ key (l.getD (lessW l k) []) := by
  have e : l.dropWhile (fun r => decide (key r < k)) = l.drop (lessW l k) := by
    have h1 := List.takeWhile_append_dropWhile (p := fun r => decide (key r < k)) (l := l)
    have h2 := List.take_append_drop (lessW l k) l
    rw [take_lessW] at h2
    exact List.append_cancel_left (h1.trans h2.symm)
  obtain ⟨x, hd, hx⟩ : ∃ x, l.drop (lessW l k) = x :: l.drop (lessW l k + 1) ∧ l.getD (lessW l k) [] = x := ⟨l[lessW l k]'hh, List.drop_eq_getElem_cons hh, by simp [List.getD_eq_getElem?_getD, hh]⟩
  have hne : l.dropWhile (fun r => decide (key r < k)) ≠ [] := by rw [e, hd]; simp
  have := List.head_dropWhile_not (fun r => decide (key r < k)) (l := l) hne
  have h3 : (l.dropWhile (fun r => decide (key r < k))).head hne = x := by
    simp only [e, hd, List.head_cons]
  rw [h3] at this
  rw [hx]
  simpa using this
theorem okWs_lt {l : List (List Int)} (h : okWs l) : ∀ (i j : Nat), i < j → j < l.length → key (l.getD i []) < key (l.getD j []) := by
  intro i j hij
  induction j with
  | zero => omega
  | succ j ih =>
    intro hj
    have h1 := (h (j + 1) hj).2 (by omega)
    rw [Nat.add_sub_cancel] at h1
    by_cases e : i = j
    · subst e; exact h1
    · have := ih (by omega) (by omega); omega
theorem bsAt_less {l : List (List Int)} (h : okWs l) {a b : Int} (ha : 0 ≤ a ∧ a ≤ 3) (hb : 0 ≤ b ∧ b ≤ 3) : bsAt (ltW l a b) l.length = lessW l (4 * a + b) := by
  refine bsR_cut _ _ l.length (fun i hi => ?_) (fun i hi hn => ?_) _ _ _ (Nat.le_refl _) (Nat.zero_le _) (lessW_le _ _) (Nat.le_refl _)
  · have hl : i < l.length := Nat.lt_of_lt_of_le hi (lessW_le _ _)
    exact decide_eq_true ((rw3_key (okw_in (h i hl).1).1 ha hb).1.2 (lessW_lt hi))
  · have hlm : lessW l (4 * a + b) < l.length := by omega
    have h1 := lessW_at hlm
    have h2 : key (l.getD (lessW l (4 * a + b)) []) ≤ key (l.getD i []) := by
      by_cases e : i = lessW l (4 * a + b)
      · rw [e]; exact Int.le_refl _
      · exact Int.le_of_lt (okWs_lt h _ _ (by omega) hn)
    refine decide_eq_false fun hlt => ?_
    have := (rw3_key (okw_in (h i hn).1).1 ha hb).1.1 hlt
    omega
def hasW (l : List (List Int)) (k : Int) : Bool := decide (lessW l k < l.length) && decide (key (l.getD (lessW l k) []) = k)
theorem isW_has {l : List (List Int)} (h : okWs l) {a b : Int} (ha : 0 ≤ a ∧ a ≤ 3) (hb : 0 ≤ b ∧ b ≤ 3) : isW l a b = hasW l (4 * a + b) := by
  unfold isW hasW
  rw [bsAt_less h ha hb]
  by_cases hl : lessW l (4 * a + b) < l.length
  · have := (rw3_key (okw_in (h _ hl).1).1 ha hb).2
    simp only [hl, decide_true, cond_true, Bool.true_and]
    by_cases e : rw3 (l.getD (lessW l (4 * a + b)) []) a b = 0
    · rw [e, decide_eq_true (this.1 e)]; rfl
    · rw [decide_eq_false fun h => e (this.2 h)]; simpa using e
  · simp [hl]
/-- One more, in its place. -/
def putW (l : List (List Int)) (r : List Int) : List (List Int) := l.take (lessW l (key r)) ++ r :: l.drop (bif hasW l (key r) then lessW l (key r) + 1 else lessW l (key r))
theorem okWs_full {l : List (List Int)} (h : okWs l) (h16 : l.length = 16) {k : Int} (hk : 0 ≤ k ∧ k ≤ 15) : hasW l k = true := by
  have key_ge : ∀ i : Nat, i < 16 → (i : Int) ≤ key (l.getD i []) := by
    intro i
    induction i with
    | zero =>
      intro _
      have := (okw_in (h 0 (by omega)).1).1
      unfold inW at this; unfold key; omega
    | succ i ih => intro hi; have := ih (by omega); have := okWs_lt h i (i + 1) (by omega) (by omega); omega
  have key_le : ∀ d : Nat, d < 16 → key (l.getD (15 - d) []) ≤ 15 - (d : Int) := by
    intro d
    induction d with
    | zero =>
      intro _
      have := (okw_in (h 15 (by omega)).1).1
      unfold inW at this; unfold key; simp only [Nat.sub_zero]; omega
    | succ d ih =>
      intro hd
      have := ih (by omega)
      have h2 := okWs_lt h (15 - (d + 1)) (15 - d) (by omega) (by omega)
      omega
  have hkey : ∀ i : Nat, i < 16 → key (l.getD i []) = i := fun i hi => by
    have h1 := key_ge i hi
    have h2 := key_le (15 - i) (by omega)
    rw [show 15 - (15 - i) = i by omega] at h2
    omega
  obtain ⟨n, rfl⟩ := Int.eq_ofNat_of_zero_le hk.1
  have hle := lessW_le l (n : Int)
  have hlt : lessW l (n : Int) < l.length := by
    rcases Nat.lt_or_ge (lessW l (n : Int)) l.length with h' | h'
    · exact h'
    · exfalso
      have := lessW_lt (l := l) (k := (n : Int)) (h := 15) (by omega)
      rw [hkey 15 (by omega)] at this; omega
  have h1 := lessW_at hlt
  have hm : lessW l (n : Int) < 16 := by omega
  rw [hkey _ hm] at h1
  unfold hasW
  rw [decide_eq_true hlt, hkey _ hm]
  by_cases e : lessW l (n : Int) = n
  · rw [e]; simp
  · exfalso
    have := lessW_lt (l := l) (k := (n : Int)) (h := lessW l (n : Int) - 1) (by omega)
    have : n < lessW l (n : Int) := by omega
    have := lessW_lt (l := l) (k := (n : Int)) (h := n) this
    rw [hkey n (by omega)] at this; omega
theorem wmay1 (r : List Int) : wmay [r] = okw r := by
  unfold wmay badW
  simp [List.range, List.range.loop]
def withW (l : List (List Int)) (r : List Int) : List (List Int) := bif wmay l && okw r then putW l r else []
def withE (l : List (List Int)) (r : List Int) : Int := bif wmay l && okw r then 0 else 1000
theorem set_put (l : List (List Int)) (m : Nat) (r : List Int) (h : m < l.length) : l.set m r = l.take m ++ r :: l.drop (m + 1) := List.set_eq_take_append_cons_drop.trans (by rw [if_pos h])
theorem mZ_ins (l : List (List Int)) (m : Nat) (a b c : Int) : ins (mZ l) m [vI a, vI b, vI c] = mZ (l.take m ++ [a, b, c] :: l.drop m) := by
  simp [ins, mZ, List.map_take, List.map_drop]
def sWth : Spec := fun ds Q => match ds with
  | [.c (.s 0 3 R sp), .agg [.v (.int .i64 a), .v (.int .i64 b), .v (.int .i64 c)]] => cond (okZ 3 R) (Q (.tup [.c (.s 1 3 (mZ (withW (toZ R) [a, b, c])) []), I (withE (toZ R) [a, b, c])])) False
  | _ => False
theorem with_ct {l : List (List Int)} {sp : List (List D)} {a b c : Int} (hw : wid 3 l) (hn : l.length ≤ 9223372036854775807) (K : DV → Prop) (hK : K (.tup [.c (.s 1 3 (mZ (withW l [a, b, c])) []), I (withE l [a, b, c])])) :
    evp Try.prog (gW [(53, sWMy), (83, sCloneWrites), (84, sBSF), (86, sIns)]) 200 (bodyOf Try.f46) (finX Try.prog Try.f46 K) (entryX 42 [dS 3 (mZ l) sp, .agg [vI a, vI b, vI c]]) := by
  rw [eWith]
  have hk : okZ 3 (mZ l) = true := okZ_mZ hw hn
  have h1 : toZ [[D.v (Value.int IntKind.i64 a), D.v (Value.int IntKind.i64 b), D.v (Value.int IntKind.i64 c)]] = [[a, b, c]] := rfl
  simp only [hk, cond_true, toZ_mZ, h1, wmay1]
  unfold withW withE at hK
  cases hm : wmay l with
  | false => rw [hm] at hK; exact hK
  | true =>
    cases ho : okw [a, b, c] with
    | false => rw [hm, ho] at hK; exact hK
    | true =>
      rw [hm, ho] at hK
      obtain ⟨h16, hws⟩ := (wmay_iff l).1 hm
      have hin := (okw_in ho).1
      have ha : 0 ≤ a ∧ a ≤ 3 := hin.1
      have hb : 0 ≤ b ∧ b ≤ 3 := hin.2
      have hkey : key [a, b, c] = 4 * a + b := rfl
      have hv : allV (mZ l) = true := allV_mZ l
      have hL : List.length (mZ l) = l.length := mZ_len l
      simp only [Bool.and_self, cond_true, Bool.not_true, cond_false, bsAt_less hws ha hb, isW_has hws ha hb, List.append_nil, hL, hv, Int.toNat_natCast, addN_eq, Nat.zero_add, Nat.le_refl, decide_true, Nat.add_zero, Nat.sub_self, List.take_zero, Int.natCast_nonneg, Bool.true_and, Int.ofNat_lt, Int.ofNat_le, List.length_set] at hK ⊢
      unfold putW at hK
      rw [hkey] at hK
      have hle := lessW_le l (4 * a + b)
      refine cnd (by simp; omega) (cnd (by simp; omega) ?_)
      cases hh : hasW l (4 * a + b) with
      | true =>
        rw [hh] at hK
        have hlt : lessW l (4 * a + b) < l.length := by
          unfold hasW at hh
          simp only [Bool.and_eq_true, decide_eq_true_eq] at hh
          exact hh.1
        have hr : l.getD (lessW l (4 * a + b)) [] = l.getD (lessW l (4 * a + b)) [] := rfl
        have hd3 : List.drop 3 (List.getD (mZ l) (lessW l (4 * a + b)) []) = [] := List.drop_eq_nil_of_le (by rw [mZ_getD, List.length_map, wid_get hw hlt]; exact Nat.le_refl _)
        have he : List.set (mZ l) (lessW l (4 * a + b)) [D.v (Value.int IntKind.i64 a), D.v (Value.int IntKind.i64 b), D.v (Value.int IntKind.i64 c)] = mZ (l.take (lessW l (4 * a + b)) ++ [a, b, c] :: l.drop (lessW l (4 * a + b) + 1)) := by
          rw [← set_put l _ _ hlt, ← mZ_set]; rfl
        simp only [cond_true, hlt, decide_true, hd3, he, keeps_of (allV_mZ _), Nat.le_refl] at hK ⊢
        rw [List.take_of_length_le (by rw [mZ_len]; simp; omega)]
        exact hK
      | false =>
        rw [hh] at hK
        have hne : ¬ l.length = 16 := fun h => by
          have := okWs_full hws h (k := 4 * a + b) (by omega)
          rw [hh] at this; cases this
        have h17 : ((l.length : Int) == 16) = false := by simp; omega
        have hkp := keeps_of hv
        have hkp2 := keeps_of (allV_mZ (l.take (lessW l (4 * a + b)) ++ [a, b, c] :: l.drop (lessW l (4 * a + b))))
        have ht : List.take l.length (mZ l) = mZ l := List.take_of_length_le (by rw [mZ_len]; exact Nat.le_refl _)
        have hi : ins (mZ l) (lessW l (4 * a + b)) [D.v (Value.int IntKind.i64 a), D.v (Value.int IntKind.i64 b), D.v (Value.int IntKind.i64 c)] = mZ (l.take (lessW l (4 * a + b)) ++ [a, b, c] :: l.drop (lessW l (4 * a + b))) := mZ_ins l _ a b c
        simp only [cond_false, h17, ht, hL, hi, hkp, hkp2, hv, hle, decide_true, cond_true, Nat.le_refl, Bool.and_self, Bool.true_and, Nat.sub_self, List.take_zero] at hK ⊢
        refine cnd (by simp; omega) ?_
        rw [List.take_of_length_le (Nat.le_refl _)]
        exact hK
theorem oWth : SpecOK Try.prog 46 sWth := o_of Try.func46 (by kernel_rfl) rfl fun ds Q h => by
  unfold sWth at h; split at h
  · rename_i R sp a b c
    obtain ⟨h1, h2⟩ := cond_P h
    obtain ⟨e1, w1, n1⟩ := okZ_spec h1
    rw [e1]
    rw [← toZ_len R] at n1
    generalize toZ R = l at *
    have hv := allV_mZ (withW l [a, b, c])
    refine ⟨_, ct_of_evp (gW_ok (.cons oWMy (.cons oCloneWrites (.cons oBSF (.cons oIns .nil))))) mixed 200 Try.func46 (c := bodyOf Try.f46) rfl (fun b hb s hs => by cases hs) (Nat.le_of_ble_eq_true rfl) rfl (with_ct w1 n1 _ rfl), by simp [DV.pureOwn, DV.pure1, D.pureOwn, DV.pureOwn.go, ownLL_of hv]; rfl, rfl, h2⟩
  · exact h.elim
end Vm
