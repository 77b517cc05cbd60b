/- Proved: ProgParts answers true for every program and every number. No condition but the lengths that Go has. -/
import Derived.Test.YtidedfhlocodgaaQProgPartsx6
import Derived.Laws.BytesArg
import Derived.Lib.Bytes
namespace Go.Proofs.Ytidedfhlocodgaa.Pure
open Go Go.RowKit Go.Proofs.Ytidedfhlocodgaa.PProgParts Go.Proofs.YtidedfhlocodgaaW.PrintWords Go.Proofs.YtidedfhlocodgaaW.PrintLast
set_option linter.unusedSimpArgs false

theorem Reg (b : Int) : regs_Reg.f b = some (decide (0 ≤ b ∧ b < 4)) := by
  unfold regs_Reg.f
  by_cases h : b ≥ 0
  · rw [if_pos h]; congr 1; simp; omega
  · rw [if_neg h]; congr 1; simp; omega
theorem Lab (b : Int) : label_May.f b = some (decide (0 ≤ b ∧ b < 4)) := by
  unfold label_May.f
  by_cases h : b ≥ 0
  · rw [if_pos h]; congr 1; simp; omega
  · rw [if_neg h]; congr 1; simp; omega
theorem Val (b : Int) : word_Value.f b = some (decide (0 ≤ b ∧ b ≤ 255)) := by
  unfold word_Value.f word_in.f
  by_cases h : b ≥ 0
  · rw [if_pos h]; simp; omega
  · rw [if_neg h]; simp; omega
def okP (a b c d : Int) : Prop := (a = 0 ∧ d = 0 ∧ (0 ≤ b ∧ b < 4) ∧ 0 ≤ c ∧ c ≤ 255) ∨ (a = 1 ∧ d = 0 ∧ (0 ≤ b ∧ b < 4) ∧ 0 ≤ c ∧ c < 4) ∨ ((a = 2 ∨ a = 3) ∧ (0 ≤ b ∧ b < 4) ∧ (0 ≤ c ∧ c < 4) ∧ 0 ≤ d ∧ d < 4) ∨ (a = 4 ∧ d = 0 ∧ (0 ≤ b ∧ b < 4) ∧ 0 ≤ c ∧ c ≤ 16) ∨ (a = 5 ∧ b = 0 ∧ c = 0 ∧ d = 0) ∨ (a = 6 ∧ c = 0 ∧ d = 0 ∧ 0 ≤ b ∧ b ≤ 255)
instance (a b c d : Int) : Decidable (okP a b c d) := by unfold okP; infer_instance
theorem May (k : Nat) (a b c d : Int) : inst_May.f (k + 3) a b c d = some (decide (okP a b c d)) := by
  unfold inst_May.f inst_names.f okP
  by_cases h0 : a = 0
  · subst h0
    simp [inst_names.j0, inst_names.j1, inst_May.j0, Reg, Lab, Val]
    by_cases hd : d = 0 <;> by_cases hb : 0 ≤ b ∧ b < 4 <;> simp [hd, hb] <;> (intros; omega)
  by_cases h1 : a = 1
  · subst h1
    simp [inst_names.j0, inst_names.j1, inst_May.j0, Reg, Lab, Val]
    by_cases hd : d = 0 <;> by_cases hb : 0 ≤ b ∧ b < 4 <;> simp [hd, hb] <;> (intros; omega)
  by_cases h2 : a = 2
  · subst h2
    simp [inst_names.j0, inst_names.j1, inst_May.j0, Reg, Lab, Val]
    by_cases hb : 0 ≤ b ∧ b < 4 <;> by_cases hc : 0 ≤ c ∧ c < 4 <;> by_cases hd : 0 ≤ d <;> simp [hd, hb, hc] <;> (intros; omega)
  by_cases h3 : a = 3
  · subst h3
    simp [inst_names.j0, inst_names.j1, inst_May.j0, Reg, Lab, Val]
    by_cases hb : 0 ≤ b ∧ b < 4 <;> by_cases hc : 0 ≤ c ∧ c < 4 <;> by_cases hd : 0 ≤ d <;> simp [hd, hb, hc] <;> (intros; omega)
  by_cases h4 : a = 4
  · subst h4
    simp [inst_names.j0, inst_names.j1, inst_May.j0, Reg, Lab, Val]
    by_cases hb : 0 ≤ b ∧ b < 4 <;> by_cases hc : 0 ≤ c <;> by_cases hd : d = 0 <;> simp [hd, hb, hc] <;> (intros; omega)
  by_cases h5 : a = 5
  · subst h5
    simp [inst_names.j0, inst_names.j1, inst_May.j0, Reg, Lab, Val]
    by_cases hb : b = 0 <;> by_cases hc : c = 0 <;> by_cases hd : d = 0 <;> simp [hd, hb, hc] <;> (intros; omega)
  by_cases h6 : a = 6
  · subst h6
    simp [inst_names.j0, inst_names.j1, inst_May.j0, Reg, Lab, Val]
    by_cases hc : c = 0 <;> by_cases hd : d = 0 <;> simp [hd, hc] <;> (intros; omega)
  · simp [inst_names.j0, inst_names.j1, inst_May.j0, Reg, Lab, Val, h0, h1, h2, h3, h4, h5, h6]
theorem Num (x : Int) : veillaw0_Num.f x = some x := rfl
theorem Put (k : Nat) (a b c d : Int) : inst_Put.f (k + 3) a b c d = if okP a b c d then some (strOfNums [a % 256, b % 256, c % 256, d % 256], 0) else some ((⟨#[]⟩ : ByteArray), 700) := by
  unfold inst_Put.f
  rw [May]
  by_cases h : okP a b c d <;> simp [h]

/-! ### programs -/
def goodB (n : Int) (x : S23) (i : Int) : Bool := decide (okP x.f0 x.f1 x.f2 x.f3) && (!(decide (x.f0 = 4)) || (decide (i < x.f2) && decide (x.f2 ≤ n)))
def restB (n : Int) : List S23 → Int → Bool
  | [], _ => true
  | x :: l, i => goodB n x i && restB n l (i + 1)
def okB (l : List S23) : Bool := restB l.length l 0 && decide ((l.length : Int) ≤ 16)
def numsI (x : S23) : List Int := [x.f0 % 256, x.f1 % 256, x.f2 % 256, x.f3 % 256]
def flatI (l : List S23) : List Int := l.flatMap numsI
noncomputable def putP (l : List S23) : ByteArray × Int := if okB l = true then (strOfNums (((l.length : Int) % 256) :: flatI l), 0) else ((⟨#[]⟩ : ByteArray), 800)

theorem rd_mid (pre : List S23) (x : S23) (r : List S23) : rd_T23 (pre ++ x :: r) (pre.length : Int) = x := by
  unfold rd_T23; simp
theorem wrap_succ (n : Nat) (h : (n : Int) < 9223372036854775807) : wrap64 ((n : Int) + 1) = ((n + 1 : Nat) : Int) := by unfold wrap64; omega

theorem may_loop : ∀ (r pre : List S23) (k : Nat), ((pre ++ r).length : Int) ≤ 9223372036854775807 → r.length + 4 ≤ k →
    prog_May.l0 k (pre ++ r) (pre ++ r) ((pre ++ r).length : Int) (pre.length : Int) = some (restB ((pre ++ r).length : Int) r (pre.length : Int) && decide (((pre ++ r).length : Int) ≤ 16))
  | [], pre, k + 1, _, _ => by
    rw [prog_May.l0, if_neg (by simp)]
    simp [restB]
  | x :: r, pre, k + 1, hl, hk => by
    have hlt : (pre.length : Int) < ((pre ++ x :: r).length : Int) := by simp; omega
    obtain ⟨k', rfl⟩ : ∃ k', k = k' + 3 := ⟨k - 3, by simp at hk; omega⟩
    have ih := may_loop r (pre ++ [x]) (k' + 3) (by simpa using hl) (by simp at hk; omega)
    rw [prog_May.l0, if_pos hlt, if_pos (by omega), if_pos hlt, rd_mid, May, Option.bind_some, wrap_succ _ (by omega)]
    simp only [List.append_assoc, List.singleton_append, List.length_append, List.length_singleton] at ih
    simp only [List.length_append] at ih ⊢
    by_cases h : okP x.f0 x.f1 x.f2 x.f3
    · simp only [h, decide_true, if_true, restB, goodB, Bool.true_and]
      by_cases h4 : x.f0 = 4
      · rw [if_pos h4]
        by_cases h5 : x.f2 ≤ (pre.length : Int)
        · rw [if_pos h5]
          simp [h4]; omega
        · rw [if_neg h5]
          by_cases h6 : x.f2 > ((pre.length + (x :: r).length : Nat) : Int)
          · rw [if_pos h6]
            simp at h6
            simp [h4]; omega
          · rw [if_neg h6, ih]
            have e5 : decide ((pre.length : Int) < x.f2) = true := by simp; omega
            have e6 : decide (x.f2 ≤ ((pre.length + (x :: r).length : Nat) : Int)) = true := by simp at h6 ⊢; omega
            rw [e5, e6]
            simp
      · rw [if_neg h4, ih]
        simp [h4]
    · simp [h, restB, goodB]
  | [], _, 0, _, hk => by omega
  | _ :: _, _, 0, _, hk => by omega

theorem MayP (l : List S23) (k : Nat) (hl : (l.length : Int) ≤ 9223372036854775807) (hk : l.length + 4 ≤ k) : prog_May.f k l = some (okB l) := by
  unfold prog_May.f
  have := may_loop l [] k hl hk
  simpa [okB] using this

theorem strOfNums_append (xs ys : List Int) : strOfNums xs ++ strOfNums ys = strOfNums (xs ++ ys) := by
  apply ByteArray.ext
  simp [strOfNums]

theorem put_loop (n : Int) : ∀ (r pre : List S23) (k : Nat) (xs : List Int), ((pre ++ r).length : Int) ≤ 1000 → xs.length + 4 * r.length ≤ 100000 → r.length + 4 ≤ k → restB n r (pre.length : Int) = true →
    prog_Put.l0 k (strOfNums xs) (pre ++ r) ((pre ++ r).length : Int) (pre.length : Int) = some (strOfNums (xs ++ flatI r), 0)
  | [], pre, k + 1, xs, _, _, _, _ => by
    rw [prog_Put.l0, if_neg (by simp)]
    simp [flatI]
  | x :: r, pre, k + 1, xs, hl, hx, hk, hr => by
    have hlt : (pre.length : Int) < ((pre ++ x :: r).length : Int) := by simp; omega
    obtain ⟨k', rfl⟩ : ∃ k', k = k' + 3 := ⟨k - 3, by simp at hk; omega⟩
    simp only [restB, goodB, Bool.and_eq_true, decide_eq_true_eq] at hr
    have ih := put_loop n r (pre ++ [x]) (k' + 3) (xs ++ numsI x) (by simpa using hl) (by simp [numsI] at hx ⊢; omega) (by simp at hk; omega) (by simpa using hr.2)
    rw [prog_Put.l0, if_pos hlt, if_pos (by omega), if_pos hlt, rd_mid, Put, if_pos hr.1.1, Option.bind_some, wrap_succ _ (by omega)]
    have e : strOfNums xs ++ strOfNums [x.f0 % 256, x.f1 % 256, x.f2 % 256, x.f3 % 256] = strOfNums (xs ++ numsI x) := strOfNums_append _ _
    simp only [e]
    rw [if_pos (by simp only [strOfNums_size, List.length_cons, List.length_nil]; simp at hx; omega)]
    simp only [List.append_assoc, List.singleton_append, List.length_append, List.length_singleton] at ih
    simp only [List.length_append] at ih ⊢
    rw [ih]
    simp [flatI]
  | [], _, 0, _, _, _, hk, _ => by omega
  | _ :: _, _, 0, _, _, _, hk, _ => by omega

theorem PutP (l : List S23) (k : Nat) (hl : (l.length : Int) ≤ 9223372036854775807) (hk : l.length + 4 ≤ k) : prog_Put.f k l = some (putP l) := by
  unfold prog_Put.f putP
  rw [MayP l k hl hk, Option.bind_some]
  cases h : okB l with
  | false => rfl
  | true =>
    simp only [okB, Bool.and_eq_true, decide_eq_true_eq] at h
    have h16 : l.length ≤ 16 := by omega
    have := put_loop l.length l [] k [((l.length : Int) % 256)] (by simp; omega) (by simp; omega) hk h.1
    simp only [List.nil_append, List.length_nil] at this
    rw [if_pos rfl, if_pos rfl]
    simpa using this

theorem w64 (x : Int) (h : 0 ≤ x ∧ x ≤ 255) : wrap64 x = x := by unfold wrap64; omega
theorem Get (k : Nat) (s : ByteArray) : inst_Get.f (k + 3) s = if s.size = 4 then (if okP (bt s 0) (bt s 1) (bt s 2) (bt s 3) then some (bt s 0, bt s 1, bt s 2, bt s 3, 0) else some (0, 0, 0, 0, 700)) else some (0, 0, 0, 0, 700) := by
  unfold inst_Get.f
  by_cases h : s.size = 4
  · rw [if_pos h, if_pos (by omega), if_pos (by omega), if_pos (by omega), if_pos (by omega), if_pos (by omega)]
    rw [w64 _ (bt_range s 0), w64 _ (bt_range s 1), w64 _ (bt_range s 2), w64 _ (bt_range s 3), May]
    by_cases h' : okP (bt s 0) (bt s 1) (bt s 2) (bt s 3) <;> simp [h']
  · rw [if_neg h, if_neg (by omega)]
theorem bt_nums (xs : List Int) (i : Nat) (x : Int) (hx : xs[i]? = some x) (h0 : 0 ≤ x ∧ x ≤ 255) : bt (strOfNums xs) (i : Int) = x := by
  have hi : i < xs.length := (List.getElem?_eq_some_iff.1 hx).1
  have he : xs[i] = x := (List.getElem?_eq_some_iff.1 hx).2
  unfold bt
  have hsz : ((i : Int)).toNat < (strOfNums xs).size := by rw [strOfNums_size]; simpa using hi
  rw [dif_pos hsz]
  have : (strOfNums xs)[(i : Int).toNat]'hsz = UInt8.ofNat x.toNat := by
    simp [strOfNums, ByteArray.getElem_eq_getElem_data, he]
  rw [this]
  simp [UInt8.toNat_ofNat']
  omega
theorem okP_bytes {a b c d : Int} (h : okP a b c d) : (0 ≤ a ∧ a ≤ 255) ∧ (0 ≤ b ∧ b ≤ 255) ∧ (0 ≤ c ∧ c ≤ 255) ∧ 0 ≤ d ∧ d ≤ 255 := by
  unfold okP at h; omega
theorem get_nums (k : Nat) (x : S23) (h : okP x.f0 x.f1 x.f2 x.f3) : inst_Get.f (k + 3) (strOfNums (numsI x)) = some (x.f0, x.f1, x.f2, x.f3, 0) := by
  obtain ⟨ha, hb, hc, hd⟩ := okP_bytes h
  have em : ∀ x : Int, 0 ≤ x ∧ x ≤ 255 → x % 256 = x := fun x hx => by omega
  have b0 : bt (strOfNums (numsI x)) 0 = x.f0 := bt_nums (numsI x) 0 _ (by simp [numsI, em _ ha]) ha
  have b1 : bt (strOfNums (numsI x)) 1 = x.f1 := bt_nums (numsI x) 1 _ (by simp [numsI, em _ hb]) hb
  have b2 : bt (strOfNums (numsI x)) 2 = x.f2 := bt_nums (numsI x) 2 _ (by simp [numsI, em _ hc]) hc
  have b3 : bt (strOfNums (numsI x)) 3 = x.f3 := bt_nums (numsI x) 3 _ (by simp [numsI, em _ hd]) hd
  have hs : (strOfNums (numsI x)).size = 4 := by rw [strOfNums_size]; rfl
  rw [Get, if_pos hs, b0, b1, b2, b3, if_pos h]

theorem toList_inj {x y : ByteArray} (h : x.toList = y.toList) : x = y := by
  rw [Lib.toList_data, Lib.toList_data] at h
  cases x; cases y
  congr 1
  exact Array.ext' h
theorem size_flat : ∀ (l : List S23), (flatI l).length = 4 * l.length
  | [] => rfl
  | x :: l => by
    have := size_flat l
    simp only [flatI, List.flatMap_cons, List.length_append, List.length_cons] at this ⊢
    rw [this]; simp [numsI]; omega
theorem extract_nums (xs : List Int) (a b : Nat) : (strOfNums xs).extract a b = strOfNums ((xs.drop a).take (b - a)) := by
  apply ByteArray.ext
  apply Array.ext'
  rw [Lib.extract_data, strOfNums_data, strOfNums_data, List.map_take, List.map_drop]

/-- What the reading of any string gives. -/
def GotP (s : ByteArray) (r : List S23) (e : Int) : Prop := (e = 0 ∧ r.length ≤ 20 ∧ (putP r).2 = 0 ∧ (putP r).1.toList = s.toList) ∨ (e = 800 ∧ r = [])

theorem put_tail (s : ByteArray) (acc : List S23) (k : Nat) (hl : acc.length ≤ 20) (hk : 30 ≤ k) : ∃ r e, ((prog_Put.f k acc).bind fun bt146 => (if bt146.2 = 0 then (if bt146.1.toList = s.toList then (some (acc, 0)) else (some (([] : List (S23)), 800))) else (some (([] : List (S23)), 800)))) = some (r, e) ∧ GotP s r e := by
  rw [PutP acc k (by omega) (by omega), Option.bind_some]
  by_cases h : (putP acc).2 = 0
  · rw [if_pos h]
    by_cases h' : (putP acc).1.toList = s.toList
    · rw [if_pos h']; exact ⟨_, _, rfl, .inl ⟨rfl, hl, h, h'⟩⟩
    · rw [if_neg h']; exact ⟨_, _, rfl, .inr ⟨rfl, rfl⟩⟩
  · rw [if_neg h]; exact ⟨_, _, rfl, .inr ⟨rfl, rfl⟩⟩

theorem get_loop (s : ByteArray) : ∀ (n : Nat) (acc : List S23) (k : Nat), acc.length + n = 18 → 1 ≤ n → 2 * n + 40 ≤ k → ∃ r e, prog_Get.l0 k s acc (1 + 4 * (acc.length : Int)) = some (r, e) ∧ GotP s r e
  | 0, _, _, _, h, _ => by omega
  | n + 1, acc, k, hn, _, hk => by
    obtain ⟨k, rfl⟩ : ∃ m, k = m + 2 := ⟨k - 2, by omega⟩
    have hw : wrap64 (1 + 4 * (acc.length : Int) + 4) = 1 + 4 * (acc.length : Int) + 4 := by unfold wrap64; omega
    rw [prog_Get.l0, hw]
    have no : ∃ r e, prog_Get.j1 (k + 1) s acc (1 + 4 * (acc.length : Int)) false = some (r, e) ∧ GotP s r e := by
      rw [prog_Get.j1]
      simp only [Bool.false_eq_true, if_false]
      exact put_tail s acc k (by omega) (by omega)
    by_cases h1 : 1 + 4 * (acc.length : Int) + 4 ≤ (s.size : Int)
    · rw [if_pos h1]
      by_cases h2 : (acc.length : Int) ≤ 16
      · rw [decide_eq_true h2, prog_Get.j1]
        simp only [if_true, hw]
        rw [if_pos (by omega), if_pos (by omega), if_pos h1]
        obtain ⟨k', rfl⟩ : ∃ m, k = m + 3 := ⟨k - 3, by omega⟩
        have hget : ∀ t, ∃ p : Int × Int × Int × Int × Int, inst_Get.f (k' + 3) t = some p := fun t => by
          rw [Get]
          by_cases g : t.size = 4
          · by_cases g' : okP (bt t 0) (bt t 1) (bt t 2) (bt t 3)
            · exact ⟨_, by rw [if_pos g, if_pos g']⟩
            · exact ⟨_, by rw [if_pos g, if_neg g']⟩
          · exact ⟨_, by rw [if_neg g]⟩
        obtain ⟨p, hp⟩ := hget (s.extract (1 + 4 * (acc.length : Int)).toNat (1 + 4 * (acc.length : Int) + 4).toNat)
        rw [hp, Option.bind_some]
        by_cases h3 : p.2.2.2.2 = 0
        · rw [if_pos h3, if_pos (by omega)]
          have ih := get_loop s n (acc ++ [(⟨p.1, p.2.1, p.2.2.1, p.2.2.2.1⟩ : S23)]) (k' + 3) (by simp; omega) (by omega) (by omega)
          have e : 1 + 4 * ((acc ++ [(⟨p.1, p.2.1, p.2.2.1, p.2.2.2.1⟩ : S23)]).length : Int) = 1 + 4 * (acc.length : Int) + 4 := by simp; omega
          rw [e] at ih
          exact ih
        · rw [if_neg h3]; exact ⟨_, _, rfl, .inr ⟨rfl, rfl⟩⟩
      · rw [decide_eq_false h2]; exact no
    · rw [if_neg h1]; exact no
theorem GetP (s : ByteArray) (k : Nat) (hk : 80 ≤ k) : ∃ r e, prog_Get.f k s = some (r, e) ∧ GotP s r e := by
  unfold prog_Get.f
  exact get_loop s 18 [] k rfl (by omega) (by omega)

theorem rest_mem {n : Int} : ∀ {l : List S23} {i : Int}, restB n l i = true → ∀ x ∈ l, okP x.f0 x.f1 x.f2 x.f3
  | y :: l, i, h, x, hx => by
    simp only [restB, goodB, Bool.and_eq_true, decide_eq_true_eq] at h
    cases hx with
    | head => exact h.1.1
    | tail _ hx => exact rest_mem h.2 x hx

theorem back_loop (l : List S23) (h16 : l.length ≤ 16) (hok : okB l = true) : ∀ (r pre : List S23) (k : Nat), pre ++ r = l → 2 * r.length + 40 ≤ k → prog_Get.l0 k (putP l).1 pre (1 + 4 * (pre.length : Int)) = some (l, 0)
  | [], pre, k, hl, hk => by
    obtain ⟨k, rfl⟩ : ∃ m, k = m + 2 := ⟨k - 2, by omega⟩
    have hpl : pre.length = l.length := by rw [← hl]; simp
    have hw : wrap64 (1 + 4 * (pre.length : Int) + 4) = 1 + 4 * (pre.length : Int) + 4 := by unfold wrap64; omega
    have hput : (putP l).1 = strOfNums (((l.length : Int) % 256) :: flatI l) := by unfold putP; rw [if_pos hok]
    have hsz : ((putP l).1.size : Int) = 1 + 4 * (l.length : Int) := by rw [hput, strOfNums_size, List.length_cons, size_flat]; omega
    have hok' := hok
    simp only [okB, Bool.and_eq_true] at hok'
    simp at hl
    subst hl
    rw [prog_Get.l0, hw, if_neg (by omega), prog_Get.j1]
    simp only [Bool.false_eq_true, if_false]
    rw [PutP pre k (by omega) (by omega), Option.bind_some, if_pos (by unfold putP; rw [if_pos hok]), if_pos rfl]
  | x :: r, pre, k, hl, hk => by
    obtain ⟨k, rfl⟩ : ∃ m, k = m + 2 := ⟨k - 2, by omega⟩
    have hpl : pre.length + (r.length + 1) = l.length := by rw [← hl]; simp
    have hw : wrap64 (1 + 4 * (pre.length : Int) + 4) = 1 + 4 * (pre.length : Int) + 4 := by unfold wrap64; omega
    have hput : (putP l).1 = strOfNums (((l.length : Int) % 256) :: flatI l) := by unfold putP; rw [if_pos hok]
    have hsz : ((putP l).1.size : Int) = 1 + 4 * (l.length : Int) := by rw [hput, strOfNums_size, List.length_cons, size_flat]; omega
    have hok' := hok
    simp only [okB, Bool.and_eq_true] at hok'
    simp at hk
    have hx : okP x.f0 x.f1 x.f2 x.f3 := rest_mem hok'.1 x (by rw [← hl]; simp)
    rw [prog_Get.l0, hw, if_pos (by omega), decide_eq_true (by omega), prog_Get.j1]
    simp only [if_true, hw]
    rw [if_pos (by omega), if_pos (by omega), if_pos (by omega)]
    have hext : (putP l).1.extract (1 + 4 * (pre.length : Int)).toNat (1 + 4 * (pre.length : Int) + 4).toNat = strOfNums (numsI x) := by
      rw [hput, extract_nums]
      congr 1
      have e1 : (1 + 4 * (pre.length : Int)).toNat = 4 * pre.length + 1 := by omega
      have e2 : (1 + 4 * (pre.length : Int) + 4).toNat = 4 * pre.length + 5 := by omega
      rw [e1, e2, List.drop_succ_cons, ← hl]
      have e3 : flatI (pre ++ x :: r) = flatI pre ++ (numsI x ++ flatI r) := by simp [flatI]
      have e4 : 4 * pre.length = (flatI pre).length := (size_flat pre).symm
      rw [e3, e4, List.drop_left]
      have e5 : (flatI pre).length + 5 - ((flatI pre).length + 1) = (numsI x).length := by simp [numsI]
      rw [e5, List.take_left]
    rw [hext]
    obtain ⟨k', rfl⟩ : ∃ m, k = m + 3 := ⟨k - 3, by omega⟩
    rw [get_nums k' x hx, Option.bind_some, if_pos rfl, if_pos (by omega)]
    have ih := back_loop l h16 hok r (pre ++ [x]) (k' + 3) (by simpa using hl) (by omega)
    have e : 1 + 4 * ((pre ++ [x]).length : Int) = 1 + 4 * (pre.length : Int) + 4 := by simp; omega
    rw [e] at ih
    exact ih


theorem GetBack (l : List S23) (k : Nat) (hok : okB l = true) (hk : 80 ≤ k) : prog_Get.f k (putP l).1 = some (l, 0) := by
  have h16 : l.length ≤ 16 := by
    simp only [okB, Bool.and_eq_true, decide_eq_true_eq] at hok
    omega
  unfold prog_Get.f
  exact back_loop l h16 hok l [] k rfl (by omega)

theorem same_loop (l : List S23) (hl : (l.length : Int) ≤ 9223372036854775807) : ∀ (r pre : List S23) (k : Nat), pre ++ r = l → r.length + 1 ≤ k → veillaw0_SameInsts.l0 k l l (pre.length : Int) = some true
  | [], pre, k + 1, h, _ => by
    subst h
    rw [veillaw0_SameInsts.l0, if_neg (by simp)]
  | x :: r, pre, k + 1, h, hk => by
    have hlt : (pre.length : Int) < (l.length : Int) := by rw [← h]; simp; omega
    have ih := same_loop l hl r (pre ++ [x]) k (by simpa using h) (by simp at hk; omega)
    rw [veillaw0_SameInsts.l0, if_pos hlt, if_pos (by omega), if_pos hlt, wrap_succ _ (by omega)]
    simp at ih ⊢
    exact ih
  | [], _, 0, _, hk => by omega
  | _ :: _, _, 0, _, hk => by omega
theorem SameP (l : List S23) (k : Nat) (hl : (l.length : Int) ≤ 9223372036854775807) (hk : l.length + 1 ≤ k) : veillaw0_SameInsts.f k l l = some true := by
  unfold veillaw0_SameInsts.f
  rw [if_pos rfl]
  exact same_loop l hl l [] k rfl hk

theorem awake (k : Nat) (hk : 80 ≤ k) : veillaw8_awake.f k = some true := by
  have h : veillaw8_awake.f 80 = some true := by decide +kernel
  obtain ⟨m, rfl⟩ : ∃ m, k = 80 + m := ⟨k - 80, by omega⟩
  clear hk
  induction m with
  | zero => exact h
  | succ m ih => exact veillaw8_awake.mono (80 + m) true ih
def allB (l : List S23) : Bool := l.all fun x => decide (okP x.f0 x.f1 x.f2 x.f3)
theorem rest_nj {n : Int} : ∀ (l : List S23) (i : Int), (∀ x ∈ l, x.f0 ≠ 4) → restB n l i = allB l
  | [], _, _ => rfl
  | x :: l, i, h => by
    have h4 : decide (x.f0 = 4) = false := decide_eq_false (h x (by simp))
    have ih := rest_nj (n := n) l (i + 1) (fun y hy => h y (List.mem_cons_of_mem _ hy))
    unfold restB goodB
    rw [ih, h4]
    simp [allB]
theorem okB_nj (l : List S23) (h : ∀ x ∈ l, x.f0 ≠ 4) : okB l = (allB l && decide ((l.length : Int) ≤ 16)) := by
  unfold okB; rw [rest_nj l 0 h]
theorem extract_one (x : Int) (xs : List Int) : (strOfNums (x :: xs)).extract 1 (strOfNums (x :: xs)).size = strOfNums xs := by
  rw [extract_nums, strOfNums_size]
  simp
theorem putP_ok {l : List S23} (h : okB l = true) : putP l = (strOfNums (((l.length : Int) % 256) :: flatI l), 0) := by unfold putP; rw [if_pos h]
theorem parts_end (l : List S23) (a : Int) (k : Nat) (hl : (l.length : Int) ≤ 9223372036854775807) (hk : l.length + 60 ≤ k) (hnj : ∀ x ∈ l, x.f0 ≠ 4) : veillaw8_ProgParts.l0 (k + 1) l a (l.length : Int) = some true := by
  have hm : IntKind.u64.wrap (wrap64 ((l.length : Int) + 1)) = (l.length : Int) + 1 := by
    unfold wrap64 IntKind.wrap; simp [IntKind.signed, IntKind.bits]; omega
  have hcut : ∃ c : Nat, wrap64 (Int.tmod (IntKind.u64.wrap a) ((l.length : Int) + 1)) = (c : Int) ∧ c ≤ l.length := by
    have h0 : 0 ≤ IntKind.u64.wrap a := by unfold IntKind.wrap; simp [IntKind.signed, IntKind.bits]; omega
    rw [Int.tmod_eq_emod_of_nonneg h0]
    have h1 := Int.emod_nonneg (IntKind.u64.wrap a) (show (l.length : Int) + 1 ≠ 0 by omega)
    have h2 := Int.emod_lt_of_pos (IntKind.u64.wrap a) (show 0 < (l.length : Int) + 1 by omega)
    refine ⟨(IntKind.u64.wrap a % ((l.length : Int) + 1)).toNat, ?_, by omega⟩
    unfold wrap64; omega
  obtain ⟨c, hc, hcl⟩ := hcut
  rw [veillaw8_ProgParts.l0, if_neg (by omega), hm, if_neg (by omega), hc]
  simp only [Int.toNat_natCast]
  have ht : (l.take c).length ≤ l.length := by simp; omega
  have hd : (l.drop c).length ≤ l.length := by simp
  have hnt : ∀ x ∈ l.take c, x.f0 ≠ 4 := fun x hx => hnj x (List.mem_of_mem_take hx)
  have hnd : ∀ x ∈ l.drop c, x.f0 ≠ 4 := fun x hx => hnj x (List.mem_of_mem_drop hx)
  rw [PutP l k hl (by omega), PutP (l.take c) k (by omega) (by omega), PutP (l.drop c) k (by omega) (by omega), Option.bind_some, if_pos (by omega), if_pos (by omega), Option.bind_some, Option.bind_some, Num, Option.bind_some]
  by_cases hok : okB l = true
  · have hok' := hok
    rw [okB_nj l hnj, Bool.and_eq_true, decide_eq_true_eq] at hok'
    have hall : allB (l.take c) = true ∧ allB (l.drop c) = true := by
      have := hok'.1
      rw [← List.take_append_drop c l] at this
      unfold allB at this ⊢
      rw [List.all_append, Bool.and_eq_true] at this
      exact this
    have hot : okB (l.take c) = true := by rw [okB_nj _ hnt, hall.1]; simp only [Bool.true_and, decide_eq_true_eq]; omega
    have hod : okB (l.drop c) = true := by rw [okB_nj _ hnd, hall.2]; simp only [Bool.true_and, decide_eq_true_eq]; omega
    rw [putP_ok hok, putP_ok hot, putP_ok hod]
    simp only [if_true, Num, Option.bind_some, strOfNums_size, List.length_cons]
    rw [if_neg (by omega), if_neg (by omega), decide_eq_false (by omega)]
    obtain ⟨k, rfl⟩ : ∃ m, k = m + 1 := ⟨k - 1, by omega⟩
    rw [veillaw8_ProgParts.j1]
    simp only [Bool.false_eq_true, if_false, extract_one]
    simp only [strOfNums_size, List.length_cons, size_flat, Int.toNat_natCast]
    rw [if_pos (by omega), if_pos (by omega), if_pos (by omega), if_pos (by omega)]
    have happ : strOfNums (flatI (l.take c)) ++ strOfNums (flatI (l.drop c)) = strOfNums (flatI l) := by
      rw [strOfNums_append]
      congr 1
      conv => rhs; rw [← List.take_append_drop c l]
      simp only [flatI, List.flatMap_append]
    rw [happ, if_pos rfl, if_pos (by omega), if_pos (by omega), MayP _ k (by omega) (by omega), Option.bind_some, hot, if_pos rfl, MayP _ k (by omega) (by omega), Option.bind_some, hod]
  · have hp : putP l = ((⟨#[]⟩ : ByteArray), 800) := by unfold putP; rw [if_neg hok]
    rw [hp, if_neg (by decide)]
    decide +kernel
theorem parts_loop (l : List S23) (a : Int) (hl : (l.length : Int) ≤ 9223372036854775807) : ∀ (r pre : List S23) (k : Nat), pre ++ r = l → r.length + l.length + 61 ≤ k → (∀ x ∈ pre, x.f0 ≠ 4) → veillaw8_ProgParts.l0 k l a (pre.length : Int) = some true
  | [], pre, k + 1, h, hk, hn => by
    simp at h
    subst h
    exact parts_end pre a k hl (by simp at hk; omega) hn
  | x :: r, pre, k + 1, h, hk, hn => by
    have hlt : (pre.length : Int) < (l.length : Int) := by rw [← h]; simp; omega
    have hrd : rd_T23 l (pre.length : Int) = x := by rw [← h]; exact rd_mid pre x r
    rw [veillaw8_ProgParts.l0, if_pos hlt, if_pos (by omega), hrd, wrap_succ _ (by omega)]
    by_cases h4 : x.f0 = 4
    · rw [if_pos h4]
    · rw [if_neg h4]
      have ih := parts_loop l a hl r (pre ++ [x]) k (by simpa using h) (by simp at hk; omega) (fun y hy => by
        rcases List.mem_append.1 hy with h | h
        · exact hn y h
        · simp at h; subst h; exact h4)
      simpa using ih
  | [], _, 0, _, hk, _ => by omega
  | _ :: _, _, 0, _, hk, _ => by omega
theorem ProgParts (l : List S23) (a : Int) (hl : l.length ≤ maxLen) (_ : ∀ x ∈ l, (Lit.int .i64 x.f0).wf = true ∧ (Lit.int .i64 x.f1).wf = true ∧ (Lit.int .i64 x.f2).wf = true ∧ (Lit.int .i64 x.f3).wf = true) (_ : (Lit.int .i64 a).wf = true) : ∃ k, veillaw8_ProgParts.f k l a = some true := by
  have hM : maxLen ≤ 9223372036854775807 := by decide
  refine ⟨2 * l.length + 200, ?_⟩
  unfold veillaw8_ProgParts.f
  rw [awake _ (by omega), Option.bind_some, if_pos rfl]
  exact parts_loop l a (by omega) l [] _ rfl (by omega) (by simp)

end Go.Proofs.Ytidedfhlocodgaa.Pure
