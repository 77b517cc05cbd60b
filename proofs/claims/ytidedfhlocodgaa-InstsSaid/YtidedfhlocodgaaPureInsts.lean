/- Proved: Insts answers true for every two instructions and every string. No condition. -/
import Derived.Test.YtidedfhlocodgaaPInstsx7
import Derived.Laws.BytesArg
import Derived.Lib.Bytes
namespace Go.Proofs.Ytidedfhlocodgaa.Pure
open Go Go.RowKit Go.Proofs.Ytidedfhlocodgaa.PInsts Go.Proofs.YtidedfhlocodgaaW.PrintWords Go.Proofs.YtidedfhlocodgaaW.PrintLast
set_option linter.unusedSimpArgs false

theorem Reg (b : Int) : regs_Reg.f b = some (decide (0 ≤ b ∧ b < 4)) := by
  unfold regs_Reg.f
  by_cases h : b ≥ 0
  · rw [if_pos h]; congr 1; simp; omega
  · rw [if_neg h]; congr 1; simp; omega
theorem Lab (b : Int) : label_May.f b = some (decide (0 ≤ b ∧ b < 4)) := by
  unfold label_May.f
  by_cases h : b ≥ 0
  · rw [if_pos h]; congr 1; simp; omega
  · rw [if_neg h]; congr 1; simp; omega
theorem Val (b : Int) : word_Value.f b = some (decide (0 ≤ b ∧ b ≤ 255)) := by
  unfold word_Value.f word_in.f
  by_cases h : b ≥ 0
  · rw [if_pos h]; simp; omega
  · rw [if_neg h]; simp; omega
def okP (a b c d : Int) : Prop := (a = 0 ∧ d = 0 ∧ (0 ≤ b ∧ b < 4) ∧ 0 ≤ c ∧ c ≤ 255) ∨ (a = 1 ∧ d = 0 ∧ (0 ≤ b ∧ b < 4) ∧ 0 ≤ c ∧ c < 4) ∨ ((a = 2 ∨ a = 3) ∧ (0 ≤ b ∧ b < 4) ∧ (0 ≤ c ∧ c < 4) ∧ 0 ≤ d ∧ d < 4) ∨ (a = 4 ∧ d = 0 ∧ (0 ≤ b ∧ b < 4) ∧ 0 ≤ c ∧ c ≤ 16) ∨ (a = 5 ∧ b = 0 ∧ c = 0 ∧ d = 0) ∨ (a = 6 ∧ c = 0 ∧ d = 0 ∧ 0 ≤ b ∧ b ≤ 255)
instance (a b c d : Int) : Decidable (okP a b c d) := by unfold okP; infer_instance
theorem May (k : Nat) (a b c d : Int) : inst_May.f (k + 3) a b c d = some (decide (okP a b c d)) := by
  unfold inst_May.f inst_names.f okP
  by_cases h0 : a = 0
  · subst h0
    simp [inst_names.j0, inst_names.j1, inst_May.j0, Reg, Lab, Val]
    by_cases hd : d = 0 <;> by_cases hb : 0 ≤ b ∧ b < 4 <;> simp [hd, hb] <;> (intros; omega)
  by_cases h1 : a = 1
  · subst h1
    simp [inst_names.j0, inst_names.j1, inst_May.j0, Reg, Lab, Val]
    by_cases hd : d = 0 <;> by_cases hb : 0 ≤ b ∧ b < 4 <;> simp [hd, hb] <;> (intros; omega)
  by_cases h2 : a = 2
  · subst h2
    simp [inst_names.j0, inst_names.j1, inst_May.j0, Reg, Lab, Val]
    by_cases hb : 0 ≤ b ∧ b < 4 <;> by_cases hc : 0 ≤ c ∧ c < 4 <;> by_cases hd : 0 ≤ d <;> simp [hd, hb, hc] <;> (intros; omega)
  by_cases h3 : a = 3
  · subst h3
    simp [inst_names.j0, inst_names.j1, inst_May.j0, Reg, Lab, Val]
    by_cases hb : 0 ≤ b ∧ b < 4 <;> by_cases hc : 0 ≤ c ∧ c < 4 <;> by_cases hd : 0 ≤ d <;> simp [hd, hb, hc] <;> (intros; omega)
  by_cases h4 : a = 4
  · subst h4
    simp [inst_names.j0, inst_names.j1, inst_May.j0, Reg, Lab, Val]
    by_cases hb : 0 ≤ b ∧ b < 4 <;> by_cases hc : 0 ≤ c <;> by_cases hd : d = 0 <;> simp [hd, hb, hc] <;> (intros; omega)
  by_cases h5 : a = 5
  · subst h5
    simp [inst_names.j0, inst_names.j1, inst_May.j0, Reg, Lab, Val]
    by_cases hb : b = 0 <;> by_cases hc : c = 0 <;> by_cases hd : d = 0 <;> simp [hd, hb, hc] <;> (intros; omega)
  by_cases h6 : a = 6
  · subst h6
    simp [inst_names.j0, inst_names.j1, inst_May.j0, Reg, Lab, Val]
    by_cases hc : c = 0 <;> by_cases hd : d = 0 <;> simp [hd, hc] <;> (intros; omega)
  · simp [inst_names.j0, inst_names.j1, inst_May.j0, Reg, Lab, Val, h0, h1, h2, h3, h4, h5, h6]

theorem Num (x : Int) : veillaw0_Num.f x = some x := rfl
theorem Put (k : Nat) (a b c d : Int) : inst_Put.f (k + 3) a b c d = if okP a b c d then some (strOfNums [a % 256, b % 256, c % 256, d % 256], 0) else some ((⟨#[]⟩ : ByteArray), 700) := by
  unfold inst_Put.f
  rw [May]
  by_cases h : okP a b c d <;> simp [h]
theorem w64 (x : Int) (h : 0 ≤ x ∧ x ≤ 255) : wrap64 x = x := by unfold wrap64; omega
theorem Get (k : Nat) (s : ByteArray) : inst_Get.f (k + 3) s = if s.size = 4 then (if okP (bt s 0) (bt s 1) (bt s 2) (bt s 3) then some (bt s 0, bt s 1, bt s 2, bt s 3, 0) else some (0, 0, 0, 0, 700)) else some (0, 0, 0, 0, 700) := by
  unfold inst_Get.f
  by_cases h : s.size = 4
  · rw [if_pos h, if_pos (by omega), if_pos (by omega), if_pos (by omega), if_pos (by omega), if_pos (by omega)]
    rw [w64 _ (bt_range s 0), w64 _ (bt_range s 1), w64 _ (bt_range s 2), w64 _ (bt_range s 3), May]
    by_cases h' : okP (bt s 0) (bt s 1) (bt s 2) (bt s 3) <;> simp [h']
  · rw [if_neg h, if_neg (by omega)]
theorem bt_nums (xs : List Int) (i : Nat) (x : Int) (hx : xs[i]? = some x) (h0 : 0 ≤ x ∧ x ≤ 255) : bt (strOfNums xs) (i : Int) = x := by
  have hi : i < xs.length := (List.getElem?_eq_some_iff.1 hx).1
  have he : xs[i] = x := (List.getElem?_eq_some_iff.1 hx).2
  unfold bt
  have hsz : ((i : Int)).toNat < (strOfNums xs).size := by rw [strOfNums_size]; simpa using hi
  rw [dif_pos hsz]
  have : (strOfNums xs)[(i : Int).toNat]'hsz = UInt8.ofNat x.toNat := by
    simp [strOfNums, ByteArray.getElem_eq_getElem_data, he]
  rw [this]
  simp [UInt8.toNat_ofNat']
  omega
theorem nums_bt (s : ByteArray) (h : s.size = 4) : (strOfNums [bt s 0 % 256, bt s 1 % 256, bt s 2 % 256, bt s 3 % 256]).toList = s.toList := by
  obtain ⟨⟨l⟩⟩ := s
  have hl : l.length = 4 := h
  match l, hl with
  | [x, y, z, t], _ =>
    congr 1
    have e : ∀ x : UInt8, UInt8.ofNat ((x.toNat : Int) % 256).toNat = x := fun x => by
      have := x.toNat_lt
      have e1 : ((x.toNat : Int) % 256).toNat = x.toNat := by omega
      rw [e1]; simp
    show (⟨#[UInt8.ofNat ((x.toNat : Int) % 256).toNat, UInt8.ofNat ((y.toNat : Int) % 256).toNat, UInt8.ofNat ((z.toNat : Int) % 256).toNat, UInt8.ofNat ((t.toNat : Int) % 256).toNat]⟩ : ByteArray) = _
    rw [e, e, e, e]
theorem okP_bytes {a b c d : Int} (h : okP a b c d) : (0 ≤ a ∧ a ≤ 255) ∧ (0 ≤ b ∧ b ≤ 255) ∧ (0 ≤ c ∧ c ≤ 255) ∧ 0 ≤ d ∧ d ≤ 255 := by
  unfold okP at h; omega

theorem awake (k : Nat) (hk : k = 29) : veillaw7_awake.f k = some true := by subst hk; decide +kernel
theorem upTo (b m : Int) : veilref1_upTo.f b 0 m = some (decide (0 ≤ b ∧ b ≤ m)) := by
  unfold veilref1_upTo.f
  by_cases h : b ≥ 0
  · rw [if_pos h]; simp; omega
  · rw [if_neg h]; simp; omega
theorem u3 (b : Int) : veilref1_upTo.f b 0 3 = some (decide (0 ≤ b ∧ b < 4)) := by
  rw [upTo]; congr 2; apply propext; omega
theorem RefMay (k : Nat) (a b c d : Int) : veilref1_InstMay.f (k + 1) a b c d = some (decide (okP a b c d)) := by
  have e3 : ∀ x : Int, decide (0 ≤ x ∧ x ≤ 3) = decide (0 ≤ x ∧ x < 4) := fun x => by congr 1; apply propext; omega
  unfold veilref1_InstMay.f okP
  by_cases h0 : a = 0
  · subst h0
    simp [veilref1_regMay.f, veilref1_ValueMay.f, upTo]
    by_cases hb : 0 ≤ b ∧ b ≤ 3 <;> by_cases hc : 0 ≤ c ∧ c ≤ 255 <;> simp [hb, hc] <;> by_cases hd : d = 0 <;> simp [hd] <;> (intros; omega)
  by_cases h1 : a = 1
  · subst h1
    simp [veilref1_regMay.f, veilref1_ValueMay.f, upTo]
    by_cases hb : 0 ≤ b ∧ b ≤ 3 <;> by_cases hc : 0 ≤ c ∧ c ≤ 3 <;> simp [hb, hc] <;> by_cases hd : d = 0 <;> simp [hd] <;> (intros; omega)
  by_cases h2 : a = 2
  · subst h2
    simp [veilref1_InstMay.j0, veilref1_regMay.f, veilref1_LabelMay.f, u3]
    by_cases hb : 0 ≤ b ∧ b < 4 <;> by_cases hc : 0 ≤ c ∧ c < 4 <;> by_cases hd : 0 ≤ d ∧ d < 4 <;> simp [hb, hc, hd] <;> (intros; omega)
  by_cases h3 : a = 3
  · subst h3
    simp [veilref1_InstMay.j0, veilref1_regMay.f, veilref1_LabelMay.f, u3]
    by_cases hb : 0 ≤ b ∧ b < 4 <;> by_cases hc : 0 ≤ c ∧ c < 4 <;> by_cases hd : 0 ≤ d ∧ d < 4 <;> simp [hb, hc, hd] <;> (intros; omega)
  by_cases h4 : a = 4
  · subst h4
    simp [veilref1_InstMay.j0, veilref1_regMay.f, veilref1_LabelMay.f, upTo]
    by_cases hb : 0 ≤ b ∧ b ≤ 3 <;> by_cases hc : 0 ≤ c ∧ c ≤ 16 <;> simp [hb, hc] <;> by_cases hd : d = 0 <;> simp [hd] <;> (intros; omega)
  by_cases h5 : a = 5
  · subst h5
    simp [veilref1_InstMay.j0, upTo]
    by_cases hb : b = 0 <;> by_cases hc : c = 0 <;> by_cases hd : d = 0 <;> simp [hb, hc, hd]
  by_cases h6 : a = 6
  · subst h6
    simp [veilref1_InstMay.j0, veilref1_ValueMay.f, upTo]
    by_cases hb : 0 ≤ b ∧ b ≤ 255 <;> by_cases hc : c = 0 <;> by_cases hd : d = 0 <;> simp [hb, hc, hd] <;> (intros; omega)
  · simp [veilref1_InstMay.j0, h0, h1, h2, h3, h4, h5, h6]
noncomputable def putv (a b c d : Int) : ByteArray × Int := if okP a b c d then (strOfNums [a % 256, b % 256, c % 256, d % 256], 0) else ((⟨#[]⟩ : ByteArray), 700)
noncomputable def getv (s : ByteArray) : Int × Int × Int × Int × Int := if s.size = 4 then (if okP (bt s 0) (bt s 1) (bt s 2) (bt s 3) then (bt s 0, bt s 1, bt s 2, bt s 3, 0) else (0, 0, 0, 0, 700)) else (0, 0, 0, 0, 700)
theorem Put1 (k : Nat) (a b c d : Int) : inst_Put.f (k + 3) a b c d = some (putv a b c d) := by
  rw [Put]; unfold putv; split <;> rfl
theorem Put2 (k : Nat) (a b c d : Int) : veilref1_PutInst.f (k + 1) a b c d = some (putv a b c d) := by
  unfold veilref1_PutInst.f putv
  rw [RefMay]
  by_cases h : okP a b c d <;> simp [h]
theorem Get1 (k : Nat) (s : ByteArray) : inst_Get.f (k + 3) s = some (getv s) := by
  rw [Get]; unfold getv; split
  · split <;> rfl
  · rfl
theorem Get2 (k : Nat) (s : ByteArray) : veilref1_GetInst.f (k + 1) s = some (getv s) := by
  unfold veilref1_GetInst.f getv
  by_cases h : s.size = 4
  · rw [if_pos h, if_pos (by omega), if_pos (by omega), if_pos (by omega), if_pos (by omega), if_pos (by omega)]
    rw [w64 _ (bt_range s 0), w64 _ (bt_range s 1), w64 _ (bt_range s 2), w64 _ (bt_range s 3), RefMay]
    by_cases h' : okP (bt s 0) (bt s 1) (bt s 2) (bt s 3) <;> simp [h']
  · rw [if_neg h, if_neg (by omega)]
theorem toList_inj {x y : ByteArray} (h : x.toList = y.toList) : x = y := by
  have hx : x.toList = x.data.toList := Lib.toList_data x
  have hy : y.toList = y.data.toList := Lib.toList_data y
  rw [hx, hy] at h
  cases x; cases y
  congr 1
  exact Array.ext' h
theorem put_inj {a b c d a' b' c' d' : Int} (h : okP a b c d) (h' : okP a' b' c' d') : (((putv a b c d).1.toList == (putv a' b' c' d').1.toList) == (a == a' && (b == b' && (c == c' && (d == d'))))) = true := by
  obtain ⟨ha, hb, hc, hd⟩ := okP_bytes h
  obtain ⟨ha', hb', hc', hd'⟩ := okP_bytes h'
  have em : ∀ x : Int, 0 ≤ x ∧ x ≤ 255 → x % 256 = x := fun x hx => by omega
  unfold putv
  rw [if_pos h, if_pos h', em a ha, em b hb, em c hc, em d hd, em a' ha', em b' hb', em c' hc', em d' hd']
  by_cases he : a = a' ∧ b = b' ∧ c = c' ∧ d = d'
  · obtain ⟨rfl, rfl, rfl, rfl⟩ := he
    simp
  · have h1 : ¬ (strOfNums [a, b, c, d]).toList = (strOfNums [a', b', c', d']).toList := fun e => by
      have e' := toList_inj e
      have b0 : bt (strOfNums [a, b, c, d]) 0 = a := bt_nums [a, b, c, d] 0 a rfl ha
      have b1 : bt (strOfNums [a, b, c, d]) 1 = b := bt_nums [a, b, c, d] 1 b rfl hb
      have b2 : bt (strOfNums [a, b, c, d]) 2 = c := bt_nums [a, b, c, d] 2 c rfl hc
      have b3 : bt (strOfNums [a, b, c, d]) 3 = d := bt_nums [a, b, c, d] 3 d rfl hd
      have g0 : bt (strOfNums [a', b', c', d']) 0 = a' := bt_nums [a', b', c', d'] 0 a' rfl ha'
      have g1 : bt (strOfNums [a', b', c', d']) 1 = b' := bt_nums [a', b', c', d'] 1 b' rfl hb'
      have g2 : bt (strOfNums [a', b', c', d']) 2 = c' := bt_nums [a', b', c', d'] 2 c' rfl hc'
      have g3 : bt (strOfNums [a', b', c', d']) 3 = d' := bt_nums [a', b', c', d'] 3 d' rfl hd'
      rw [e'] at b0 b1 b2 b3
      exact he ⟨b0.symm.trans g0, b1.symm.trans g1, b2.symm.trans g2, b3.symm.trans g3⟩
    have h2 : (a == a' && (b == b' && (c == c' && (d == d')))) = false := by
      simp only [Bool.and_eq_false_iff, beq_eq_false_iff_ne]
      omega
    rw [h2]
    simp only [beq_eq_false_iff_ne.2 h1]
    rfl
theorem putv_zero {a b c d : Int} (h : (putv a b c d).2 = 0) : okP a b c d := by
  unfold putv at h
  by_cases h' : okP a b c d
  · exact h'
  · rw [if_neg h'] at h; cases h
theorem Insts (a b c d a' b' c' d' : Int) (s : ByteArray) (_ : (Lit.int .i64 a).wf = true) (_ : (Lit.int .i64 b).wf = true) (_ : (Lit.int .i64 c).wf = true) (_ : (Lit.int .i64 d).wf = true) (_ : (Lit.int .i64 a').wf = true) (_ : (Lit.int .i64 b').wf = true) (_ : (Lit.int .i64 c').wf = true) (_ : (Lit.int .i64 d').wf = true) (_ : s.size ≤ maxLen) : ∃ k, veillaw7_Insts.f k a b c d a' b' c' d' s = some true := by
  refine ⟨30, ?_⟩
  unfold veillaw7_Insts.f
  have p1 := Put1 27 a b c d
  have p2 := Put2 29 a b c d
  have p3 := Put1 27 a' b' c' d'
  have g1 := Get1 27 s
  have g2 := Get2 29 s
  have m1 := May 27 a b c d
  have m2 := RefMay 29 a b c d
  simp only [Nat.reduceAdd] at p1 p2 p3 g1 g2 m1 m2
  simp only [p1, p2, p3, g1, g2, m1, m2, Option.bind_some, Num, if_true, beq_self_eq_true, Bool.not_true, Bool.or_self, Bool.false_eq_true, if_false, bne_self_eq_false]
  rw [veillaw7_Insts.j0]
  simp only [Num, Option.bind_some, awake 29 rfl, Bool.false_eq_true, if_false]
  by_cases h : (putv a b c d).2 = 0
  · by_cases h' : (putv a' b' c' d').2 = 0
    · rw [if_pos h, if_pos h', if_pos (put_inj (putv_zero h) (putv_zero h'))]
    · rw [if_pos h, if_neg h']
  · rw [if_neg h]
end Go.Proofs.Ytidedfhlocodgaa.Pure
