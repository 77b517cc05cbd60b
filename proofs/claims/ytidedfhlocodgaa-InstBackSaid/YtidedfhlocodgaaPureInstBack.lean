/- Proved: InstBack answers true for every instruction and every string. No condition. -/
import Derived.Test.YtidedfhlocodgaaPInstBackx5
import Derived.Laws.BytesArg
import Derived.Lib.Bytes
namespace Go.Proofs.Ytidedfhlocodgaa.Pure
open Go Go.RowKit Go.Proofs.Ytidedfhlocodgaa.PInstBack Go.Proofs.YtidedfhlocodgaaW.PrintWords Go.Proofs.YtidedfhlocodgaaW.PrintLast
set_option linter.unusedSimpArgs false

theorem Reg (b : Int) : regs_Reg.f b = some (decide (0 ≤ b ∧ b < 4)) := by
  unfold regs_Reg.f
  by_cases h : b ≥ 0
  · rw [if_pos h]; congr 1; simp; omega
  · rw [if_neg h]; congr 1; simp; omega
theorem Lab (b : Int) : label_May.f b = some (decide (0 ≤ b ∧ b < 4)) := by
  unfold label_May.f
  by_cases h : b ≥ 0
  · rw [if_pos h]; congr 1; simp; omega
  · rw [if_neg h]; congr 1; simp; omega
theorem Val (b : Int) : word_Value.f b = some (decide (0 ≤ b ∧ b ≤ 255)) := by
  unfold word_Value.f word_in.f
  by_cases h : b ≥ 0
  · rw [if_pos h]; simp; omega
  · rw [if_neg h]; simp; omega
def okP (a b c d : Int) : Prop := (a = 0 ∧ d = 0 ∧ (0 ≤ b ∧ b < 4) ∧ 0 ≤ c ∧ c ≤ 255) ∨ (a = 1 ∧ d = 0 ∧ (0 ≤ b ∧ b < 4) ∧ 0 ≤ c ∧ c < 4) ∨ ((a = 2 ∨ a = 3) ∧ (0 ≤ b ∧ b < 4) ∧ (0 ≤ c ∧ c < 4) ∧ 0 ≤ d ∧ d < 4) ∨ (a = 4 ∧ d = 0 ∧ (0 ≤ b ∧ b < 4) ∧ 0 ≤ c ∧ c ≤ 16) ∨ (a = 5 ∧ b = 0 ∧ c = 0 ∧ d = 0) ∨ (a = 6 ∧ c = 0 ∧ d = 0 ∧ 0 ≤ b ∧ b ≤ 255)
instance (a b c d : Int) : Decidable (okP a b c d) := by unfold okP; infer_instance
theorem May (k : Nat) (a b c d : Int) : inst_May.f (k + 3) a b c d = some (decide (okP a b c d)) := by
  unfold inst_May.f inst_names.f okP
  by_cases h0 : a = 0
  · subst h0
    simp [inst_names.j0, inst_names.j1, inst_May.j0, Reg, Lab, Val]
    by_cases hd : d = 0 <;> by_cases hb : 0 ≤ b ∧ b < 4 <;> simp [hd, hb] <;> (intros; omega)
  by_cases h1 : a = 1
  · subst h1
    simp [inst_names.j0, inst_names.j1, inst_May.j0, Reg, Lab, Val]
    by_cases hd : d = 0 <;> by_cases hb : 0 ≤ b ∧ b < 4 <;> simp [hd, hb] <;> (intros; omega)
  by_cases h2 : a = 2
  · subst h2
    simp [inst_names.j0, inst_names.j1, inst_May.j0, Reg, Lab, Val]
    by_cases hb : 0 ≤ b ∧ b < 4 <;> by_cases hc : 0 ≤ c ∧ c < 4 <;> by_cases hd : 0 ≤ d <;> simp [hd, hb, hc] <;> (intros; omega)
  by_cases h3 : a = 3
  · subst h3
    simp [inst_names.j0, inst_names.j1, inst_May.j0, Reg, Lab, Val]
    by_cases hb : 0 ≤ b ∧ b < 4 <;> by_cases hc : 0 ≤ c ∧ c < 4 <;> by_cases hd : 0 ≤ d <;> simp [hd, hb, hc] <;> (intros; omega)
  by_cases h4 : a = 4
  · subst h4
    simp [inst_names.j0, inst_names.j1, inst_May.j0, Reg, Lab, Val]
    by_cases hb : 0 ≤ b ∧ b < 4 <;> by_cases hc : 0 ≤ c <;> by_cases hd : d = 0 <;> simp [hd, hb, hc] <;> (intros; omega)
  by_cases h5 : a = 5
  · subst h5
    simp [inst_names.j0, inst_names.j1, inst_May.j0, Reg, Lab, Val]
    by_cases hb : b = 0 <;> by_cases hc : c = 0 <;> by_cases hd : d = 0 <;> simp [hd, hb, hc] <;> (intros; omega)
  by_cases h6 : a = 6
  · subst h6
    simp [inst_names.j0, inst_names.j1, inst_May.j0, Reg, Lab, Val]
    by_cases hc : c = 0 <;> by_cases hd : d = 0 <;> simp [hd, hc] <;> (intros; omega)
  · simp [inst_names.j0, inst_names.j1, inst_May.j0, Reg, Lab, Val, h0, h1, h2, h3, h4, h5, h6]

theorem Num (x : Int) : veillaw0_Num.f x = some x := rfl
theorem Put (k : Nat) (a b c d : Int) : inst_Put.f (k + 3) a b c d = if okP a b c d then some (strOfNums [a % 256, b % 256, c % 256, d % 256], 0) else some ((⟨#[]⟩ : ByteArray), 700) := by
  unfold inst_Put.f
  rw [May]
  by_cases h : okP a b c d <;> simp [h]
theorem w64 (x : Int) (h : 0 ≤ x ∧ x ≤ 255) : wrap64 x = x := by unfold wrap64; omega
theorem Get (k : Nat) (s : ByteArray) : inst_Get.f (k + 3) s = if s.size = 4 then (if okP (bt s 0) (bt s 1) (bt s 2) (bt s 3) then some (bt s 0, bt s 1, bt s 2, bt s 3, 0) else some (0, 0, 0, 0, 700)) else some (0, 0, 0, 0, 700) := by
  unfold inst_Get.f
  by_cases h : s.size = 4
  · rw [if_pos h, if_pos (by omega), if_pos (by omega), if_pos (by omega), if_pos (by omega), if_pos (by omega)]
    rw [w64 _ (bt_range s 0), w64 _ (bt_range s 1), w64 _ (bt_range s 2), w64 _ (bt_range s 3), May]
    by_cases h' : okP (bt s 0) (bt s 1) (bt s 2) (bt s 3) <;> simp [h']
  · rw [if_neg h, if_neg (by omega)]
theorem bt_nums (xs : List Int) (i : Nat) (x : Int) (hx : xs[i]? = some x) (h0 : 0 ≤ x ∧ x ≤ 255) : bt (strOfNums xs) (i : Int) = x := by
  have hi : i < xs.length := (List.getElem?_eq_some_iff.1 hx).1
  have he : xs[i] = x := (List.getElem?_eq_some_iff.1 hx).2
  unfold bt
  have hsz : ((i : Int)).toNat < (strOfNums xs).size := by rw [strOfNums_size]; simpa using hi
  rw [dif_pos hsz]
  have : (strOfNums xs)[(i : Int).toNat]'hsz = UInt8.ofNat x.toNat := by
    simp [strOfNums, ByteArray.getElem_eq_getElem_data, he]
  rw [this]
  simp [UInt8.toNat_ofNat']
  omega
theorem nums_bt (s : ByteArray) (h : s.size = 4) : (strOfNums [bt s 0 % 256, bt s 1 % 256, bt s 2 % 256, bt s 3 % 256]).toList = s.toList := by
  obtain ⟨⟨l⟩⟩ := s
  have hl : l.length = 4 := h
  match l, hl with
  | [x, y, z, t], _ =>
    congr 1
    have e : ∀ x : UInt8, UInt8.ofNat ((x.toNat : Int) % 256).toNat = x := fun x => by
      have := x.toNat_lt
      have e1 : ((x.toNat : Int) % 256).toNat = x.toNat := by omega
      rw [e1]; simp
    show (⟨#[UInt8.ofNat ((x.toNat : Int) % 256).toNat, UInt8.ofNat ((y.toNat : Int) % 256).toNat, UInt8.ofNat ((z.toNat : Int) % 256).toNat, UInt8.ofNat ((t.toNat : Int) % 256).toNat]⟩ : ByteArray) = _
    rw [e, e, e, e]
theorem okP_bytes {a b c d : Int} (h : okP a b c d) : (0 ≤ a ∧ a ≤ 255) ∧ (0 ≤ b ∧ b ≤ 255) ∧ (0 ≤ c ∧ c ≤ 255) ∧ 0 ≤ d ∧ d ≤ 255 := by
  unfold okP at h; omega
theorem awake : veillaw7_awake.f 30 = some true := by decide +kernel
theorem back (s : ByteArray) : veillaw7_InstBack.j0 30 s = some true := by
  rw [veillaw7_InstBack.j0, show (29 : Nat) = 26 + 3 from rfl, Get]
  by_cases h : s.size = 4
  · by_cases h' : okP (bt s 0) (bt s 1) (bt s 2) (bt s 3)
    · simp [h, h', Num, Put, May, nums_bt s h]
    · simp [h, h', Num]
  · simp [h, Num]
theorem InstBack (a b c d : Int) (s : ByteArray) (_ : (Lit.int .i64 a).wf = true) (_ : (Lit.int .i64 b).wf = true) (_ : (Lit.int .i64 c).wf = true) (_ : (Lit.int .i64 d).wf = true) : ∃ k, veillaw7_InstBack.f k a b c d s = some true := by
  refine ⟨30, ?_⟩
  unfold veillaw7_InstBack.f
  rw [awake, show (30 : Nat) = 27 + 3 from rfl, Put]
  by_cases h : okP a b c d
  · obtain ⟨ha, hb, hc, hd⟩ := okP_bytes h
    have em : ∀ x : Int, 0 ≤ x ∧ x ≤ 255 → x % 256 = x := fun x hx => by omega
    rw [if_pos h, em a ha, em b hb, em c hc, em d hd]
    have b0 : bt (strOfNums [a, b, c, d]) 0 = a := bt_nums [a, b, c, d] 0 a rfl ha
    have b1 : bt (strOfNums [a, b, c, d]) 1 = b := bt_nums [a, b, c, d] 1 b rfl hb
    have b2 : bt (strOfNums [a, b, c, d]) 2 = c := bt_nums [a, b, c, d] 2 c rfl hc
    have b3 : bt (strOfNums [a, b, c, d]) 3 = d := bt_nums [a, b, c, d] 3 d rfl hd
    have hs : (strOfNums [a, b, c, d]).size = 4 := by rw [strOfNums_size]; rfl
    have bk := back s
    simp only [Option.bind_some, if_true, Num, Get, hs, b0, b1, b2, b3, h]
    simp [bk]
  · have bk := back s
    simp only [Option.bind_some, if_true, Num, h, if_false]
    simp [bk]
end Go.Proofs.Ytidedfhlocodgaa.Pure
