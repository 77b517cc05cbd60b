/- What the functions of this text do, told by an interpreter that is proved right (YtidedfhlocodgaaVA to VD). My own work. -/
import Derived.Test.YtidedfhlocodgaaVStE
namespace Vm
open Go Go.Proofs
set_option linter.unusedSimpArgs false
set_option linter.unusedVariables false
def sSpoilS : Spec := fun ds Q => match ds with
  | [.agg [.v (.int .i64 a0), .v (.int .i64 a1), .v (.int .i64 a2), .s 1 4 R sp, .v (.int .i64 a3), .v (.int .i64 a4), .v (.int .i64 a5), .v (.int .i64 a6), .v (.int .i64 a7), .v (.int .i64 a8), .v (.slice none 0 0), .v (.slice none 0 0), .v (.int .i64 a9), .v (.int .i64 a10), .v (.int .i64 a11), .v (.int .i64 a12), .v (.int .i64 a13)]] => cond (okZ 4 (R ++ sp)) (Q (.tup [])) False
  | [.agg [.v (.int .i64 a0), .v (.int .i64 a1), .v (.int .i64 a2), .v (.slice none 0 0), .v (.int .i64 a3), .v (.int .i64 a4), .v (.int .i64 a5), .v (.int .i64 a6), .v (.int .i64 a7), .v (.int .i64 a8), .v (.slice none 0 0), .v (.slice none 0 0), .v (.int .i64 a9), .v (.int .i64 a10), .v (.int .i64 a11), .v (.int .i64 a12), .v (.int .i64 a13)]] => Q (.tup [])
  | _ => False
def gS (l : List (FuncId × Spec)) : Hooks := { hkA band bor l [] with give := fun f => Nat.beq f 30 }
def askG (l : List (FuncId × Spec)) (fn : Func) (args : List DV) (K : DV → Prop) : Prop := evp Try.prog (gS l) 200 (bodyOf fn) (finX Try.prog fn K) (entryX fn.ntmps args)
theorem e7 (i g c : Int) (R : List (List D)) (K : DV → Prop) : (askG [(24, sLendInsts), (25, sSNew), (26, sSNew), (27, sSess), (20, sI), (28, sSMay), (29, sSMay), (30, sSpoilS), (31, sKeptInsts), (32, sT)] Try.f7 [dStart i g c R []] K) = (bif allV R && decide (List.length R ≤ 4398046510977) then bif decide (0 + List.length R ≤ List.length (R ++ markInsts)) then bif okZ (4) (cut (R ++ markInsts) (0) (List.length R)) && decide (List.length (cut (R ++ markInsts) (0) (List.length R)) ≤ 4398046510977) then bif smay i g c (toZ (cut (R ++ markInsts) (0) (List.length R))) then bif okZ (4) R && decide (List.length R ≤ 4398046510977) then bif smay i g c (toZ R) then bif decide (0 + List.length (cut (R ++ markInsts) (0) (List.length R)) ≤ List.length (cut (R ++ markInsts) (0) (List.length R) ++ [])) then bif decide (0 + List.length R ≤ List.length (R ++ [])) then bif okZ (4) (cut (cut (R ++ markInsts) (0) (List.length R) ++ []) (0) (List.length (cut (R ++ markInsts) (0) (List.length R)))) && okZ (4) (cut (R ++ []) (0) (List.length R)) && true then bif !sameSess [i, g, c, 0, 0, 0, 0, 0, 0, 0, 0, 0, 0, 0] [i, g, c, 0, 0, 0, 0, 0, 0, 0, 0, 0, 0, 0] (toZ (cut (cut (R ++ markInsts) (0) (List.length R) ++ []) (0) (List.length (cut (R ++ markInsts) (0) (List.length R))))) (toZ (cut (R ++ []) (0) (List.length R))) (toZ []) (toZ []) (toZ []) (toZ []) then K (DV.c (D.v (Value.bool false))) else bif decide (0 + List.length R ≤ List.length (R ++ markInsts)) then bif okZ (4) (cut (R ++ markInsts) (0) (List.length R)) then bif okZ (4) R then bif !smay i g c (toZ (cut (R ++ markInsts) (0) (List.length R))) == smay i g c (toZ R) then K (DV.c (D.v (Value.bool false))) else bif decide (List.length (cut (R ++ markInsts) (0) (List.length R)) ≤ List.length (cut (R ++ markInsts) (0) (List.length R) ++ [])) && List.all (cut (R ++ markInsts) (0) (List.length R) ++ []) fun r => List.all r D.keeps then bif allV (cut (R ++ markInsts) (0) (List.length R) ++ []) then bif okZ (4) (List.take (List.length (cut (R ++ markInsts) (0) (List.length R))) (cut (R ++ markInsts) (0) (List.length R) ++ []) ++ List.take (List.length (cut (R ++ markInsts) (0) (List.length R)) + 0 - List.length (cut (R ++ markInsts) (0) (List.length R))) (List.drop (List.length (cut (R ++ markInsts) (0) (List.length R))) (cut (R ++ markInsts) (0) (List.length R) ++ []))) then bif decide (0 + List.length R ≤ List.length (R ++ markInsts)) then (okZ (4) (cut (R ++ markInsts) (0) (List.length R)) = true ∧ Nat.le (List.length (cut (R ++ markInsts) (0) (List.length R))) (4398046510977) ∧ R = cut (R ++ markInsts) (0) (List.length R) ∧ cut (R ++ markInsts) (0 + List.length R) (List.length R + 2 - List.length R) = markInsts) ∧ K (DV.c (D.v (Value.bool true))) else False else False else False else False else False else False else False else False else False else False else bif decide (0 + List.length (cut (R ++ markInsts) (0) (List.length R)) ≤ List.length (cut (R ++ markInsts) (0) (List.length R) ++ [])) then bif okZ (4) (cut (cut (R ++ markInsts) (0) (List.length R) ++ []) (0) (List.length (cut (R ++ markInsts) (0) (List.length R)))) && true && true then bif !sameSess [i, g, c, 0, 0, 0, 0, 0, 0, 0, 0, 0, 0, 0] [0, 0, 0, 0, 0, 0, 0, 0, 0, 0, 0, 0, 0, 0] (toZ (cut (cut (R ++ markInsts) (0) (List.length R) ++ []) (0) (List.length (cut (R ++ markInsts) (0) (List.length R))))) (toZ []) (toZ []) (toZ []) (toZ []) (toZ []) then K (DV.c (D.v (Value.bool false))) else K (DV.c (D.v (Value.bool false))) else False else False else False else bif okZ (4) R && decide (List.length R ≤ 4398046510977) then bif smay i g c (toZ R) then bif decide (0 + List.length R ≤ List.length (R ++ [])) then bif true && okZ (4) (cut (R ++ []) (0) (List.length R)) && true then bif !sameSess [0, 0, 0, 0, 0, 0, 0, 0, 0, 0, 0, 0, 0, 0] [i, g, c, 0, 0, 0, 0, 0, 0, 0, 0, 0, 0, 0] (toZ []) (toZ (cut (R ++ []) (0) (List.length R))) (toZ []) (toZ []) (toZ []) (toZ []) then K (DV.c (D.v (Value.bool false))) else K (DV.c (D.v (Value.bool false))) else False else False else bif decide (0 + List.length R ≤ List.length (R ++ markInsts)) then bif okZ (4) (cut (R ++ markInsts) (0) (List.length R)) then bif okZ (4) R then bif !smay i g c (toZ (cut (R ++ markInsts) (0) (List.length R))) == smay i g c (toZ R) then K (DV.c (D.v (Value.bool false))) else bif decide (0 + List.length R ≤ List.length (R ++ markInsts)) then (okZ (4) (cut (R ++ markInsts) (0) (List.length R)) = true ∧ Nat.le (List.length (cut (R ++ markInsts) (0) (List.length R))) (4398046510977) ∧ R = cut (R ++ markInsts) (0) (List.length R) ∧ cut (R ++ markInsts) (0 + List.length R) (List.length R + 2 - List.length R) = markInsts) ∧ K (DV.c (D.v (Value.bool true))) else False else False else False else False else False else False else False else False) := by kernel_rfl
theorem e10 (i g c : Int) (R : List (List D)) (K : DV → Prop) : (askG [(25, sSNew), (27, sSess), (20, sI), (28, sSMay), (30, sSpoilS), (32, sT)] Try.f10 [dStart i g c R []] K) = (bif okZ (4) R && decide (List.length R ≤ 4398046510977) then bif smay i g c (toZ R) then bif okZ (4) R && decide (List.length R ≤ 4398046510977) then bif smay i g c (toZ R) then bif decide (0 + List.length R ≤ List.length (R ++ [])) then bif decide (0 + List.length R ≤ List.length (R ++ [])) then bif okZ (4) (cut (R ++ []) (0) (List.length R)) && okZ (4) (cut (R ++ []) (0) (List.length R)) && true then bif !sameSess [i, g, c, 0, 0, 0, 0, 0, 0, 0, 0, 0, 0, 0] [i, g, c, 0, 0, 0, 0, 0, 0, 0, 0, 0, 0, 0] (toZ (cut (R ++ []) (0) (List.length R))) (toZ (cut (R ++ []) (0) (List.length R))) (toZ []) (toZ []) (toZ []) (toZ []) then K (DV.c (D.v (Value.bool false))) else bif decide (List.length R ≤ List.length (R ++ [])) && List.all (R ++ []) fun r => List.all r D.keeps then bif allV (R ++ []) then bif okZ (4) (List.take (List.length R) (R ++ []) ++ List.take (List.length R + 0 - List.length R) (List.drop (List.length R) (R ++ []))) then bif okZ (4) R && decide (List.length R ≤ 4398046510977) then bif smay i g c (toZ R) then bif decide (0 + List.length R ≤ List.length (R ++ [])) then bif decide (0 + List.length R ≤ List.length (R ++ [])) then bif okZ (4) (cut (R ++ []) (0) (List.length R)) && okZ (4) (cut (R ++ []) (0) (List.length R)) && true then bif sameSess [i, g, c, 0, 0, 0, 0, 0, 0, 0, 0, 0, 0, 0] [i, g, c, 0, 0, 0, 0, 0, 0, 0, 0, 0, 0, 0] (toZ (cut (R ++ []) (0) (List.length R))) (toZ (cut (R ++ []) (0) (List.length R))) (toZ []) (toZ []) (toZ []) (toZ []) then bif okZ (4) R then K (DV.c (D.v (Value.bool ((0 == 0) == smay i g c (toZ R))))) else False else K (DV.c (D.v (Value.bool false))) else False else False else False else K (DV.c (D.v (Value.bool false))) else False else False else False else False else False else False else False else K (DV.c (D.v (Value.bool false))) else False else bif okZ (4) R && decide (List.length R ≤ 4398046510977) then bif smay i g c (toZ R) then K (DV.c (D.v (Value.bool false))) else bif okZ (4) R && decide (List.length R ≤ 4398046510977) then bif smay i g c (toZ R) then K (DV.c (D.v (Value.bool false))) else bif okZ (4) R then K (DV.c (D.v (Value.bool ((1100 == 0) == smay i g c (toZ R))))) else False else False else False else False) := by kernel_rfl
theorem e9 (an o : Int → Int → Int) (x : Int) (K : DV → Prop) : (askA an o Try.prog [(25, sSNew), (20, sI), (32, sT)] [] Try.f9 [I x] K) = (bif smay (an x (127)) (an x (3)) (an (Int.fdiv x (4)) (3)) (toZ []) then bif o (an x (3)) (an (Int.fdiv x (4)) (3)) != an (Int.fdiv x (4)) (3) then K (DV.c (D.v (Value.bool false))) else bif an x (3) == an x (3) then bif an (Int.fdiv x (4)) (3) == an (Int.fdiv x (4)) (3) then K (DV.c (D.v (Value.bool (0 == 0)))) else K (DV.c (D.v (Value.bool false))) else K (DV.c (D.v (Value.bool false))) else bif o (an x (3)) (an (Int.fdiv x (4)) (3)) != an (Int.fdiv x (4)) (3) then K (DV.c (D.v (Value.bool true))) else K (DV.c (D.v (Value.bool false)))) := by kernel_rfl
theorem eqI_self (a : List Int) : eqI a a = true := by rw [eqI_beq a a rfl]; simp
theorem sameSess_self (a : List Int) (p r w : List (List Int)) : sameSess a a p p r r w w = true := by simp [sameSess, eqI_self]
def gSp : Hooks := { hkA band bor [(40, sSpoilInsts), (58, sSpoilReads), (59, sSpoilWrites)] [] with give := fun _ => true }
theorem gSp_ok : CallsOK Try.prog gSp := hkl_ok (m := []) (.cons oSpoilInsts (.cons oSpoilReads (.cons oSpoilWrites .nil)))
def askSp (args : List DV) (K : DV → Prop) : Prop := evp Try.prog gSp 200 (bodyOf Try.f30) (finX Try.prog Try.f30 K) (entryX Try.f30.ntmps args)
theorem oSpoilS : SpecOK Try.prog 30 sSpoilS := o_of Try.func30 (by kernel_rfl) rfl fun ds Q h => by
  unfold sSpoilS at h; split at h
  · rename_i R sp _ _ _ _ _ _ _ _ _ _ _
    obtain ⟨h1, h2⟩ := cond_P h
    refine ⟨_, ct_of_evp gSp_ok mixed 200 Try.func30 rfl (loops_nil rfl) (Nat.le_of_ble_eq_true rfl) (by simp [DV.fit32, DV.width]) ?_, rfl, rfl, h2⟩
    show askSp _ _
    rw [show ∀ args K, askSp args K = evp Try.prog { hkA band bor [(40, sSpoilInsts), (58, sSpoilReads), (59, sSpoilWrites)] [] with give := fun _ => true } 200 (bodyOf Try.f30) (finX Try.prog Try.f30 K) (entryX Try.f30.ntmps args) from fun _ _ => rfl, eSpoil1]
    have hv := allV_ok h1
    have hk := keeps_of hv
    have hc : List.take R.length (R ++ sp) ++ List.take (R.length + sp.length - R.length) (List.drop R.length (R ++ sp)) = R ++ sp := by simp
    have ho : (((List.take R.length (R ++ sp) ++ List.take (R.length + sp.length - R.length) (List.drop R.length (R ++ sp))).all fun r => Nat.beq r.length 4 && r.all isI) && Nat.ble (List.take R.length (R ++ sp) ++ List.take (R.length + sp.length - R.length) (List.drop R.length (R ++ sp))).length 9223372036854775807) = true := by rw [hc]; exact h1
    have hle : R.length ≤ (R ++ sp).length := by simp
    rw [decide_eq_true hle, hk, hv]
    simp only [Bool.and_self, cond_true]
    exact (cond_eq_true_iff' ho).2 trivial
  · refine ⟨_, ct_of_evp gSp_ok mixed 200 Try.func30 rfl (loops_nil rfl) (Nat.le_of_ble_eq_true rfl) (by simp [DV.fit32, DV.width]) ?_, rfl, rfl, h⟩
    show askSp _ _
    rw [show ∀ args K, askSp args K = evp Try.prog { hkA band bor [(40, sSpoilInsts), (58, sSpoilReads), (59, sSpoilWrites)] [] with give := fun _ => true } 200 (bodyOf Try.f30) (finX Try.prog Try.f30 K) (entryX Try.f30.ntmps args) from fun _ _ => rfl, eSpoil0]
  · exact h.elim
theorem oAwS : SpecOK Try.prog 32 sT := o_of Try.func32 (by kernel_rfl) rfl fun ds Q h => by
  unfold sT at h; split at h
  · exact ⟨_, ct_ask (.cons oSNew (.cons oNum (.cons oSess (.cons oSMay .nil)))) mixed Try.func32 rfl rfl rfl (by rw [eAwS]), rfl, rfl, h⟩
  · exact h.elim
theorem c7 (i g c : Int) {R : List (List D)} (hR : okZ 4 R = true) (hl : R.length ≤ 4398046510977) : CT Try.prog 7 [dStart i g c R []] (B true) := by
  refine ct_of_evp (H := gS [(24, sLendInsts), (25, sSNew), (26, sSNew), (27, sSess), (20, sI), (28, sSMay), (29, sSMay), (30, sSpoilS), (31, sKeptInsts), (32, sT)])
    (hkl_ok (m := []) (.cons oLendInsts (.cons oSNew (.cons oRSNew (.cons oSess (.cons oNum (.cons oSMay (.cons oRSMay (.cons oSpoilS (.cons oKeptInsts (.cons oAwS .nil))))))))))) mixed 200 Try.func7 rfl (loops_nil rfl) (Nat.le_of_ble_eq_true rfl) rfl ?_
  show askG _ Try.f7 _ _
  rw [e7]
  have hv := allV_ok hR
  have hk := keeps_of hv
  have hc2 : cut (R ++ markInsts) (0 + R.length) (R.length + 2 - R.length) = markInsts := by
    rw [Nat.zero_add, Nat.add_sub_cancel_left]; exact cut_app2
  have hle : R.length ≤ (R ++ markInsts).length := by simp
  have ht : List.take R.length R ++ List.take (R.length + 0 - R.length) (List.drop R.length R) = R := by simp
  simp only [cut_app, hv, hl, hR, hk, Nat.zero_add, List.append_nil, hle, Nat.le_refl, cut_all (rfl : R.length = R.length), decide_true, Bool.and_self, cond_true, sameSess_self, Bool.not_true, cond_false, beq_self_eq_true, ht]
  have hc3 : cut (R ++ markInsts) R.length (R.length + 2 - R.length) = markInsts := by simpa using hc2
  cases hm : smay i g c (toZ R) with
  | true => exact ⟨⟨trivial, hl, trivial, hc3⟩, trivial⟩
  | false => exact ⟨⟨trivial, hl, trivial, hc3⟩, trivial⟩
theorem c10 (i g c : Int) {R : List (List D)} (hR : okZ 4 R = true) (hl : R.length ≤ 4398046510977) : CT Try.prog 10 [dStart i g c R []] (B true) := by
  refine ct_of_evp (H := gS [(25, sSNew), (27, sSess), (20, sI), (28, sSMay), (30, sSpoilS), (32, sT)])
    (hkl_ok (m := []) (.cons oSNew (.cons oSess (.cons oNum (.cons oSMay (.cons oSpoilS (.cons oAwS .nil))))))) mixed 200 Try.func10 rfl (loops_nil rfl) (Nat.le_of_ble_eq_true rfl) rfl ?_
  show askG _ Try.f10 _ _
  rw [e10]
  have hv := allV_ok hR
  have hk := keeps_of hv
  have ht : List.take R.length R ++ List.take (R.length + 0 - R.length) (List.drop R.length R) = R := by simp
  simp only [hv, hl, hR, hk, Nat.zero_add, List.append_nil, Nat.le_refl, cut_all (rfl : R.length = R.length), decide_true, Bool.and_self, cond_true, sameSess_self, Bool.not_true, cond_false, beq_self_eq_true, ht]
  cases hm : smay i g c (toZ R) with
  | true => exact (rfl : B true = B true)
  | false => exact (rfl : B true = B true)
theorem c9 (x : Int) : CT Try.prog 9 [I x] (B true) := by
  refine ct_askL (l := [(25, sSNew), (20, sI), (32, sT)]) (m := []) (.cons oSNew (.cons oNum (.cons oAwS .nil))) mixed (loops_nil rfl) Try.func9 rfl rfl rfl ?_
  show askA band bor Try.prog _ _ Try.f9 _ _
  rw [e9]
  have h1 : idm (band x 127) = true := by unfold idm upto; rw [mask7]; simp; omega
  have h2 : lab (band x 3) = true := by unfold lab upto; rw [mask2]; simp; omega
  have h3 : lab (band (Int.fdiv x 4) 3) = true := by unfold lab upto; rw [mask2]; simp; omega
  generalize band x 127 = i at *
  generalize band x 3 = a at *
  generalize band (Int.fdiv x 4) 3 = b at *
  have hs : smay i a b (toZ []) = und a b := by
    have : pmay (toZ []) = true := rfl
    simp [smay, h1, h2, h3, this]
  rw [hs]
  unfold und
  have hne : (bor a b != b) = !(bor a b == b) := rfl
  rw [hne]
  cases bor a b == b with
  | true => simp
  | false => simp
theorem starts_of {ds : List D} (h : GoodL [.int, .int, .int, .sl [.int, .int, .int, .int] 32] ds) : ∃ (i g c : Int) (R : List (List D)), ds = [vi i, vi g, vi c, .s 0 4 R []] ∧ okZ 4 R = true ∧ R.length ≤ 4398046510977 := by
  obtain ⟨d0, ds, rfl, h0, h⟩ := h.cons_inv
  obtain ⟨d1, ds, rfl, h1, h⟩ := h.cons_inv
  obtain ⟨d2, ds, rfl, h2, h⟩ := h.cons_inv
  obtain ⟨d3, ds, rfl, h3, h⟩ := h.cons_inv
  have := h.nil_inv
  subst this
  obtain ⟨i, rfl, _⟩ := h0.int_inv
  obtain ⟨g, rfl, _⟩ := h1.int_inv
  obtain ⟨c, rfl, _⟩ := h2.int_inv
  obtain ⟨R, rfl, hR, hl⟩ := Good.rows (z := 4) h3
  exact ⟨i, g, c, R, rfl, hR, by omega⟩
theorem c7' (ds : List D) (h : GoodL [.int, .int, .int, .sl [.int, .int, .int, .int] 32] ds) : CT Try.prog 7 [.agg ds] (B true) := by
  obtain ⟨i, g, c, R, rfl, hR, hl⟩ := starts_of h
  exact c7 i g c hR hl
theorem c10' (ds : List D) (h : GoodL [.int, .int, .int, .sl [.int, .int, .int, .int] 32] ds) : CT Try.prog 10 [.agg ds] (B true) := by
  obtain ⟨i, g, c, R, rfl, hR, hl⟩ := starts_of h
  exact c10 i g c hR hl
end Vm
