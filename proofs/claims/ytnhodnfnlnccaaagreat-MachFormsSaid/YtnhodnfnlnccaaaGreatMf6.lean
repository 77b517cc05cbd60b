/- An interpreter for Go's texts over plain data, its proof, and what it says of the functions that the law reaches. My own work. -/
import Derived.Test.YtnhodnfnlnccaaaGreatMf5
namespace Vm
section
set_option maxHeartbeats 2000000
open Go Go.Proofs
set_option linter.unusedSimpArgs false
set_option linter.unusedVariables false
set_option maxRecDepth 100000
def aSl (z : Nat) (d : DV) (K : List (List D) → Prop) : Prop := match d with
  | .c d => cond d.isOwn False (takeS z d K)
  | _ => False
theorem aSl_spec {z : Nat} {d : DV} {K : List (List D) → Prop} (h : aSl z d K) : ∃ R, K R ∧ AL d (.c (.s 0 z R [])) := by
  unfold aSl at h; split at h
  · rename_i d
    cases hd : d.isOwn with
    | true => rw [hd] at h; exact h.elim
    | false =>
      rw [hd] at h
      obtain ⟨R, h, r⟩ := takeS_spec h
      exact ⟨R, h, .c r hd rfl⟩
  · exact h.elim
theorem al_refls : ∀ l : List DV, All2 AL l l
  | [] => .nil
  | d :: l => .cons (.refl d) (al_refls l)
def sL1 (z : Nat) (s : Spec) : Spec := fun ds Q => match ds with
  | d :: l => aSl z d fun R => s (.c (.s 0 z R []) :: l) Q
  | _ => False
theorem oL1 {P : Program} {f : FuncId} {s : Spec} (z : Nat) (h : SpecOK P f s) : SpecOK P f (sL1 z s) := spec_al h fun ds Q hq => by
  unfold sL1 at hq; split at hq
  · obtain ⟨R, hq, r⟩ := aSl_spec hq
    exact ⟨_, .cons r (al_refls _), hq⟩
  · exact hq.elim
def sL2 (z : Nat) (s : Spec) : Spec := fun ds Q => match ds with
  | .agg cs :: e :: l => cond (noOwn cs && Nat.beq cs.length 4) (takeW4 cs fun R0 R1 R2 R3 => aSl z e fun R => s (.agg (wsL R0 R1 R2 R3) :: .c (.s 0 z R []) :: l) Q) False
  | _ => False
theorem oL2 {P : Program} {f : FuncId} {s : Spec} (z : Nat) (h : SpecOK P f s) : SpecOK P f (sL2 z s) := spec_al h fun ds Q hq => by
  unfold sL2 at hq; split at hq
  · obtain ⟨h0, hq⟩ := cond_P hq
    rw [Bool.and_eq_true] at h0
    have hl := beq_true h0.2
    obtain ⟨R0, R1, R2, R3, hq, r1⟩ := takeW4_spec hq
    obtain ⟨R, hq, r⟩ := aSl_spec hq
    rw [List.take_of_length_le (Nat.le_of_eq hl)] at r1
    exact ⟨_, .cons (.agg r1 h0.1 rfl) (.cons r (al_refls _)), hq⟩
  · exact hq.elim
def frcI (n : Int) (K : Int → Prop) : Prop := match n with
  | .ofNat m => frcN m fun m => K (.ofNat m)
  | .negSucc m => frcN m fun m => K (.negSucc m)
theorem frcI_spec {n : Int} {K : Int → Prop} (h : frcI n K) : K n := by
  unfold frcI at h; split at h
  · exact frcN_spec h
  · exact frcN_spec h
def frcLs (f : D → (D → Prop) → Prop) : List D → (List D → Prop) → Prop
  | [], K => K []
  | d :: l, K => f d fun d => frcLs f l fun l => K (d :: l)
def frcLL (f : D → (D → Prop) → Prop) : List (List D) → (List (List D) → Prop) → Prop
  | [], K => K []
  | r :: l, K => frcLs f r fun r => frcLL f l fun l => K (r :: l)
def frcX : Nat → D → (D → Prop) → Prop
  | 0, d, K => K d
  | n + 1, d, K => match d with
    | .s t z rows sp => frcLL (frcX n) rows fun rows => frcLL (frcX n) sp fun sp => K (.s t z rows sp)
    | .v x => match x with
      | .int k i => frcI i fun i => K (.v (.int k i))
      | x => K (.v x)
    | d => K d
theorem frcLs_spec {f : D → (D → Prop) → Prop} (hf : ∀ d K, f d K → K d) : ∀ (l : List D) (K : List D → Prop), frcLs f l K → K l
  | [], K, h => h
  | d :: l, K, h => frcLs_spec hf l _ (hf d _ h)
theorem frcLL_spec {f : D → (D → Prop) → Prop} (hf : ∀ d K, f d K → K d) : ∀ (l : List (List D)) (K : List (List D) → Prop), frcLL f l K → K l
  | [], K, h => h
  | r :: l, K, h => frcLL_spec hf l _ (frcLs_spec hf r _ h)
theorem frcX_spec : ∀ (n : Nat) (d : D) (K : D → Prop), frcX n d K → K d
  | 0, d, K, h => h
  | n + 1, d, K, h => by
    unfold frcX at h; split at h
    · exact frcLL_spec (frcX_spec n) _ _ (frcLL_spec (frcX_spec n) _ _ h)
    · split at h
      · exact frcI_spec h
      · exact h
    · exact h
def frcV (d : DV) (K : DV → Prop) : Prop := match d with
  | .c d => frcX 3 d fun d => K (.c d)
  | .agg cs => frcLs (frcX 3) cs fun cs => K (.agg cs)
  | .tup [.c d, e] => frcX 3 d fun d => K (.tup [.c d, e])
  | d => K d
theorem frcV_spec {d : DV} {K : DV → Prop} (h : frcV d K) : K d := by
  unfold frcV at h; split at h
  · exact frcX_spec 3 _ _ h
  · exact frcLs_spec (frcX_spec 3) _ _ h
  · exact frcX_spec 3 _ _ h
  · exact h
def sF (s : Spec) : Spec := fun ds Q => s ds fun r => frcV r Q
theorem oF {P : Program} {f : FuncId} {s : Spec} (h : SpecOK P f s) : SpecOK P f (sF s) := fun ds Q hq => by
  obtain ⟨hg, r, hc, hp, hf, hq⟩ := h ds _ hq
  exact ⟨hg, r, hc, hp, hf, frcV_spec hq⟩
def iRCopF : Inl := callB Tryz.prog [34] (sF sCop)
theorem iRCopF_ok : InlOK Tryz.prog 58 iRCopF := callB_ok (oF oRCop)
def spR : List (FuncId × Spec) := [(55, sHere), (56, sUp), (91, sB val8), (146, sUnd), (84, sSet), (85, sAdd), (190, sF (sL1 3 sWith)), (87, sF (sL1 3 sWth)), (189, sL1 3 sRFd), (176, sL2 3 sGd), (178, sL2 3 sCv), (171, sL1 3 sAtW)]
theorem spR_ok : SpecsOK Tryz.prog spR := .cons (oHere) (.cons (oUp2) (.cons (oRVal) (.cons (oRUnd) (.cons (oRRSet) (.cons (oRRAdd) (.cons (oF (oL1 3 oWR)) (.cons (oF (oL1 3 oWW)) (.cons (oL1 3 oRFd) (.cons (oL2 3 oGr) (.cons (oL2 3 oCr) (.cons (oL1 3 oRWA) (.nil))))))))))))
def iRun83 : Inl := inlM Tryz.prog spR [] [] Tryz.f83
theorem iRun83_ok : InlOK Tryz.prog 83 iRun83 := inlM_ok spR_ok .nil (.nil) mixed Tryz.func83 rfl (goes_of Tryz.func83 (by kernel_rfl) rfl)
def iLoose : Inl := inlM Tryz.prog spR [] [] Tryz.f191
theorem iLoose_ok : InlOK Tryz.prog 191 iLoose := inlM_ok spR_ok .nil (.nil) mixed Tryz.func191 rfl (goes_of Tryz.func191 (by kernel_rfl) rfl)
def iEnd : Inl := inlM Tryz.prog spR [] [(58, iRCopF), (57, iRtl), (191, iLoose)] Tryz.f170
theorem iEnd_ok : InlOK Tryz.prog 170 iEnd := inlM_ok spR_ok .nil (.cons iRCopF_ok (.cons iRtl_ok (.cons iLoose_ok (.nil)))) mixed Tryz.func170 rfl (goes_of Tryz.func170 (by kernel_rfl) rfl)
def iAgain : Inl := inlM Tryz.prog spR [] [(58, iRCopF), (57, iRtl), (191, iLoose)] Tryz.f174
theorem iAgain_ok : InlOK Tryz.prog 174 iAgain := inlM_ok spR_ok .nil (.cons iRCopF_ok (.cons iRtl_ok (.cons iLoose_ok (.nil)))) mixed Tryz.func174 rfl (goes_of Tryz.func174 (by kernel_rfl) rfl)
def iNeeds : Inl := inlM Tryz.prog spR [] [(83, iRun83)] Tryz.f167
theorem iNeeds_ok : InlOK Tryz.prog 167 iNeeds := inlM_ok spR_ok .nil (.cons iRun83_ok (.nil)) mixed Tryz.func167 rfl (goes_of Tryz.func167 (by kernel_rfl) rfl)
def iDrift : Inl := inlM Tryz.prog spR [] [(167, iNeeds), (170, iEnd), (58, iRCopF), (57, iRtl)] Tryz.f168
theorem iDrift_ok : InlOK Tryz.prog 168 iDrift := inlM_ok spR_ok .nil (.cons iNeeds_ok (.cons iEnd_ok (.cons iRCopF_ok (.cons iRtl_ok (.nil))))) mixed Tryz.func168 rfl (goes_of Tryz.func168 (by kernel_rfl) rfl)
def iFetch : Inl := inlM Tryz.prog spR [] [(167, iNeeds), (58, iRCopF), (174, iAgain), (57, iRtl)] Tryz.f169
theorem iFetch_ok : InlOK Tryz.prog 169 iFetch := inlM_ok spR_ok .nil (.cons iNeeds_ok (.cons iRCopF_ok (.cons iAgain_ok (.cons iRtl_ok (.nil))))) mixed Tryz.func169 rfl (goes_of Tryz.func169 (by kernel_rfl) rfl)
def iStore : Inl := inlM Tryz.prog spR [] [(83, iRun83), (58, iRCopF), (57, iRtl)] Tryz.f39
theorem iStore_ok : InlOK Tryz.prog 39 iStore := inlM_ok spR_ok .nil (.cons iRun83_ok (.cons iRCopF_ok (.cons iRtl_ok (.nil)))) mixed Tryz.func39 rfl (goes_of Tryz.func39 (by kernel_rfl) rfl)
def iCalc : Inl := inlM Tryz.prog spR [] [(83, iRun83), (58, iRCopF)] Tryz.f34
theorem iCalc_ok : InlOK Tryz.prog 34 iCalc := inlM_ok spR_ok .nil (.cons iRun83_ok (.cons iRCopF_ok (.nil))) mixed Tryz.func34 rfl (goes_of Tryz.func34 (by kernel_rfl) rfl)
def iPark : Inl := inlM Tryz.prog spR [] [(83, iRun83), (58, iRCopF), (57, iRtl), (174, iAgain)] Tryz.f133
theorem iPark_ok : InlOK Tryz.prog 133 iPark := inlM_ok spR_ok .nil (.cons iRun83_ok (.cons iRCopF_ok (.cons iRtl_ok (.cons iAgain_ok (.nil))))) mixed Tryz.func133 rfl (goes_of Tryz.func133 (by kernel_rfl) rfl)
def iRun : Inl := inlM Tryz.prog spR [] [(83, iRun83), (167, iNeeds), (168, iDrift), (169, iFetch), (39, iStore), (34, iCalc), (133, iPark), (170, iEnd), (58, iRCopF)] Tryz.f128
theorem iRun_ok : InlOK Tryz.prog 128 iRun := inlM_ok spR_ok .nil (.cons iRun83_ok (.cons iNeeds_ok (.cons iDrift_ok (.cons iFetch_ok (.cons iStore_ok (.cons iCalc_ok (.cons iPark_ok (.cons iEnd_ok (.cons iRCopF_ok (.nil)))))))))) mixed Tryz.func128 rfl (goes_of Tryz.func128 (by kernel_rfl) rfl)
end

section
set_option maxHeartbeats 2000000
open Go Go.Proofs
set_option linter.unusedSimpArgs false
set_option linter.unusedVariables false
set_option maxRecDepth 100000
theorem okSes_z {s : SesD} (h : okSes s = true) : okZ 4 s.pg = true ∧ okZ 3 s.rd = true ∧ okZ 3 s.wt = true := by
  unfold okSes at h; simpa [Bool.and_eq_true] using h
end

section
set_option maxHeartbeats 2000000
open Go Go.Proofs
set_option linter.unusedSimpArgs false
set_option linter.unusedVariables false
set_option maxRecDepth 100000
def bB : SesD := ⟨5, 1, 1, [[vN 2, vN 0, vN 0, vN 1], [vN 3, vN 0, vN 1, vN 0]], 0, 0, 0, 0, 0, 0, [], [], 0, 0, 0, 0, 0⟩
def bA0 : SesD := ⟨3, 0, 3, [[vN 2, vN 0, vN 0, vN 0], [vN 1, vN 0, vN 0, vN 0], [vN 3, vN 0, vN 0, vN 0]], 0, 0, 0, 0, 0, 0, [], [], 0, 0, 0, 0, 0⟩
def bH0 : Mh := ⟨[[vN 5, vN 0, vN 0], [vN 6, vN 0, vN 0]], [[vN 7, vN 0, vN 0]], [], [[vN 9, vN 0, vN 0]], 0, 0, 0, 0, 9, []⟩
def bA1 : SesD := ⟨3, 0, 3, [[vN 2, vN 0, vN 0, vN 0], [vN 1, vN 0, vN 0, vN 0], [vN 3, vN 0, vN 0, vN 0]], 0, 1, 5, 0, 0, 0, [[vN 0, vN 0, vN 0]], [], 0, 0, 0, 0, 0⟩
def bH1 : Mh := ⟨[[vN 5, vN 0, vN 0], [vN 6, vN 0, vN 0]], [[vN 7, vN 0, vN 0]], [], [[vN 9, vN 0, vN 0]], 0, 0, 0, 0, 9, [[vN 3, vN 0, vN 0, vN 5]]⟩
def bA2 : SesD := ⟨3, 0, 3, [[vN 2, vN 0, vN 0, vN 0], [vN 1, vN 0, vN 0, vN 0], [vN 3, vN 0, vN 0, vN 0]], 0, 2, 10, 0, 0, 0, [[vN 0, vN 0, vN 0]], [], 0, 0, 0, 0, 0⟩
def bH2 : Mh := ⟨[[vN 5, vN 0, vN 0], [vN 6, vN 0, vN 0]], [[vN 7, vN 0, vN 0]], [], [[vN 9, vN 0, vN 0]], 0, 0, 0, 0, 9, [[vN 3, vN 0, vN 0, vN 5]]⟩
def bA3 : SesD := ⟨3, 0, 3, [[vN 2, vN 0, vN 0, vN 0], [vN 1, vN 0, vN 0, vN 0], [vN 3, vN 0, vN 0, vN 0]], 0, 3, 10, 0, 0, 0, [[vN 0, vN 0, vN 0]], [[vN 0, vN 0, vN 10]], 0, 0, 0, 0, 0⟩
def bH3 : Mh := ⟨[[vN 5, vN 0, vN 0], [vN 6, vN 0, vN 0]], [[vN 7, vN 0, vN 0]], [], [[vN 9, vN 0, vN 0]], 0, 0, 0, 0, 9, [[vN 3, vN 0, vN 0, vN 5], [vN 3, vN 0, vN 1, vN 10]]⟩
def bA4 : SesD := ⟨3, 0, 3, [[vN 2, vN 0, vN 0, vN 0], [vN 1, vN 0, vN 0, vN 0], [vN 3, vN 0, vN 0, vN 0]], 1, 3, 10, 0, 0, 0, [[vN 0, vN 0, vN 0]], [[vN 0, vN 0, vN 10]], 0, 0, 0, 0, 0⟩
def bH4 : Mh := ⟨[[vN 5, vN 0, vN 0], [vN 6, vN 0, vN 0]], [[vN 7, vN 0, vN 0]], [], [[vN 9, vN 0, vN 0]], 0, 0, 0, 0, 9, [[vN 3, vN 0, vN 0, vN 5], [vN 3, vN 0, vN 1, vN 10]]⟩
theorem eSt1 (K : DV → Prop) : (askH Tryz.prog (hkM spR [] [(58, iRCopF), (128, iRun)]) Tryz.f79 [.agg [D.s 0 3 [[D.v (Value.int IntKind.i64 5), D.v (Value.int IntKind.i64 0), D.v (Value.int IntKind.i64 0)], [D.v (Value.int IntKind.i64 6), D.v (Value.int IntKind.i64 0), D.v (Value.int IntKind.i64 0)]] [], D.s 0 3 [[D.v (Value.int IntKind.i64 7), D.v (Value.int IntKind.i64 0), D.v (Value.int IntKind.i64 0)]] [], D.s 0 3 [] [], D.s 0 3 [[D.v (Value.int IntKind.i64 9), D.v (Value.int IntKind.i64 0), D.v (Value.int IntKind.i64 0)]] [], D.v (Value.int IntKind.i64 0), D.v (Value.int IntKind.i64 0), D.v (Value.int IntKind.i64 0), D.v (Value.int IntKind.i64 0), D.v (Value.int IntKind.i64 9), D.s 0 17 [[D.v (Value.int IntKind.i64 3), D.v (Value.int IntKind.i64 0), D.v (Value.int IntKind.i64 3), D.s 0 4 [[D.v (Value.int IntKind.i64 2), D.v (Value.int IntKind.i64 0), D.v (Value.int IntKind.i64 0), D.v (Value.int IntKind.i64 0)], [D.v (Value.int IntKind.i64 1), D.v (Value.int IntKind.i64 0), D.v (Value.int IntKind.i64 0), D.v (Value.int IntKind.i64 0)], [D.v (Value.int IntKind.i64 3), D.v (Value.int IntKind.i64 0), D.v (Value.int IntKind.i64 0), D.v (Value.int IntKind.i64 0)]] [], D.v (Value.int IntKind.i64 0), D.v (Value.int IntKind.i64 0), D.v (Value.int IntKind.i64 0), D.v (Value.int IntKind.i64 0), D.v (Value.int IntKind.i64 0), D.v (Value.int IntKind.i64 0), D.s 0 3 [] [], D.s 0 3 [] [], D.v (Value.int IntKind.i64 0), D.v (Value.int IntKind.i64 0), D.v (Value.int IntKind.i64 0), D.v (Value.int IntKind.i64 0), D.v (Value.int IntKind.i64 0)], [D.v (Value.int IntKind.i64 5), D.v (Value.int IntKind.i64 1), D.v (Value.int IntKind.i64 1), D.s 0 4 [[D.v (Value.int IntKind.i64 2), D.v (Value.int IntKind.i64 0), D.v (Value.int IntKind.i64 0), D.v (Value.int IntKind.i64 1)], [D.v (Value.int IntKind.i64 3), D.v (Value.int IntKind.i64 0), D.v (Value.int IntKind.i64 1), D.v (Value.int IntKind.i64 0)]] [], D.v (Value.int IntKind.i64 0), D.v (Value.int IntKind.i64 0), D.v (Value.int IntKind.i64 0), D.v (Value.int IntKind.i64 0), D.v (Value.int IntKind.i64 0), D.v (Value.int IntKind.i64 0), D.s 0 3 [] [], D.s 0 3 [] [], D.v (Value.int IntKind.i64 0), D.v (Value.int IntKind.i64 0), D.v (Value.int IntKind.i64 0), D.v (Value.int IntKind.i64 0), D.v (Value.int IntKind.i64 0)]] [], D.s 0 4 [] []], I 0] K) = (K (DV.tup [DV.agg (macLR (1) ⟨[[vN (5), vN (0), vN (0)], [vN (6), vN (0), vN (0)]], [[vN (7), vN (0), vN (0)]], [], [[vN (9), vN (0), vN (0)]], (0), (0), (0), (0), (9), [[vN (3), vN (0), vN (0), vN (5)]]⟩ [(sesL (1) ⟨(3), (0), (3), [[vN (2), vN (0), vN (0), vN (0)], [vN (1), vN (0), vN (0), vN (0)], [vN (3), vN (0), vN (0), vN (0)]], (0), (1), (5), (0), (0), (0), [[vN (0), vN (0), vN (0)]], [], (0), (0), (0), (0), (0)⟩), (sesL (1) ⟨(5), (1), (1), [[vN (2), vN (0), vN (0), vN (1)], [vN (3), vN (0), vN (1), vN (0)]], (0), (0), (0), (0), (0), (0), [], [], (0), (0), (0), (0), (0)⟩)]), I (0)])) := by kernel_rfl
theorem cSt1 : CT Tryz.prog 79 [.agg (macL 0 bH0 [bA0, bB]), I 0] (macR bH1 [bA1, bB] 0) := by
  have e : macL 0 bH0 [bA0, bB] = [D.s 0 3 [[D.v (Value.int IntKind.i64 5), D.v (Value.int IntKind.i64 0), D.v (Value.int IntKind.i64 0)], [D.v (Value.int IntKind.i64 6), D.v (Value.int IntKind.i64 0), D.v (Value.int IntKind.i64 0)]] [], D.s 0 3 [[D.v (Value.int IntKind.i64 7), D.v (Value.int IntKind.i64 0), D.v (Value.int IntKind.i64 0)]] [], D.s 0 3 [] [], D.s 0 3 [[D.v (Value.int IntKind.i64 9), D.v (Value.int IntKind.i64 0), D.v (Value.int IntKind.i64 0)]] [], D.v (Value.int IntKind.i64 0), D.v (Value.int IntKind.i64 0), D.v (Value.int IntKind.i64 0), D.v (Value.int IntKind.i64 0), D.v (Value.int IntKind.i64 9), D.s 0 17 [[D.v (Value.int IntKind.i64 3), D.v (Value.int IntKind.i64 0), D.v (Value.int IntKind.i64 3), D.s 0 4 [[D.v (Value.int IntKind.i64 2), D.v (Value.int IntKind.i64 0), D.v (Value.int IntKind.i64 0), D.v (Value.int IntKind.i64 0)], [D.v (Value.int IntKind.i64 1), D.v (Value.int IntKind.i64 0), D.v (Value.int IntKind.i64 0), D.v (Value.int IntKind.i64 0)], [D.v (Value.int IntKind.i64 3), D.v (Value.int IntKind.i64 0), D.v (Value.int IntKind.i64 0), D.v (Value.int IntKind.i64 0)]] [], D.v (Value.int IntKind.i64 0), D.v (Value.int IntKind.i64 0), D.v (Value.int IntKind.i64 0), D.v (Value.int IntKind.i64 0), D.v (Value.int IntKind.i64 0), D.v (Value.int IntKind.i64 0), D.s 0 3 [] [], D.s 0 3 [] [], D.v (Value.int IntKind.i64 0), D.v (Value.int IntKind.i64 0), D.v (Value.int IntKind.i64 0), D.v (Value.int IntKind.i64 0), D.v (Value.int IntKind.i64 0)], [D.v (Value.int IntKind.i64 5), D.v (Value.int IntKind.i64 1), D.v (Value.int IntKind.i64 1), D.s 0 4 [[D.v (Value.int IntKind.i64 2), D.v (Value.int IntKind.i64 0), D.v (Value.int IntKind.i64 0), D.v (Value.int IntKind.i64 1)], [D.v (Value.int IntKind.i64 3), D.v (Value.int IntKind.i64 0), D.v (Value.int IntKind.i64 1), D.v (Value.int IntKind.i64 0)]] [], D.v (Value.int IntKind.i64 0), D.v (Value.int IntKind.i64 0), D.v (Value.int IntKind.i64 0), D.v (Value.int IntKind.i64 0), D.v (Value.int IntKind.i64 0), D.v (Value.int IntKind.i64 0), D.s 0 3 [] [], D.s 0 3 [] [], D.v (Value.int IntKind.i64 0), D.v (Value.int IntKind.i64 0), D.v (Value.int IntKind.i64 0), D.v (Value.int IntKind.i64 0), D.v (Value.int IntKind.i64 0)]] [], D.s 0 4 [] []] := rfl
  rw [e]
  refine ct_m spR_ok .nil (.cons iRCopF_ok (.cons iRun_ok .nil)) mixed Tryz.func79 rfl rfl rfl ?_
  rw [eSt1]
  exact ⟨rfl⟩
theorem eSt2 (K : DV → Prop) : (askH Tryz.prog (hkM spR [] [(58, iRCopF), (128, iRun)]) Tryz.f79 [.agg [D.s 0 3 [[D.v (Value.int IntKind.i64 5), D.v (Value.int IntKind.i64 0), D.v (Value.int IntKind.i64 0)], [D.v (Value.int IntKind.i64 6), D.v (Value.int IntKind.i64 0), D.v (Value.int IntKind.i64 0)]] [], D.s 0 3 [[D.v (Value.int IntKind.i64 7), D.v (Value.int IntKind.i64 0), D.v (Value.int IntKind.i64 0)]] [], D.s 0 3 [] [], D.s 0 3 [[D.v (Value.int IntKind.i64 9), D.v (Value.int IntKind.i64 0), D.v (Value.int IntKind.i64 0)]] [], D.v (Value.int IntKind.i64 0), D.v (Value.int IntKind.i64 0), D.v (Value.int IntKind.i64 0), D.v (Value.int IntKind.i64 0), D.v (Value.int IntKind.i64 9), D.s 0 17 [[D.v (Value.int IntKind.i64 3), D.v (Value.int IntKind.i64 0), D.v (Value.int IntKind.i64 3), D.s 0 4 [[D.v (Value.int IntKind.i64 2), D.v (Value.int IntKind.i64 0), D.v (Value.int IntKind.i64 0), D.v (Value.int IntKind.i64 0)], [D.v (Value.int IntKind.i64 1), D.v (Value.int IntKind.i64 0), D.v (Value.int IntKind.i64 0), D.v (Value.int IntKind.i64 0)], [D.v (Value.int IntKind.i64 3), D.v (Value.int IntKind.i64 0), D.v (Value.int IntKind.i64 0), D.v (Value.int IntKind.i64 0)]] [], D.v (Value.int IntKind.i64 0), D.v (Value.int IntKind.i64 1), D.v (Value.int IntKind.i64 5), D.v (Value.int IntKind.i64 0), D.v (Value.int IntKind.i64 0), D.v (Value.int IntKind.i64 0), D.s 0 3 [[D.v (Value.int IntKind.i64 0), D.v (Value.int IntKind.i64 0), D.v (Value.int IntKind.i64 0)]] [], D.s 0 3 [] [], D.v (Value.int IntKind.i64 0), D.v (Value.int IntKind.i64 0), D.v (Value.int IntKind.i64 0), D.v (Value.int IntKind.i64 0), D.v (Value.int IntKind.i64 0)], [D.v (Value.int IntKind.i64 5), D.v (Value.int IntKind.i64 1), D.v (Value.int IntKind.i64 1), D.s 0 4 [[D.v (Value.int IntKind.i64 2), D.v (Value.int IntKind.i64 0), D.v (Value.int IntKind.i64 0), D.v (Value.int IntKind.i64 1)], [D.v (Value.int IntKind.i64 3), D.v (Value.int IntKind.i64 0), D.v (Value.int IntKind.i64 1), D.v (Value.int IntKind.i64 0)]] [], D.v (Value.int IntKind.i64 0), D.v (Value.int IntKind.i64 0), D.v (Value.int IntKind.i64 0), D.v (Value.int IntKind.i64 0), D.v (Value.int IntKind.i64 0), D.v (Value.int IntKind.i64 0), D.s 0 3 [] [], D.s 0 3 [] [], D.v (Value.int IntKind.i64 0), D.v (Value.int IntKind.i64 0), D.v (Value.int IntKind.i64 0), D.v (Value.int IntKind.i64 0), D.v (Value.int IntKind.i64 0)]] [], D.s 0 4 [[D.v (Value.int IntKind.i64 3), D.v (Value.int IntKind.i64 0), D.v (Value.int IntKind.i64 0), D.v (Value.int IntKind.i64 5)]] []], I 0] K) = (K (DV.tup [DV.agg (macLR (1) ⟨[[vN (5), vN (0), vN (0)], [vN (6), vN (0), vN (0)]], [[vN (7), vN (0), vN (0)]], [], [[vN (9), vN (0), vN (0)]], (0), (0), (0), (0), (9), [[vN (3), vN (0), vN (0), vN (5)]]⟩ [(sesL (1) ⟨(3), (0), (3), [[vN (2), vN (0), vN (0), vN (0)], [vN (1), vN (0), vN (0), vN (0)], [vN (3), vN (0), vN (0), vN (0)]], (0), (2), (10), (0), (0), (0), [[vN (0), vN (0), vN (0)]], [], (0), (0), (0), (0), (0)⟩), (sesL (1) ⟨(5), (1), (1), [[vN (2), vN (0), vN (0), vN (1)], [vN (3), vN (0), vN (1), vN (0)]], (0), (0), (0), (0), (0), (0), [], [], (0), (0), (0), (0), (0)⟩)]), I (0)])) := by kernel_rfl
theorem cSt2 : CT Tryz.prog 79 [.agg (macL 0 bH1 [bA1, bB]), I 0] (macR bH2 [bA2, bB] 0) := by
  have e : macL 0 bH1 [bA1, bB] = [D.s 0 3 [[D.v (Value.int IntKind.i64 5), D.v (Value.int IntKind.i64 0), D.v (Value.int IntKind.i64 0)], [D.v (Value.int IntKind.i64 6), D.v (Value.int IntKind.i64 0), D.v (Value.int IntKind.i64 0)]] [], D.s 0 3 [[D.v (Value.int IntKind.i64 7), D.v (Value.int IntKind.i64 0), D.v (Value.int IntKind.i64 0)]] [], D.s 0 3 [] [], D.s 0 3 [[D.v (Value.int IntKind.i64 9), D.v (Value.int IntKind.i64 0), D.v (Value.int IntKind.i64 0)]] [], D.v (Value.int IntKind.i64 0), D.v (Value.int IntKind.i64 0), D.v (Value.int IntKind.i64 0), D.v (Value.int IntKind.i64 0), D.v (Value.int IntKind.i64 9), D.s 0 17 [[D.v (Value.int IntKind.i64 3), D.v (Value.int IntKind.i64 0), D.v (Value.int IntKind.i64 3), D.s 0 4 [[D.v (Value.int IntKind.i64 2), D.v (Value.int IntKind.i64 0), D.v (Value.int IntKind.i64 0), D.v (Value.int IntKind.i64 0)], [D.v (Value.int IntKind.i64 1), D.v (Value.int IntKind.i64 0), D.v (Value.int IntKind.i64 0), D.v (Value.int IntKind.i64 0)], [D.v (Value.int IntKind.i64 3), D.v (Value.int IntKind.i64 0), D.v (Value.int IntKind.i64 0), D.v (Value.int IntKind.i64 0)]] [], D.v (Value.int IntKind.i64 0), D.v (Value.int IntKind.i64 1), D.v (Value.int IntKind.i64 5), D.v (Value.int IntKind.i64 0), D.v (Value.int IntKind.i64 0), D.v (Value.int IntKind.i64 0), D.s 0 3 [[D.v (Value.int IntKind.i64 0), D.v (Value.int IntKind.i64 0), D.v (Value.int IntKind.i64 0)]] [], D.s 0 3 [] [], D.v (Value.int IntKind.i64 0), D.v (Value.int IntKind.i64 0), D.v (Value.int IntKind.i64 0), D.v (Value.int IntKind.i64 0), D.v (Value.int IntKind.i64 0)], [D.v (Value.int IntKind.i64 5), D.v (Value.int IntKind.i64 1), D.v (Value.int IntKind.i64 1), D.s 0 4 [[D.v (Value.int IntKind.i64 2), D.v (Value.int IntKind.i64 0), D.v (Value.int IntKind.i64 0), D.v (Value.int IntKind.i64 1)], [D.v (Value.int IntKind.i64 3), D.v (Value.int IntKind.i64 0), D.v (Value.int IntKind.i64 1), D.v (Value.int IntKind.i64 0)]] [], D.v (Value.int IntKind.i64 0), D.v (Value.int IntKind.i64 0), D.v (Value.int IntKind.i64 0), D.v (Value.int IntKind.i64 0), D.v (Value.int IntKind.i64 0), D.v (Value.int IntKind.i64 0), D.s 0 3 [] [], D.s 0 3 [] [], D.v (Value.int IntKind.i64 0), D.v (Value.int IntKind.i64 0), D.v (Value.int IntKind.i64 0), D.v (Value.int IntKind.i64 0), D.v (Value.int IntKind.i64 0)]] [], D.s 0 4 [[D.v (Value.int IntKind.i64 3), D.v (Value.int IntKind.i64 0), D.v (Value.int IntKind.i64 0), D.v (Value.int IntKind.i64 5)]] []] := rfl
  rw [e]
  refine ct_m spR_ok .nil (.cons iRCopF_ok (.cons iRun_ok .nil)) mixed Tryz.func79 rfl rfl rfl ?_
  rw [eSt2]
  exact ⟨rfl⟩
theorem eSt3 (K : DV → Prop) : (askH Tryz.prog (hkM spR [] [(58, iRCopF), (128, iRun)]) Tryz.f79 [.agg [D.s 0 3 [[D.v (Value.int IntKind.i64 5), D.v (Value.int IntKind.i64 0), D.v (Value.int IntKind.i64 0)], [D.v (Value.int IntKind.i64 6), D.v (Value.int IntKind.i64 0), D.v (Value.int IntKind.i64 0)]] [], D.s 0 3 [[D.v (Value.int IntKind.i64 7), D.v (Value.int IntKind.i64 0), D.v (Value.int IntKind.i64 0)]] [], D.s 0 3 [] [], D.s 0 3 [[D.v (Value.int IntKind.i64 9), D.v (Value.int IntKind.i64 0), D.v (Value.int IntKind.i64 0)]] [], D.v (Value.int IntKind.i64 0), D.v (Value.int IntKind.i64 0), D.v (Value.int IntKind.i64 0), D.v (Value.int IntKind.i64 0), D.v (Value.int IntKind.i64 9), D.s 0 17 [[D.v (Value.int IntKind.i64 3), D.v (Value.int IntKind.i64 0), D.v (Value.int IntKind.i64 3), D.s 0 4 [[D.v (Value.int IntKind.i64 2), D.v (Value.int IntKind.i64 0), D.v (Value.int IntKind.i64 0), D.v (Value.int IntKind.i64 0)], [D.v (Value.int IntKind.i64 1), D.v (Value.int IntKind.i64 0), D.v (Value.int IntKind.i64 0), D.v (Value.int IntKind.i64 0)], [D.v (Value.int IntKind.i64 3), D.v (Value.int IntKind.i64 0), D.v (Value.int IntKind.i64 0), D.v (Value.int IntKind.i64 0)]] [], D.v (Value.int IntKind.i64 0), D.v (Value.int IntKind.i64 2), D.v (Value.int IntKind.i64 10), D.v (Value.int IntKind.i64 0), D.v (Value.int IntKind.i64 0), D.v (Value.int IntKind.i64 0), D.s 0 3 [[D.v (Value.int IntKind.i64 0), D.v (Value.int IntKind.i64 0), D.v (Value.int IntKind.i64 0)]] [], D.s 0 3 [] [], D.v (Value.int IntKind.i64 0), D.v (Value.int IntKind.i64 0), D.v (Value.int IntKind.i64 0), D.v (Value.int IntKind.i64 0), D.v (Value.int IntKind.i64 0)], [D.v (Value.int IntKind.i64 5), D.v (Value.int IntKind.i64 1), D.v (Value.int IntKind.i64 1), D.s 0 4 [[D.v (Value.int IntKind.i64 2), D.v (Value.int IntKind.i64 0), D.v (Value.int IntKind.i64 0), D.v (Value.int IntKind.i64 1)], [D.v (Value.int IntKind.i64 3), D.v (Value.int IntKind.i64 0), D.v (Value.int IntKind.i64 1), D.v (Value.int IntKind.i64 0)]] [], D.v (Value.int IntKind.i64 0), D.v (Value.int IntKind.i64 0), D.v (Value.int IntKind.i64 0), D.v (Value.int IntKind.i64 0), D.v (Value.int IntKind.i64 0), D.v (Value.int IntKind.i64 0), D.s 0 3 [] [], D.s 0 3 [] [], D.v (Value.int IntKind.i64 0), D.v (Value.int IntKind.i64 0), D.v (Value.int IntKind.i64 0), D.v (Value.int IntKind.i64 0), D.v (Value.int IntKind.i64 0)]] [], D.s 0 4 [[D.v (Value.int IntKind.i64 3), D.v (Value.int IntKind.i64 0), D.v (Value.int IntKind.i64 0), D.v (Value.int IntKind.i64 5)]] []], I 0] K) = (K (DV.tup [DV.agg (macLR (1) ⟨[[vN (5), vN (0), vN (0)], [vN (6), vN (0), vN (0)]], [[vN (7), vN (0), vN (0)]], [], [[vN (9), vN (0), vN (0)]], (0), (0), (0), (0), (9), [[vN (3), vN (0), vN (0), vN (5)], [vN (3), vN (0), vN (1), vN (10)]]⟩ [(sesL (1) ⟨(3), (0), (3), [[vN (2), vN (0), vN (0), vN (0)], [vN (1), vN (0), vN (0), vN (0)], [vN (3), vN (0), vN (0), vN (0)]], (0), (3), (10), (0), (0), (0), [[vN (0), vN (0), vN (0)]], [[vN (0), vN (0), vN (10)]], (0), (0), (0), (0), (0)⟩), (sesL (1) ⟨(5), (1), (1), [[vN (2), vN (0), vN (0), vN (1)], [vN (3), vN (0), vN (1), vN (0)]], (0), (0), (0), (0), (0), (0), [], [], (0), (0), (0), (0), (0)⟩)]), I (0)])) := by kernel_rfl
theorem cSt3 : CT Tryz.prog 79 [.agg (macL 0 bH2 [bA2, bB]), I 0] (macR bH3 [bA3, bB] 0) := by
  have e : macL 0 bH2 [bA2, bB] = [D.s 0 3 [[D.v (Value.int IntKind.i64 5), D.v (Value.int IntKind.i64 0), D.v (Value.int IntKind.i64 0)], [D.v (Value.int IntKind.i64 6), D.v (Value.int IntKind.i64 0), D.v (Value.int IntKind.i64 0)]] [], D.s 0 3 [[D.v (Value.int IntKind.i64 7), D.v (Value.int IntKind.i64 0), D.v (Value.int IntKind.i64 0)]] [], D.s 0 3 [] [], D.s 0 3 [[D.v (Value.int IntKind.i64 9), D.v (Value.int IntKind.i64 0), D.v (Value.int IntKind.i64 0)]] [], D.v (Value.int IntKind.i64 0), D.v (Value.int IntKind.i64 0), D.v (Value.int IntKind.i64 0), D.v (Value.int IntKind.i64 0), D.v (Value.int IntKind.i64 9), D.s 0 17 [[D.v (Value.int IntKind.i64 3), D.v (Value.int IntKind.i64 0), D.v (Value.int IntKind.i64 3), D.s 0 4 [[D.v (Value.int IntKind.i64 2), D.v (Value.int IntKind.i64 0), D.v (Value.int IntKind.i64 0), D.v (Value.int IntKind.i64 0)], [D.v (Value.int IntKind.i64 1), D.v (Value.int IntKind.i64 0), D.v (Value.int IntKind.i64 0), D.v (Value.int IntKind.i64 0)], [D.v (Value.int IntKind.i64 3), D.v (Value.int IntKind.i64 0), D.v (Value.int IntKind.i64 0), D.v (Value.int IntKind.i64 0)]] [], D.v (Value.int IntKind.i64 0), D.v (Value.int IntKind.i64 2), D.v (Value.int IntKind.i64 10), D.v (Value.int IntKind.i64 0), D.v (Value.int IntKind.i64 0), D.v (Value.int IntKind.i64 0), D.s 0 3 [[D.v (Value.int IntKind.i64 0), D.v (Value.int IntKind.i64 0), D.v (Value.int IntKind.i64 0)]] [], D.s 0 3 [] [], D.v (Value.int IntKind.i64 0), D.v (Value.int IntKind.i64 0), D.v (Value.int IntKind.i64 0), D.v (Value.int IntKind.i64 0), D.v (Value.int IntKind.i64 0)], [D.v (Value.int IntKind.i64 5), D.v (Value.int IntKind.i64 1), D.v (Value.int IntKind.i64 1), D.s 0 4 [[D.v (Value.int IntKind.i64 2), D.v (Value.int IntKind.i64 0), D.v (Value.int IntKind.i64 0), D.v (Value.int IntKind.i64 1)], [D.v (Value.int IntKind.i64 3), D.v (Value.int IntKind.i64 0), D.v (Value.int IntKind.i64 1), D.v (Value.int IntKind.i64 0)]] [], D.v (Value.int IntKind.i64 0), D.v (Value.int IntKind.i64 0), D.v (Value.int IntKind.i64 0), D.v (Value.int IntKind.i64 0), D.v (Value.int IntKind.i64 0), D.v (Value.int IntKind.i64 0), D.s 0 3 [] [], D.s 0 3 [] [], D.v (Value.int IntKind.i64 0), D.v (Value.int IntKind.i64 0), D.v (Value.int IntKind.i64 0), D.v (Value.int IntKind.i64 0), D.v (Value.int IntKind.i64 0)]] [], D.s 0 4 [[D.v (Value.int IntKind.i64 3), D.v (Value.int IntKind.i64 0), D.v (Value.int IntKind.i64 0), D.v (Value.int IntKind.i64 5)]] []] := rfl
  rw [e]
  refine ct_m spR_ok .nil (.cons iRCopF_ok (.cons iRun_ok .nil)) mixed Tryz.func79 rfl rfl rfl ?_
  rw [eSt3]
  exact ⟨rfl⟩
theorem eSt4 (K : DV → Prop) : (askH Tryz.prog (hkM spR [] [(58, iRCopF), (128, iRun)]) Tryz.f79 [.agg [D.s 0 3 [[D.v (Value.int IntKind.i64 5), D.v (Value.int IntKind.i64 0), D.v (Value.int IntKind.i64 0)], [D.v (Value.int IntKind.i64 6), D.v (Value.int IntKind.i64 0), D.v (Value.int IntKind.i64 0)]] [], D.s 0 3 [[D.v (Value.int IntKind.i64 7), D.v (Value.int IntKind.i64 0), D.v (Value.int IntKind.i64 0)]] [], D.s 0 3 [] [], D.s 0 3 [[D.v (Value.int IntKind.i64 9), D.v (Value.int IntKind.i64 0), D.v (Value.int IntKind.i64 0)]] [], D.v (Value.int IntKind.i64 0), D.v (Value.int IntKind.i64 0), D.v (Value.int IntKind.i64 0), D.v (Value.int IntKind.i64 0), D.v (Value.int IntKind.i64 9), D.s 0 17 [[D.v (Value.int IntKind.i64 3), D.v (Value.int IntKind.i64 0), D.v (Value.int IntKind.i64 3), D.s 0 4 [[D.v (Value.int IntKind.i64 2), D.v (Value.int IntKind.i64 0), D.v (Value.int IntKind.i64 0), D.v (Value.int IntKind.i64 0)], [D.v (Value.int IntKind.i64 1), D.v (Value.int IntKind.i64 0), D.v (Value.int IntKind.i64 0), D.v (Value.int IntKind.i64 0)], [D.v (Value.int IntKind.i64 3), D.v (Value.int IntKind.i64 0), D.v (Value.int IntKind.i64 0), D.v (Value.int IntKind.i64 0)]] [], D.v (Value.int IntKind.i64 0), D.v (Value.int IntKind.i64 3), D.v (Value.int IntKind.i64 10), D.v (Value.int IntKind.i64 0), D.v (Value.int IntKind.i64 0), D.v (Value.int IntKind.i64 0), D.s 0 3 [[D.v (Value.int IntKind.i64 0), D.v (Value.int IntKind.i64 0), D.v (Value.int IntKind.i64 0)]] [], D.s 0 3 [[D.v (Value.int IntKind.i64 0), D.v (Value.int IntKind.i64 0), D.v (Value.int IntKind.i64 10)]] [], D.v (Value.int IntKind.i64 0), D.v (Value.int IntKind.i64 0), D.v (Value.int IntKind.i64 0), D.v (Value.int IntKind.i64 0), D.v (Value.int IntKind.i64 0)], [D.v (Value.int IntKind.i64 5), D.v (Value.int IntKind.i64 1), D.v (Value.int IntKind.i64 1), D.s 0 4 [[D.v (Value.int IntKind.i64 2), D.v (Value.int IntKind.i64 0), D.v (Value.int IntKind.i64 0), D.v (Value.int IntKind.i64 1)], [D.v (Value.int IntKind.i64 3), D.v (Value.int IntKind.i64 0), D.v (Value.int IntKind.i64 1), D.v (Value.int IntKind.i64 0)]] [], D.v (Value.int IntKind.i64 0), D.v (Value.int IntKind.i64 0), D.v (Value.int IntKind.i64 0), D.v (Value.int IntKind.i64 0), D.v (Value.int IntKind.i64 0), D.v (Value.int IntKind.i64 0), D.s 0 3 [] [], D.s 0 3 [] [], D.v (Value.int IntKind.i64 0), D.v (Value.int IntKind.i64 0), D.v (Value.int IntKind.i64 0), D.v (Value.int IntKind.i64 0), D.v (Value.int IntKind.i64 0)]] [], D.s 0 4 [[D.v (Value.int IntKind.i64 3), D.v (Value.int IntKind.i64 0), D.v (Value.int IntKind.i64 0), D.v (Value.int IntKind.i64 5)], [D.v (Value.int IntKind.i64 3), D.v (Value.int IntKind.i64 0), D.v (Value.int IntKind.i64 1), D.v (Value.int IntKind.i64 10)]] []], I 0] K) = (K (DV.tup [DV.agg (macLR (1) ⟨[[vN (5), vN (0), vN (0)], [vN (6), vN (0), vN (0)]], [[vN (7), vN (0), vN (0)]], [], [[vN (9), vN (0), vN (0)]], (0), (0), (0), (0), (9), [[vN (3), vN (0), vN (0), vN (5)], [vN (3), vN (0), vN (1), vN (10)]]⟩ [(sesL (1) ⟨(3), (0), (3), [[vN (2), vN (0), vN (0), vN (0)], [vN (1), vN (0), vN (0), vN (0)], [vN (3), vN (0), vN (0), vN (0)]], (1), (3), (10), (0), (0), (0), [[vN (0), vN (0), vN (0)]], [[vN (0), vN (0), vN (10)]], (0), (0), (0), (0), (0)⟩), (sesL (1) ⟨(5), (1), (1), [[vN (2), vN (0), vN (0), vN (1)], [vN (3), vN (0), vN (1), vN (0)]], (0), (0), (0), (0), (0), (0), [], [], (0), (0), (0), (0), (0)⟩)]), I (0)])) := by kernel_rfl
theorem cSt4 : CT Tryz.prog 79 [.agg (macL 0 bH3 [bA3, bB]), I 0] (macR bH4 [bA4, bB] 0) := by
  have e : macL 0 bH3 [bA3, bB] = [D.s 0 3 [[D.v (Value.int IntKind.i64 5), D.v (Value.int IntKind.i64 0), D.v (Value.int IntKind.i64 0)], [D.v (Value.int IntKind.i64 6), D.v (Value.int IntKind.i64 0), D.v (Value.int IntKind.i64 0)]] [], D.s 0 3 [[D.v (Value.int IntKind.i64 7), D.v (Value.int IntKind.i64 0), D.v (Value.int IntKind.i64 0)]] [], D.s 0 3 [] [], D.s 0 3 [[D.v (Value.int IntKind.i64 9), D.v (Value.int IntKind.i64 0), D.v (Value.int IntKind.i64 0)]] [], D.v (Value.int IntKind.i64 0), D.v (Value.int IntKind.i64 0), D.v (Value.int IntKind.i64 0), D.v (Value.int IntKind.i64 0), D.v (Value.int IntKind.i64 9), D.s 0 17 [[D.v (Value.int IntKind.i64 3), D.v (Value.int IntKind.i64 0), D.v (Value.int IntKind.i64 3), D.s 0 4 [[D.v (Value.int IntKind.i64 2), D.v (Value.int IntKind.i64 0), D.v (Value.int IntKind.i64 0), D.v (Value.int IntKind.i64 0)], [D.v (Value.int IntKind.i64 1), D.v (Value.int IntKind.i64 0), D.v (Value.int IntKind.i64 0), D.v (Value.int IntKind.i64 0)], [D.v (Value.int IntKind.i64 3), D.v (Value.int IntKind.i64 0), D.v (Value.int IntKind.i64 0), D.v (Value.int IntKind.i64 0)]] [], D.v (Value.int IntKind.i64 0), D.v (Value.int IntKind.i64 3), D.v (Value.int IntKind.i64 10), D.v (Value.int IntKind.i64 0), D.v (Value.int IntKind.i64 0), D.v (Value.int IntKind.i64 0), D.s 0 3 [[D.v (Value.int IntKind.i64 0), D.v (Value.int IntKind.i64 0), D.v (Value.int IntKind.i64 0)]] [], D.s 0 3 [[D.v (Value.int IntKind.i64 0), D.v (Value.int IntKind.i64 0), D.v (Value.int IntKind.i64 10)]] [], D.v (Value.int IntKind.i64 0), D.v (Value.int IntKind.i64 0), D.v (Value.int IntKind.i64 0), D.v (Value.int IntKind.i64 0), D.v (Value.int IntKind.i64 0)], [D.v (Value.int IntKind.i64 5), D.v (Value.int IntKind.i64 1), D.v (Value.int IntKind.i64 1), D.s 0 4 [[D.v (Value.int IntKind.i64 2), D.v (Value.int IntKind.i64 0), D.v (Value.int IntKind.i64 0), D.v (Value.int IntKind.i64 1)], [D.v (Value.int IntKind.i64 3), D.v (Value.int IntKind.i64 0), D.v (Value.int IntKind.i64 1), D.v (Value.int IntKind.i64 0)]] [], D.v (Value.int IntKind.i64 0), D.v (Value.int IntKind.i64 0), D.v (Value.int IntKind.i64 0), D.v (Value.int IntKind.i64 0), D.v (Value.int IntKind.i64 0), D.v (Value.int IntKind.i64 0), D.s 0 3 [] [], D.s 0 3 [] [], D.v (Value.int IntKind.i64 0), D.v (Value.int IntKind.i64 0), D.v (Value.int IntKind.i64 0), D.v (Value.int IntKind.i64 0), D.v (Value.int IntKind.i64 0)]] [], D.s 0 4 [[D.v (Value.int IntKind.i64 3), D.v (Value.int IntKind.i64 0), D.v (Value.int IntKind.i64 0), D.v (Value.int IntKind.i64 5)], [D.v (Value.int IntKind.i64 3), D.v (Value.int IntKind.i64 0), D.v (Value.int IntKind.i64 1), D.v (Value.int IntKind.i64 10)]] []] := rfl
  rw [e]
  refine ct_m spR_ok .nil (.cons iRCopF_ok (.cons iRun_ok .nil)) mixed Tryz.func79 rfl rfl rfl ?_
  rw [eSt4]
  exact ⟨rfl⟩
theorem iRNew_ok : InlOK Tryz.prog 21 iRNew := inlM_ok (.cons oRNewL (.cons oRSNewL (.cons oRMm .nil))) .nil .nil mixed Tryz.func21 rfl (goes_of Tryz.func21 (by kernel_rfl) rfl)
theorem eBeg12 (K : DV → Prop) : (askH Tryz.prog (hkM [] [] [(21, iRNew)]) Tryz.f78 [] K) = (K (DV.agg [D.s (1) (3) [[vN (5), vN (0), vN (0)], [vN (6), vN (0), vN (0)]] [], D.s (1) (3) [[vN (7), vN (0), vN (0)]] [], D.s (1) (3) [] [], D.s (1) (3) [[vN (9), vN (0), vN (0)]] [], vN (0), vN (0), vN (0), vN (0), vN (9), D.s (1) (17) [[vN (3), vN (0), vN (3), D.s (1) (4) [[vN (2), vN (0), vN (0), vN (0)], [vN (1), vN (0), vN (0), vN (0)], [vN (3), vN (0), vN (0), vN (0)]] [], vN (0), vN (0), vN (0), vN (0), vN (0), vN (0), nilV, nilV, vN (0), vN (0), vN (0), vN (0), vN (0)], [vN (5), vN (1), vN (1), D.s (1) (4) [[vN (2), vN (0), vN (0), vN (1)], [vN (3), vN (0), vN (1), vN (0)]] [], vN (0), vN (0), vN (0), vN (0), vN (0), vN (0), nilV, nilV, vN (0), vN (0), vN (0), vN (0), vN (0)]] [], nilV])) := by kernel_rfl
theorem cBeg12 : CT Tryz.prog 78 [] (.agg (macL 1 bH0 [bA0, bB])) := by
  refine ct_mA .nil .nil (.cons iRNew_ok .nil) mixed Tryz.func78 rfl rfl rfl ?_
  rw [eBeg12]
  refine ⟨.aggO ?_⟩
  repeat (first | exact .nil | exact OL.refl _ | exact OL.nil _ | refine .cons ?_ ?_ | refine OL.rows ?_)
end

section
set_option maxHeartbeats 2000000
open Go Go.Proofs
set_option linter.unusedSimpArgs false
set_option linter.unusedVariables false
set_option maxRecDepth 100000
def sStp : Spec := fun ds Q => match ds with
  | [d, _] => macA d fun _ ss => match ss with
    | [a, _] => bif a.st == 0 then (bif a.pc == 0 then sAtD [.agg (macL 0 bH0 [bA0, bB]), I 0] (macR bH1 [bA1, bB] 0) ds Q else bif a.pc == 1 then sAtD [.agg (macL 0 bH1 [bA1, bB]), I 0] (macR bH2 [bA2, bB] 0) ds Q else bif a.pc == 2 then sAtD [.agg (macL 0 bH2 [bA2, bB]), I 0] (macR bH3 [bA3, bB] 0) ds Q else sAtD [.agg (macL 0 bH3 [bA3, bB]), I 0] (macR bH4 [bA4, bB] 0) ds Q) else False
    | _ => False
  | _ => False
theorem gStp : Goes Tryz.prog 79 := goes_of Tryz.func79 (by kernel_rfl) rfl
theorem oStp : SpecOK Tryz.prog 79 sStp := fun ds Q h => by
  unfold sStp at h; split at h
  · obtain ⟨m, ss, h, _⟩ := macA_spec h
    split at h
    · rename_i a _ _
      cases h1 : a.st == 0
      · rw [h1] at h; exact h.elim
      · rw [h1] at h
        cases h2 : a.pc == 0
        · cases h3 : a.pc == 1
          · cases h4 : a.pc == 2
            · rw [h2, h3, h4] at h; exact oAtD gStp cSt4 rfl rfl _ Q h
            · rw [h2, h3, h4] at h; exact oAtD gStp cSt3 rfl rfl _ Q h
          · rw [h2, h3] at h; exact oAtD gStp cSt2 rfl rfl _ Q h
        · rw [h2] at h; exact oAtD gStp cSt1 rfl rfl _ Q h
    · exact h.elim
  · exact h.elim
def iStp : Inl := callB Tryz.prog [34, 3] (sF sStp)
theorem iStp_ok : InlOK Tryz.prog 79 iStp := callB_ok (oF oStp)
def iBeg : Inl := callB Tryz.prog [] (sF (sAtD [] (.agg (macL 1 bH0 [bA0, bB]))))
theorem iBeg12_ok : InlOK Tryz.prog 78 iBeg := callB_ok (oF (oAtD (goes_of Tryz.func78 (by kernel_rfl) rfl) cBeg12 rfl rfl))
theorem eStd12_2 (K : DV → Prop) : (askH Tryz.prog (hkM [] [] [(78, iBeg), (79, iStp)]) Tryz.f31 [I 0, I 2] K) = (([] : List DV) = [] ∧ [DV.agg (macL (0) bH0 [bA0, bB]), I (0)] = [DV.agg (macL (0) bH0 [bA0, bB]), I (0)] ∧ [DV.agg (macL (0) bH1 [bA1, bB]), I (0)] = [DV.agg (macL (0) bH1 [bA1, bB]), I (0)] ∧ K (DV.agg [D.s (1) (3) [[D.v (Value.int IntKind.i64 (5)), D.v (Value.int IntKind.i64 (0)), D.v (Value.int IntKind.i64 (0))], [D.v (Value.int IntKind.i64 (6)), D.v (Value.int IntKind.i64 (0)), D.v (Value.int IntKind.i64 (0))]] [], D.s (1) (3) [[D.v (Value.int IntKind.i64 (7)), D.v (Value.int IntKind.i64 (0)), D.v (Value.int IntKind.i64 (0))]] [], D.s (1) (3) [] [], D.s (1) (3) [[D.v (Value.int IntKind.i64 (9)), D.v (Value.int IntKind.i64 (0)), D.v (Value.int IntKind.i64 (0))]] [], D.v (Value.int IntKind.i64 (0)), D.v (Value.int IntKind.i64 (0)), D.v (Value.int IntKind.i64 (0)), D.v (Value.int IntKind.i64 (0)), D.v (Value.int IntKind.i64 (9)), D.s (1) (17) [[D.v (Value.int IntKind.i64 (3)), D.v (Value.int IntKind.i64 (0)), D.v (Value.int IntKind.i64 (3)), D.s (1) (4) [[D.v (Value.int IntKind.i64 (2)), D.v (Value.int IntKind.i64 (0)), D.v (Value.int IntKind.i64 (0)), D.v (Value.int IntKind.i64 (0))], [D.v (Value.int IntKind.i64 (1)), D.v (Value.int IntKind.i64 (0)), D.v (Value.int IntKind.i64 (0)), D.v (Value.int IntKind.i64 (0))], [D.v (Value.int IntKind.i64 (3)), D.v (Value.int IntKind.i64 (0)), D.v (Value.int IntKind.i64 (0)), D.v (Value.int IntKind.i64 (0))]] [], D.v (Value.int IntKind.i64 (0)), D.v (Value.int IntKind.i64 (2)), D.v (Value.int IntKind.i64 (10)), D.v (Value.int IntKind.i64 (0)), D.v (Value.int IntKind.i64 (0)), D.v (Value.int IntKind.i64 (0)), D.s (1) (3) [[D.v (Value.int IntKind.i64 (0)), D.v (Value.int IntKind.i64 (0)), D.v (Value.int IntKind.i64 (0))]] [], D.s (1) (3) [] [], D.v (Value.int IntKind.i64 (0)), D.v (Value.int IntKind.i64 (0)), D.v (Value.int IntKind.i64 (0)), D.v (Value.int IntKind.i64 (0)), D.v (Value.int IntKind.i64 (0))], [D.v (Value.int IntKind.i64 (5)), D.v (Value.int IntKind.i64 (1)), D.v (Value.int IntKind.i64 (1)), D.s (1) (4) [[D.v (Value.int IntKind.i64 (2)), D.v (Value.int IntKind.i64 (0)), D.v (Value.int IntKind.i64 (0)), D.v (Value.int IntKind.i64 (1))], [D.v (Value.int IntKind.i64 (3)), D.v (Value.int IntKind.i64 (0)), D.v (Value.int IntKind.i64 (1)), D.v (Value.int IntKind.i64 (0))]] [], D.v (Value.int IntKind.i64 (0)), D.v (Value.int IntKind.i64 (0)), D.v (Value.int IntKind.i64 (0)), D.v (Value.int IntKind.i64 (0)), D.v (Value.int IntKind.i64 (0)), D.v (Value.int IntKind.i64 (0)), D.s (1) (3) [] [], D.s (1) (3) [] [], D.v (Value.int IntKind.i64 (0)), D.v (Value.int IntKind.i64 (0)), D.v (Value.int IntKind.i64 (0)), D.v (Value.int IntKind.i64 (0)), D.v (Value.int IntKind.i64 (0))]] [], D.s (1) (4) [[D.v (Value.int IntKind.i64 (3)), D.v (Value.int IntKind.i64 (0)), D.v (Value.int IntKind.i64 (0)), D.v (Value.int IntKind.i64 (5))]] []])) := by kernel_rfl
theorem cStd12_2 : CT Tryz.prog 31 [I 0, I 2] (.agg (macL 1 bH2 [bA2, bB])) := by
  refine ct_m .nil .nil (.cons iBeg12_ok (.cons iStp_ok .nil)) mixed Tryz.func31 rfl rfl rfl ?_
  rw [eStd12_2]
  exact ⟨by repeat (first | exact rfl | refine ⟨rfl, ?_⟩)⟩
theorem eStd12_4 (K : DV → Prop) : (askH Tryz.prog (hkM [] [] [(78, iBeg), (79, iStp)]) Tryz.f31 [I 0, I 4] K) = (([] : List DV) = [] ∧ [DV.agg (macL (0) bH0 [bA0, bB]), I (0)] = [DV.agg (macL (0) bH0 [bA0, bB]), I (0)] ∧ [DV.agg (macL (0) bH1 [bA1, bB]), I (0)] = [DV.agg (macL (0) bH1 [bA1, bB]), I (0)] ∧ [DV.agg (macL (0) bH2 [bA2, bB]), I (0)] = [DV.agg (macL (0) bH2 [bA2, bB]), I (0)] ∧ [DV.agg (macL (0) bH3 [bA3, bB]), I (0)] = [DV.agg (macL (0) bH3 [bA3, bB]), I (0)] ∧ K (DV.agg [D.s (1) (3) [[D.v (Value.int IntKind.i64 (5)), D.v (Value.int IntKind.i64 (0)), D.v (Value.int IntKind.i64 (0))], [D.v (Value.int IntKind.i64 (6)), D.v (Value.int IntKind.i64 (0)), D.v (Value.int IntKind.i64 (0))]] [], D.s (1) (3) [[D.v (Value.int IntKind.i64 (7)), D.v (Value.int IntKind.i64 (0)), D.v (Value.int IntKind.i64 (0))]] [], D.s (1) (3) [] [], D.s (1) (3) [[D.v (Value.int IntKind.i64 (9)), D.v (Value.int IntKind.i64 (0)), D.v (Value.int IntKind.i64 (0))]] [], D.v (Value.int IntKind.i64 (0)), D.v (Value.int IntKind.i64 (0)), D.v (Value.int IntKind.i64 (0)), D.v (Value.int IntKind.i64 (0)), D.v (Value.int IntKind.i64 (9)), D.s (1) (17) [[D.v (Value.int IntKind.i64 (3)), D.v (Value.int IntKind.i64 (0)), D.v (Value.int IntKind.i64 (3)), D.s (1) (4) [[D.v (Value.int IntKind.i64 (2)), D.v (Value.int IntKind.i64 (0)), D.v (Value.int IntKind.i64 (0)), D.v (Value.int IntKind.i64 (0))], [D.v (Value.int IntKind.i64 (1)), D.v (Value.int IntKind.i64 (0)), D.v (Value.int IntKind.i64 (0)), D.v (Value.int IntKind.i64 (0))], [D.v (Value.int IntKind.i64 (3)), D.v (Value.int IntKind.i64 (0)), D.v (Value.int IntKind.i64 (0)), D.v (Value.int IntKind.i64 (0))]] [], D.v (Value.int IntKind.i64 (1)), D.v (Value.int IntKind.i64 (3)), D.v (Value.int IntKind.i64 (10)), D.v (Value.int IntKind.i64 (0)), D.v (Value.int IntKind.i64 (0)), D.v (Value.int IntKind.i64 (0)), D.s (1) (3) [[D.v (Value.int IntKind.i64 (0)), D.v (Value.int IntKind.i64 (0)), D.v (Value.int IntKind.i64 (0))]] [], D.s (1) (3) [[D.v (Value.int IntKind.i64 (0)), D.v (Value.int IntKind.i64 (0)), D.v (Value.int IntKind.i64 (10))]] [], D.v (Value.int IntKind.i64 (0)), D.v (Value.int IntKind.i64 (0)), D.v (Value.int IntKind.i64 (0)), D.v (Value.int IntKind.i64 (0)), D.v (Value.int IntKind.i64 (0))], [D.v (Value.int IntKind.i64 (5)), D.v (Value.int IntKind.i64 (1)), D.v (Value.int IntKind.i64 (1)), D.s (1) (4) [[D.v (Value.int IntKind.i64 (2)), D.v (Value.int IntKind.i64 (0)), D.v (Value.int IntKind.i64 (0)), D.v (Value.int IntKind.i64 (1))], [D.v (Value.int IntKind.i64 (3)), D.v (Value.int IntKind.i64 (0)), D.v (Value.int IntKind.i64 (1)), D.v (Value.int IntKind.i64 (0))]] [], D.v (Value.int IntKind.i64 (0)), D.v (Value.int IntKind.i64 (0)), D.v (Value.int IntKind.i64 (0)), D.v (Value.int IntKind.i64 (0)), D.v (Value.int IntKind.i64 (0)), D.v (Value.int IntKind.i64 (0)), D.s (1) (3) [] [], D.s (1) (3) [] [], D.v (Value.int IntKind.i64 (0)), D.v (Value.int IntKind.i64 (0)), D.v (Value.int IntKind.i64 (0)), D.v (Value.int IntKind.i64 (0)), D.v (Value.int IntKind.i64 (0))]] [], D.s (1) (4) [[D.v (Value.int IntKind.i64 (3)), D.v (Value.int IntKind.i64 (0)), D.v (Value.int IntKind.i64 (0)), D.v (Value.int IntKind.i64 (5))], [D.v (Value.int IntKind.i64 (3)), D.v (Value.int IntKind.i64 (0)), D.v (Value.int IntKind.i64 (1)), D.v (Value.int IntKind.i64 (10))]] []])) := by kernel_rfl
theorem cStd12_4 : CT Tryz.prog 31 [I 0, I 4] (.agg (macL 1 bH4 [bA4, bB])) := by
  refine ct_m .nil .nil (.cons iBeg12_ok (.cons iStp_ok .nil)) mixed Tryz.func31 rfl rfl rfl ?_
  rw [eStd12_4]
  exact ⟨by repeat (first | exact rfl | refine ⟨rfl, ?_⟩)⟩
end

section
set_option maxHeartbeats 2000000
open Go Go.Proofs
set_option linter.unusedSimpArgs false
set_option linter.unusedVariables false
set_option maxRecDepth 100000
theorem eSS (s s' : SesD) (K : DV → Prop) : (askW Tryz.prog (hkF [(77, sSameInsts), (42, sSameReads), (45, sSameWrites)] [] []) Tryz.f32 [.agg (sesL 0 s), .agg (sesL 0 s')] K) = (bif s.id == s'.id then bif s.lb == s'.lb then bif s.cl == s'.cl then bif okZ (4) s.pg && okZ (4) s'.pg then bif decide (toZ s.pg = toZ s'.pg) then bif s.st == s'.st then bif s.pc == s'.pc then bif eqI [s.r0, s.r1, s.r2, s.r3] [s'.r0, s'.r1, s'.r2, s'.r3] then bif okZ (3) s.rd && okZ (3) s'.rd then bif decide (toZ s.rd = toZ s'.rd) then bif okZ (3) s.wt && okZ (3) s'.wt then bif decide (toZ s.wt = toZ s'.wt) then bif s.at' == s'.at' then bif s.sp == s'.sp then bif s.tr == s'.tr then bif s.rs == s'.rs then K (B (s.to == s'.to)) else K (B false) else K (B false) else K (B false) else K (B false) else K (B false) else False else K (B false) else False else K (B false) else K (B false) else K (B false) else K (B false) else False else K (B false) else K (B false) else K (B false)) := by kernel_rfl
def sameS (s s' : SesD) : Bool := bif s.id == s'.id then bif s.lb == s'.lb then bif s.cl == s'.cl then bif decide (toZ s.pg = toZ s'.pg) then bif s.st == s'.st then bif s.pc == s'.pc then bif eqI [s.r0, s.r1, s.r2, s.r3] [s'.r0, s'.r1, s'.r2, s'.r3] then bif decide (toZ s.rd = toZ s'.rd) then bif decide (toZ s.wt = toZ s'.wt) then bif s.at' == s'.at' then bif s.sp == s'.sp then bif s.tr == s'.tr then bif s.rs == s'.rs then s.to == s'.to else false else false else false else false else false else false else false else false else false else false else false else false else false
theorem cSS (s s' : SesD) (h : okSes s = true) (h' : okSes s' = true) : CT Tryz.prog 32 [.agg (sesL 0 s), .agg (sesL 0 s')] (B (sameS s s')) := by
  refine ct_wF (.cons oSameInsts (.cons oSameReads (.cons oSameWrites .nil))) .nil .nil mixed Tryz.func32 rfl rfl rfl ?_
  rw [eSS]
  refine ⟨?_⟩
  obtain ⟨a1, a2, a3⟩ := okSes_z h
  obtain ⟨b1, b2, b3⟩ := okSes_z h'
  simp only [a1, a2, a3, b1, b2, b3, Bool.and_self, cond_true, bifAL]
  exact AL.refl _
def sSS : Spec := fun ds Q => match ds with
  | [d, e] => sesA d fun s => sesA e fun s' => cond (okSes s && okSes s') (Q (B (sameS s s'))) False
  | _ => False
theorem oSS : SpecOK Tryz.prog 32 sSS := o_al Tryz.func32 (by kernel_rfl) rfl fun ds Q h => by
  unfold sSS at h; split at h
  · obtain ⟨s, h, r1⟩ := sesA_spec h
    obtain ⟨s', h, r2⟩ := sesA_spec h
    obtain ⟨h1, h2⟩ := cond_P h
    rw [Bool.and_eq_true] at h1
    exact ⟨_, _, .cons r1 (.cons r2 .nil), cSS s s' h1.1 h1.2, rfl, rfl, h2⟩
  · exact h.elim
theorem eSA (R0 R1 R2 R3 S0 S1 S2 S3 : List (List D)) (K : DV → Prop) : (askW Tryz.prog (hkF [(88, sSameWords)] [] []) Tryz.f41 [.agg (wsL R0 R1 R2 R3), .agg (wsL S0 S1 S2 S3)] K) = (bif okZ (3) R0 && okZ (3) S0 then bif !decide (toZ R0 = toZ S0) then K (B false) else bif okZ (3) R1 && okZ (3) S1 then bif !decide (toZ R1 = toZ S1) then K (B false) else bif okZ (3) R2 && okZ (3) S2 then bif !decide (toZ R2 = toZ S2) then K (B false) else bif okZ (3) R3 && okZ (3) S3 then bif !decide (toZ R3 = toZ S3) then K (B false) else K (B true) else False else False else False else False) := by kernel_rfl
def sameA (R0 R1 R2 R3 S0 S1 S2 S3 : List (List D)) : Bool := bif decide (toZ R0 = toZ S0) then bif decide (toZ R1 = toZ S1) then bif decide (toZ R2 = toZ S2) then bif decide (toZ R3 = toZ S3) then true else false else false else false else false
theorem cSA (R0 R1 R2 R3 S0 S1 S2 S3 : List (List D)) (h : okA R0 R1 R2 R3 = true) (h' : okA S0 S1 S2 S3 = true) : CT Tryz.prog 41 [.agg (wsL R0 R1 R2 R3), .agg (wsL S0 S1 S2 S3)] (B (sameA R0 R1 R2 R3 S0 S1 S2 S3)) := by
  refine ct_wF (.cons oSameWords .nil) .nil .nil mixed Tryz.func41 rfl rfl rfl ?_
  rw [eSA]
  refine ⟨?_⟩
  obtain ⟨a0, a1, a2, a3⟩ := okA_spec h
  obtain ⟨b0, b1, b2, b3⟩ := okA_spec h'
  simp only [a0, a1, a2, a3, b0, b1, b2, b3, Bool.and_self, cond_true, bifALN]
  exact AL.refl _
def sSA : Spec := fun ds Q => match ds with
  | [.agg cs, .agg es] => cond (noOwn cs && Nat.beq cs.length 4 && (noOwn es && Nat.beq es.length 4)) (takeW4 cs fun R0 R1 R2 R3 => takeW4 es fun S0 S1 S2 S3 => cond (okA R0 R1 R2 R3 && okA S0 S1 S2 S3) (Q (B (sameA R0 R1 R2 R3 S0 S1 S2 S3))) False) False
  | _ => False
theorem oSA : SpecOK Tryz.prog 41 sSA := o_al Tryz.func41 (by kernel_rfl) rfl fun ds Q h => by
  unfold sSA at h; split at h
  · obtain ⟨h0, h⟩ := cond_P h
    simp only [Bool.and_eq_true] at h0
    obtain ⟨R0, R1, R2, R3, h, r1⟩ := takeW4_spec h
    obtain ⟨S0, S1, S2, S3, h, r2⟩ := takeW4_spec h
    obtain ⟨h1, h2⟩ := cond_P h
    rw [Bool.and_eq_true] at h1
    rw [List.take_of_length_le (Nat.le_of_eq (beq_true h0.1.2))] at r1
    rw [List.take_of_length_le (Nat.le_of_eq (beq_true h0.2.2))] at r2
    exact ⟨_, _, .cons (.agg r1 h0.1.1 rfl) (.cons (.agg r2 h0.2.1 rfl) .nil), cSA R0 R1 R2 R3 S0 S1 S2 S3 h1.1 h1.2, rfl, rfl, h2⟩
  · exact h.elim
def stSM (h : Mh) (ss : List SesD) (h' : Mh) (ss' : List SesD) (v : Bool) (i : Int) : X := ⟨mkT 62 [(2, .c (.rp 3 0 11 0 0)), (3, .c (.rp 4 0 11 0 0)), (4, ab v), (5, ai i)], [(3, .bx 0 11 ((macL 0 h ss).map C.d)), (4, .bx 0 11 ((macL 0 h' ss').map C.d))], [], []⟩
def v_stSM (h : Mh) (ss : List SesD) (h' : Mh) (ss' : List SesD) : Vw := fun y K => wB y 4 fun v => wI y 5 fun i => K (stSM h ss h' ss' v i)
theorem v_stSM_ok (h : Mh) (ss : List SesD) (h' : Mh) (ss' : List SesD) : VwOK (v_stSM h ss h' ss') := fun y K h => by
  unfold v_stSM at h
  obtain ⟨v, h⟩ := wB_ex h
  obtain ⟨i, h⟩ := wI_ex h
  exact ⟨_, h⟩
theorem rSM (h : Mh) (ss : List SesD) (h' : Mh) (ss' : List SesD) (v : Bool) (i : Int) (N : X → Prop) (E : Exit → X → Prop) : (roundV Tryz.prog (hkF [(32, sSS)] [] []) Tryz.f24 0 [] [2, 3, 4, 5] [3, 4] (v_stSM h ss h' ss') (fun _ => v_stSM h ss h' ss') N E (stSM h ss h' ss' v i)) = (bif decide (i < @Nat.cast Int _ (List.length (List.map (sesL (0)) ss))) then bif decide (0 ≤ i) && decide (i < @Nat.cast Int _ (List.length (List.map (sesL (0)) ss))) then ∃ s, sesAt (List.map (sesL (0)) ss) (Int.toNat i) (0) s ∧ bif decide (0 ≤ i) && decide (i < @Nat.cast Int _ (List.length (List.map (sesL (0)) ss'))) then ∃ s_1, sesAt (List.map (sesL (0)) ss') (Int.toNat i) (0) s_1 ∧ bif okSes s && okSes s_1 then bif !sameS s s_1 then stSM h ss h' ss' false i = stSM h ss h' ss' false i ∧ E Exit.ret (stSM h ss h' ss' false i) else stSM h ss h' ss' v (IntKind.wrap IntKind.i64 (i + 1)) = stSM h ss h' ss' v (IntKind.wrap IntKind.i64 (i + 1)) ∧ N (stSM h ss h' ss' v (IntKind.wrap IntKind.i64 (i + 1))) else False else False else False else stSM h ss h' ss' v i = stSM h ss h' ss' v i ∧ E (Exit.exit (0)) (stSM h ss h' ss' v i)) := by kernel_rfl
def sesN (ss : List SesD) (i : Nat) : SesD := ss.getD i default
def unl (ss ss' : List SesD) (i : Nat) : Bool := !sameS (sesN ss i) (sesN ss' i)
def fSM (h : Mh) (ss : List SesD) (h' : Mh) (ss' : List SesD) : LSum := fun Q x => ss.length = ss'.length ∧ findS [2, 3, 4, 5] [3, 4] (fun i => stSM h ss h' ss' false i) (fun i => stSM h ss h' ss' false i) ss.length (unl ss ss') .ret (.exit 0) Q x
theorem eSM (h : Mh) (ss : List SesD) (h' : Mh) (ss' : List SesD) (K : DV → Prop) : (askW Tryz.prog (hkFL [(41, sSA), (59, sSameEvents)] [] [] [(4, fSM h ss h' ss')]) Tryz.f24 [.agg (macL 0 h ss), .agg (macL 0 h' ss')] K) = (bif okA h.w0 h.w1 h.w2 h.w3 && okA h'.w0 h'.w1 h'.w2 h'.w3 then bif !sameA h.w0 h.w1 h.w2 h.w3 h'.w0 h'.w1 h'.w2 h'.w3 then K (B false) else bif !eqI [h.c0, h.c1, h.c2, h.c3] [h'.c0, h'.c1, h'.c2, h'.c3] then K (B false) else bif h.ce != h'.ce then K (B false) else bif @Nat.cast Int _ (List.length (List.map (sesL (0)) ss)) != @Nat.cast Int _ (List.length (List.map (sesL (0)) ss')) then K (B false) else bif okZ (4) h.tr && okZ (4) h'.tr then bif !decide (toZ h.tr = toZ h'.tr) then K (B false) else List.length ss = List.length ss' ∧ stSM h ss h' ss' false (0) = stSM h ss h' ss' false (0) ∧ (∀ (i : Nat), firstAt (unl ss ss') (List.length ss) i → K (B false)) ∧ (noneTo (unl ss ss') (List.length ss) → K (B true)) else False else False) := by kernel_rfl
theorem sesN_at {ss : List SesD} {i t : Nat} (h : i < ss.length) : sesAt (List.map (sesL t) ss) i t (sesN ss i) := sesAt_map (by unfold sesN; rw [List.getD_eq_getElem?_getD, List.getElem?_eq_getElem h]; rfl)
theorem sesN_mem {ss : List SesD} {i : Nat} (h : i < ss.length) : sesN ss i ∈ ss := by
  unfold sesN
  rw [List.getD_eq_getElem?_getD, List.getElem?_eq_getElem h]
  exact List.getElem_mem h
theorem kSM {h : Mh} {ss : List SesD} {h' : Mh} {ss' : List SesD} (hs : okSS ss = true) (hs' : okSS ss' = true) (hn : ss.length ≤ 9223372036854775806) (Q : Exit → X → Prop) (x : X) (hq : fSM h ss h' ss' Q x) : XWP Tryz.prog (.loop (bodyL Tryz.f24 0)) Q x := by
  obtain ⟨hl, hq⟩ := hq
  have q1 := List.all_eq_true.1 hs
  have q2 := List.all_eq_true.1 hs'
  refine xwp_findV (sw := []) (V := v_stSM h ss h' ss') (VE := fun _ => v_stSM h ss h' ss') mixed (v_stSM_ok h ss h' ss') (fun _ => v_stSM_ok h ss h' ss') _ _ _ _ _ _ (fun i hi => ⟨hkF [(32, sSS)] [] [], hkF_ok (.cons oSS .nil) .nil .nil, loops_nil rfl, fun N E h1 h2 => ?_⟩) ⟨hkF [(32, sSS)] [] [], hkF_ok (.cons oSS .nil) .nil .nil, loops_nil rfl, fun N E h1 => ?_⟩ Q x hq
  · rw [rSM]
    have wi : IntKind.wrap IntKind.i64 ((i : Int) + 1) = ((i + 1 : Nat) : Int) := wrap_nat (n := 1) (by omega)
    have hi' : i < ss'.length := by omega
    simp only [List.length_map, Int.ofNat_lt, hi, hi', decide_true, cond_true, Int.natCast_nonneg, Bool.and_self, Int.toNat_natCast, wi]
    refine ⟨sesN ss i, sesN_at hi, sesN ss' i, sesN_at hi', ?_⟩
    rw [q1 _ (sesN_mem hi), q2 _ (sesN_mem hi')]
    unfold unl at h1 h2
    generalize sameS (sesN ss i) (sesN ss' i) = u at h1 h2 ⊢
    cases u
    · exact ⟨trivial, h1 rfl⟩
    · exact ⟨trivial, h2 rfl⟩
  · rw [rSM]
    simp only [List.length_map, Int.ofNat_lt, Nat.lt_irrefl, decide_false, cond_false, true_and]
    exact h1
def sameM (h : Mh) (ss : List SesD) (h' : Mh) (ss' : List SesD) : Bool := sameA h.w0 h.w1 h.w2 h.w3 h'.w0 h'.w1 h'.w2 h'.w3 && (eqI [h.c0, h.c1, h.c2, h.c3] [h'.c0, h'.c1, h'.c2, h'.c3] && (h.ce == h'.ce && (decide (ss.length = ss'.length) && (decide (toZ h.tr = toZ h'.tr) && !(List.range ss.length).any (unl ss ss')))))
theorem cSM (h : Mh) (ss : List SesD) (h' : Mh) (ss' : List SesD) (ho : okM h ss = true) (ho' : okM h' ss' = true) (hn : ss.length ≤ 9223372036854775806) : CT Tryz.prog 24 [.agg (macL 0 h ss), .agg (macL 0 h' ss')] (B (sameM h ss h' ss')) := by
  obtain ⟨a1, a2, a3⟩ := okM_spec ho
  obtain ⟨b1, b2, b3⟩ := okM_spec ho'
  refine ct_wL (m := [(4, fSM h ss h' ss')]) (.cons oSA (.cons oSameEvents .nil)) .nil .nil mixed (loopsL1 (i := 0) (fun j hj _ => by have : j < 1 := hj; omega) (kSM a3 b3 hn)) Tryz.func24 rfl rfl rfl ?_
  rw [eSM]
  refine ⟨?_⟩
  unfold sameM
  simp only [a1, a2, b1, b2, Bool.and_self, cond_true, List.length_map]
  cases sameA h.w0 h.w1 h.w2 h.w3 h'.w0 h'.w1 h'.w2 h'.w3
  · exact AL.refl _
  · cases eqI [h.c0, h.c1, h.c2, h.c3] [h'.c0, h'.c1, h'.c2, h'.c3]
    · exact AL.refl _
    · cases hc : h.ce == h'.ce
      · have : (h.ce != h'.ce) = true := by unfold bne; rw [hc]; rfl
        rw [this]; exact AL.refl _
      · have : (h.ce != h'.ce) = false := by unfold bne; rw [hc]; rfl
        rw [this]
        by_cases hl : ss.length = ss'.length
        · have : (@Nat.cast Int _ (List.length ss) != @Nat.cast Int _ (List.length ss')) = false := by rw [hl]; simp
          rw [this, decide_eq_true hl]
          cases decide (toZ h.tr = toZ h'.tr)
          · exact AL.refl _
          · refine ⟨hl, trivial, fun i hi => ?_, fun hn => ?_⟩
            · rw [hi.b]; exact AL.refl _
            · rw [hn.b]; exact AL.refl _
        · have : (@Nat.cast Int _ (List.length ss) != @Nat.cast Int _ (List.length ss')) = true := by simp; omega
          rw [this, decide_eq_false hl]; exact AL.refl _
def sSM : Spec := fun ds Q => match ds with
  | [d, e] => macA d fun h ss => macA e fun h' ss' => cond (okM h ss && (okM h' ss' && Nat.ble ss.length 4)) (Q (B (sameM h ss h' ss'))) False
  | _ => False
theorem oSM : SpecOK Tryz.prog 24 sSM := o_al Tryz.func24 (by kernel_rfl) rfl fun ds Q hq => by
  unfold sSM at hq; split at hq
  · obtain ⟨h, ss, hq, r1⟩ := macA_spec hq
    obtain ⟨h', ss', hq, r2⟩ := macA_spec hq
    obtain ⟨h1, h2⟩ := cond_P hq
    simp only [Bool.and_eq_true] at h1
    exact ⟨_, _, .cons r1 (.cons r2 .nil), cSM h ss h' ss' h1.1 h1.2.1 (by have := Nat.le_of_ble_eq_true h1.2.2; omega), rfl, rfl, h2⟩
  · exact hq.elim
end

section
set_option maxHeartbeats 2000000
open Go Go.Proofs
set_option linter.unusedSimpArgs false
set_option linter.unusedVariables false
set_option maxRecDepth 100000
def iNew : Inl := inlM Tryz.prog [(48, sNewL), (49, sSNewL), (26, sMMay)] [] [] Tryz.f20
theorem iNew_ok : InlOK Tryz.prog 20 iNew := inlM_ok (.cons oNewL (.cons oSNewL (.cons oMMay .nil))) .nil .nil mixed Tryz.func20 rfl (goes_of Tryz.func20 (by kernel_rfl) rfl)
def iTel : Inl := callB Tryz.prog [34, 3, 3, 3] (sF sTel)
theorem iTel_ok : InlOK Tryz.prog 22 iTel := callB_ok (oF oTel)
def iStdK (k : Int) (h : Mh) (s : SesD) : Inl := callB Tryz.prog [3, 3] (sF (sAtD [I 0, I k] (.agg (macL 1 h [s, bB]))))
theorem iStd12_2_ok : InlOK Tryz.prog 31 (iStdK 2 bH2 bA2) := callB_ok (oF (oAtD (goes_of Tryz.func31 (by kernel_rfl) rfl) cStd12_2 rfl rfl))
theorem iStd12_4_ok : InlOK Tryz.prog 31 (iStdK 4 bH4 bA4) := callB_ok (oF (oAtD (goes_of Tryz.func31 (by kernel_rfl) rfl) cStd12_4 rfl rfl))
theorem eAw12 (K : DV → Prop) : (askH Tryz.prog (hkM [(26, sMMay), (24, sSM), (59, sSameEvents), (25, sI)] [] [(78, iBeg), (22, iTel), (20, iNew), (31, iStdK 2 bH2 bA2)]) Tryz.f30 [] K) = (([] : List DV) = [] ∧ ([] : List DV) = [] ∧ ([] : List DV) = [] ∧ [I (0), I (2)] = [I (0), I (2)] ∧ K (B true)) := by kernel_rfl
theorem cAw12 : CT Tryz.prog 30 [] (B true) := by
  refine ct_m (.cons oMMay (.cons oSM (.cons oSameEvents (.cons oNum .nil)))) .nil (.cons iBeg12_ok (.cons iTel_ok (.cons iNew_ok (.cons iStd12_2_ok .nil)))) mixed Tryz.func30 rfl rfl rfl ?_
  rw [eAw12]
  exact ⟨by repeat (first | exact rfl | refine ⟨rfl, ?_⟩)⟩
theorem oAw12 : SpecOK Tryz.prog 30 (sAtD [] (B true)) := oAtD (goes_of Tryz.func30 (by kernel_rfl) rfl) cAw12 rfl rfl
def hkN (an : Int → Int → Int) (l lf : List (FuncId × Spec)) (li : List (FuncId × Inl)) : Hooks := { hkX an bor l lf li with spl := true }
theorem hkN_ok {l lf : List (FuncId × Spec)} {li : List (FuncId × Inl)} (h : SpecsOK Tryz.prog l) (hf : SpecsFOK Tryz.prog lf) (hi : InlsLOK Tryz.prog li) : CallsOK Tryz.prog (hkN band l lf li) := hkM_ok h hf hi
theorem hkN_loops {l lf : List (FuncId × Spec)} {li : List (FuncId × Inl)} {c : Code} : LoopsOK Tryz.prog (hkN band l lf li) c := hkM_loops
theorem eMF (an : Int → Int → Int) (w x : Int) (K : DV → Prop) : (askH Tryz.prog (hkN an [(30, sAtD [] (B true)), (26, sMMay), (25, sI)] [] [(22, iTel), (31, iStdK 4 bH4 bA4)]) Tryz.f4 [I w, I x] K) = (([] : List DV) = [] ∧ [I (0), I (4)] = [I (0), I (4)] ∧ bif Int.tmod (IntKind.wrap IntKind.u64 w) (10) == 0 then bif okTell { w0 := [[vN (IntKind.wrap IntKind.i64 (0 - IntKind.wrap IntKind.i64 (1 + an x (1023)))), vN (0), vN (0)], [vN (6), vN (0), vN (0)]], w1 := [[vN (7), vN (0), vN (0)]], w2 := [], w3 := [[vN (9), vN (0), vN (0)]], c0 := 0, c1 := 0, c2 := 0, c3 := 0, ce := 9, tr := [[vN (3), vN (0), vN (0), vN (5)], [vN (3), vN (0), vN (1), vN (10)]] } [{ id := 3, lb := 0, cl := 3, pg := [[vN (2), vN (0), vN (0), vN (0)], [vN (1), vN (0), vN (0), vN (0)], [vN (3), vN (0), vN (0), vN (0)]], st := 1, pc := 3, r0 := 10, r1 := 0, r2 := 0, r3 := 0, rd := [[vN (0), vN (0), vN (0)]], wt := [[vN (0), vN (0), vN (10)]], at' := 0, sp := 0, tr := 0, rs := 0, to := 0 }, { id := 5, lb := 1, cl := 1, pg := [[vN (2), vN (0), vN (0), vN (1)], [vN (3), vN (0), vN (1), vN (0)]], st := 0, pc := 0, r0 := 0, r1 := 0, r2 := 0, r3 := 0, rd := [], wt := [], at' := 0, sp := 0, tr := 0, rs := 0, to := 0 }] (0) (6) then [I (0), I (4)] = [I (0), I (4)] ∧ bif !mmay { w0 := [[vN (IntKind.wrap IntKind.i64 (0 - IntKind.wrap IntKind.i64 (1 + an x (1023)))), vN (0), vN (0)], [vN (6), vN (0), vN (0)]], w1 := [[vN (7), vN (0), vN (0)]], w2 := [], w3 := [[vN (9), vN (0), vN (0)]], c0 := 0, c1 := 0, c2 := 0, c3 := 0, ce := 9, tr := [[vN (3), vN (0), vN (0), vN (5)], [vN (3), vN (0), vN (1), vN (10)]] } [{ id := 3, lb := 0, cl := 3, pg := [[vN (2), vN (0), vN (0), vN (0)], [vN (1), vN (0), vN (0), vN (0)], [vN (3), vN (0), vN (0), vN (0)]], st := 1, pc := 3, r0 := 10, r1 := 0, r2 := 0, r3 := 0, rd := [[vN (0), vN (0), vN (0)]], wt := [[vN (0), vN (0), vN (10)]], at' := 0, sp := 0, tr := 0, rs := 0, to := 0 }, { id := 5, lb := 1, cl := 1, pg := [[vN (2), vN (0), vN (0), vN (1)], [vN (3), vN (0), vN (1), vN (0)]], st := 0, pc := 0, r0 := 0, r1 := 0, r2 := 0, r3 := 0, rd := [], wt := [], at' := 0, sp := 0, tr := 0, rs := 0, to := 0 }] then K (B false) else K (B false) else [I (0), I (4)] = [I (0), I (4)] ∧ bif !mmay { w0 := [[vN (IntKind.wrap IntKind.i64 (0 - IntKind.wrap IntKind.i64 (1 + an x (1023)))), vN (0), vN (0)], [vN (6), vN (0), vN (0)]], w1 := [[vN (7), vN (0), vN (0)]], w2 := [], w3 := [[vN (9), vN (0), vN (0)]], c0 := 0, c1 := 0, c2 := 0, c3 := 0, ce := 9, tr := [[vN (3), vN (0), vN (0), vN (5)], [vN (3), vN (0), vN (1), vN (10)]] } [{ id := 3, lb := 0, cl := 3, pg := [[vN (2), vN (0), vN (0), vN (0)], [vN (1), vN (0), vN (0), vN (0)], [vN (3), vN (0), vN (0), vN (0)]], st := 1, pc := 3, r0 := 10, r1 := 0, r2 := 0, r3 := 0, rd := [[vN (0), vN (0), vN (0)]], wt := [[vN (0), vN (0), vN (10)]], at' := 0, sp := 0, tr := 0, rs := 0, to := 0 }, { id := 5, lb := 1, cl := 1, pg := [[vN (2), vN (0), vN (0), vN (1)], [vN (3), vN (0), vN (1), vN (0)]], st := 0, pc := 0, r0 := 0, r1 := 0, r2 := 0, r3 := 0, rd := [], wt := [], at' := 0, sp := 0, tr := 0, rs := 0, to := 0 }] then K (B true) else K (B false) else bif Int.tmod (IntKind.wrap IntKind.u64 w) (10) == 1 then [I (0), I (4)] = [I (0), I (4)] ∧ K (B true) else bif Int.tmod (IntKind.wrap IntKind.u64 w) (10) == 2 then bif okTell { w0 := [[vN (5), vN (0), vN (0)], [vN (6), vN (0), vN (0)]], w1 := [[vN (7), vN (0), vN (0)]], w2 := [], w3 := [[vN (9), vN (0), vN (0)]], c0 := 0, c1 := 0, c2 := 0, c3 := 0, ce := IntKind.wrap IntKind.i64 (0 - IntKind.wrap IntKind.i64 (1 + an x (1023))), tr := [[vN (3), vN (0), vN (0), vN (5)], [vN (3), vN (0), vN (1), vN (10)]] } [{ id := 3, lb := 0, cl := 3, pg := [[vN (2), vN (0), vN (0), vN (0)], [vN (1), vN (0), vN (0), vN (0)], [vN (3), vN (0), vN (0), vN (0)]], st := 1, pc := 3, r0 := 10, r1 := 0, r2 := 0, r3 := 0, rd := [[vN (0), vN (0), vN (0)]], wt := [[vN (0), vN (0), vN (10)]], at' := 0, sp := 0, tr := 0, rs := 0, to := 0 }, { id := 5, lb := 1, cl := 1, pg := [[vN (2), vN (0), vN (0), vN (1)], [vN (3), vN (0), vN (1), vN (0)]], st := 0, pc := 0, r0 := 0, r1 := 0, r2 := 0, r3 := 0, rd := [], wt := [], at' := 0, sp := 0, tr := 0, rs := 0, to := 0 }] (0) (6) then [I (0), I (4)] = [I (0), I (4)] ∧ bif !mmay { w0 := [[vN (5), vN (0), vN (0)], [vN (6), vN (0), vN (0)]], w1 := [[vN (7), vN (0), vN (0)]], w2 := [], w3 := [[vN (9), vN (0), vN (0)]], c0 := 0, c1 := 0, c2 := 0, c3 := 0, ce := IntKind.wrap IntKind.i64 (0 - IntKind.wrap IntKind.i64 (1 + an x (1023))), tr := [[vN (3), vN (0), vN (0), vN (5)], [vN (3), vN (0), vN (1), vN (10)]] } [{ id := 3, lb := 0, cl := 3, pg := [[vN (2), vN (0), vN (0), vN (0)], [vN (1), vN (0), vN (0), vN (0)], [vN (3), vN (0), vN (0), vN (0)]], st := 1, pc := 3, r0 := 10, r1 := 0, r2 := 0, r3 := 0, rd := [[vN (0), vN (0), vN (0)]], wt := [[vN (0), vN (0), vN (10)]], at' := 0, sp := 0, tr := 0, rs := 0, to := 0 }, { id := 5, lb := 1, cl := 1, pg := [[vN (2), vN (0), vN (0), vN (1)], [vN (3), vN (0), vN (1), vN (0)]], st := 0, pc := 0, r0 := 0, r1 := 0, r2 := 0, r3 := 0, rd := [], wt := [], at' := 0, sp := 0, tr := 0, rs := 0, to := 0 }] then K (B false) else K (B false) else [I (0), I (4)] = [I (0), I (4)] ∧ bif !mmay { w0 := [[vN (5), vN (0), vN (0)], [vN (6), vN (0), vN (0)]], w1 := [[vN (7), vN (0), vN (0)]], w2 := [], w3 := [[vN (9), vN (0), vN (0)]], c0 := 0, c1 := 0, c2 := 0, c3 := 0, ce := IntKind.wrap IntKind.i64 (0 - IntKind.wrap IntKind.i64 (1 + an x (1023))), tr := [[vN (3), vN (0), vN (0), vN (5)], [vN (3), vN (0), vN (1), vN (10)]] } [{ id := 3, lb := 0, cl := 3, pg := [[vN (2), vN (0), vN (0), vN (0)], [vN (1), vN (0), vN (0), vN (0)], [vN (3), vN (0), vN (0), vN (0)]], st := 1, pc := 3, r0 := 10, r1 := 0, r2 := 0, r3 := 0, rd := [[vN (0), vN (0), vN (0)]], wt := [[vN (0), vN (0), vN (10)]], at' := 0, sp := 0, tr := 0, rs := 0, to := 0 }, { id := 5, lb := 1, cl := 1, pg := [[vN (2), vN (0), vN (0), vN (1)], [vN (3), vN (0), vN (1), vN (0)]], st := 0, pc := 0, r0 := 0, r1 := 0, r2 := 0, r3 := 0, rd := [], wt := [], at' := 0, sp := 0, tr := 0, rs := 0, to := 0 }] then K (B true) else K (B false) else bif Int.tmod (IntKind.wrap IntKind.u64 w) (10) == 3 then bif okTell { w0 := [[vN (5), vN (0), vN (0)], [vN (6), vN (0), vN (0)]], w1 := [[vN (7), vN (0), vN (0)]], w2 := [], w3 := [[vN (9), vN (0), vN (0)]], c0 := 0, c1 := 0, c2 := 0, c3 := 0, ce := IntKind.wrap IntKind.i64 (65535 + IntKind.wrap IntKind.i64 (1 + an x (1023))), tr := [[vN (3), vN (0), vN (0), vN (5)], [vN (3), vN (0), vN (1), vN (10)]] } [{ id := 3, lb := 0, cl := 3, pg := [[vN (2), vN (0), vN (0), vN (0)], [vN (1), vN (0), vN (0), vN (0)], [vN (3), vN (0), vN (0), vN (0)]], st := 1, pc := 3, r0 := 10, r1 := 0, r2 := 0, r3 := 0, rd := [[vN (0), vN (0), vN (0)]], wt := [[vN (0), vN (0), vN (10)]], at' := 0, sp := 0, tr := 0, rs := 0, to := 0 }, { id := 5, lb := 1, cl := 1, pg := [[vN (2), vN (0), vN (0), vN (1)], [vN (3), vN (0), vN (1), vN (0)]], st := 0, pc := 0, r0 := 0, r1 := 0, r2 := 0, r3 := 0, rd := [], wt := [], at' := 0, sp := 0, tr := 0, rs := 0, to := 0 }] (0) (6) then [I (0), I (4)] = [I (0), I (4)] ∧ bif !mmay { w0 := [[vN (5), vN (0), vN (0)], [vN (6), vN (0), vN (0)]], w1 := [[vN (7), vN (0), vN (0)]], w2 := [], w3 := [[vN (9), vN (0), vN (0)]], c0 := 0, c1 := 0, c2 := 0, c3 := 0, ce := IntKind.wrap IntKind.i64 (65535 + IntKind.wrap IntKind.i64 (1 + an x (1023))), tr := [[vN (3), vN (0), vN (0), vN (5)], [vN (3), vN (0), vN (1), vN (10)]] } [{ id := 3, lb := 0, cl := 3, pg := [[vN (2), vN (0), vN (0), vN (0)], [vN (1), vN (0), vN (0), vN (0)], [vN (3), vN (0), vN (0), vN (0)]], st := 1, pc := 3, r0 := 10, r1 := 0, r2 := 0, r3 := 0, rd := [[vN (0), vN (0), vN (0)]], wt := [[vN (0), vN (0), vN (10)]], at' := 0, sp := 0, tr := 0, rs := 0, to := 0 }, { id := 5, lb := 1, cl := 1, pg := [[vN (2), vN (0), vN (0), vN (1)], [vN (3), vN (0), vN (1), vN (0)]], st := 0, pc := 0, r0 := 0, r1 := 0, r2 := 0, r3 := 0, rd := [], wt := [], at' := 0, sp := 0, tr := 0, rs := 0, to := 0 }] then K (B false) else K (B false) else [I (0), I (4)] = [I (0), I (4)] ∧ bif !mmay { w0 := [[vN (5), vN (0), vN (0)], [vN (6), vN (0), vN (0)]], w1 := [[vN (7), vN (0), vN (0)]], w2 := [], w3 := [[vN (9), vN (0), vN (0)]], c0 := 0, c1 := 0, c2 := 0, c3 := 0, ce := IntKind.wrap IntKind.i64 (65535 + IntKind.wrap IntKind.i64 (1 + an x (1023))), tr := [[vN (3), vN (0), vN (0), vN (5)], [vN (3), vN (0), vN (1), vN (10)]] } [{ id := 3, lb := 0, cl := 3, pg := [[vN (2), vN (0), vN (0), vN (0)], [vN (1), vN (0), vN (0), vN (0)], [vN (3), vN (0), vN (0), vN (0)]], st := 1, pc := 3, r0 := 10, r1 := 0, r2 := 0, r3 := 0, rd := [[vN (0), vN (0), vN (0)]], wt := [[vN (0), vN (0), vN (10)]], at' := 0, sp := 0, tr := 0, rs := 0, to := 0 }, { id := 5, lb := 1, cl := 1, pg := [[vN (2), vN (0), vN (0), vN (1)], [vN (3), vN (0), vN (1), vN (0)]], st := 0, pc := 0, r0 := 0, r1 := 0, r2 := 0, r3 := 0, rd := [], wt := [], at' := 0, sp := 0, tr := 0, rs := 0, to := 0 }] then K (B true) else K (B false) else bif Int.tmod (IntKind.wrap IntKind.u64 w) (10) == 4 then bif okTell { w0 := [[vN (5), vN (0), vN (0)], [vN (6), vN (0), vN (0)]], w1 := [[vN (7), vN (0), vN (0)]], w2 := [], w3 := [[vN (9), vN (0), vN (0)]], c0 := 0, c1 := 0, c2 := IntKind.wrap IntKind.i64 (9 + IntKind.wrap IntKind.i64 (1 + an x (1023))), c3 := 0, ce := 9, tr := [[vN (3), vN (0), vN (0), vN (5)], [vN (3), vN (0), vN (1), vN (10)]] } [{ id := 3, lb := 0, cl := 3, pg := [[vN (2), vN (0), vN (0), vN (0)], [vN (1), vN (0), vN (0), vN (0)], [vN (3), vN (0), vN (0), vN (0)]], st := 1, pc := 3, r0 := 10, r1 := 0, r2 := 0, r3 := 0, rd := [[vN (0), vN (0), vN (0)]], wt := [[vN (0), vN (0), vN (10)]], at' := 0, sp := 0, tr := 0, rs := 0, to := 0 }, { id := 5, lb := 1, cl := 1, pg := [[vN (2), vN (0), vN (0), vN (1)], [vN (3), vN (0), vN (1), vN (0)]], st := 0, pc := 0, r0 := 0, r1 := 0, r2 := 0, r3 := 0, rd := [], wt := [], at' := 0, sp := 0, tr := 0, rs := 0, to := 0 }] (0) (6) then [I (0), I (4)] = [I (0), I (4)] ∧ bif !mmay { w0 := [[vN (5), vN (0), vN (0)], [vN (6), vN (0), vN (0)]], w1 := [[vN (7), vN (0), vN (0)]], w2 := [], w3 := [[vN (9), vN (0), vN (0)]], c0 := 0, c1 := 0, c2 := IntKind.wrap IntKind.i64 (9 + IntKind.wrap IntKind.i64 (1 + an x (1023))), c3 := 0, ce := 9, tr := [[vN (3), vN (0), vN (0), vN (5)], [vN (3), vN (0), vN (1), vN (10)]] } [{ id := 3, lb := 0, cl := 3, pg := [[vN (2), vN (0), vN (0), vN (0)], [vN (1), vN (0), vN (0), vN (0)], [vN (3), vN (0), vN (0), vN (0)]], st := 1, pc := 3, r0 := 10, r1 := 0, r2 := 0, r3 := 0, rd := [[vN (0), vN (0), vN (0)]], wt := [[vN (0), vN (0), vN (10)]], at' := 0, sp := 0, tr := 0, rs := 0, to := 0 }, { id := 5, lb := 1, cl := 1, pg := [[vN (2), vN (0), vN (0), vN (1)], [vN (3), vN (0), vN (1), vN (0)]], st := 0, pc := 0, r0 := 0, r1 := 0, r2 := 0, r3 := 0, rd := [], wt := [], at' := 0, sp := 0, tr := 0, rs := 0, to := 0 }] then K (B false) else K (B false) else [I (0), I (4)] = [I (0), I (4)] ∧ bif !mmay { w0 := [[vN (5), vN (0), vN (0)], [vN (6), vN (0), vN (0)]], w1 := [[vN (7), vN (0), vN (0)]], w2 := [], w3 := [[vN (9), vN (0), vN (0)]], c0 := 0, c1 := 0, c2 := IntKind.wrap IntKind.i64 (9 + IntKind.wrap IntKind.i64 (1 + an x (1023))), c3 := 0, ce := 9, tr := [[vN (3), vN (0), vN (0), vN (5)], [vN (3), vN (0), vN (1), vN (10)]] } [{ id := 3, lb := 0, cl := 3, pg := [[vN (2), vN (0), vN (0), vN (0)], [vN (1), vN (0), vN (0), vN (0)], [vN (3), vN (0), vN (0), vN (0)]], st := 1, pc := 3, r0 := 10, r1 := 0, r2 := 0, r3 := 0, rd := [[vN (0), vN (0), vN (0)]], wt := [[vN (0), vN (0), vN (10)]], at' := 0, sp := 0, tr := 0, rs := 0, to := 0 }, { id := 5, lb := 1, cl := 1, pg := [[vN (2), vN (0), vN (0), vN (1)], [vN (3), vN (0), vN (1), vN (0)]], st := 0, pc := 0, r0 := 0, r1 := 0, r2 := 0, r3 := 0, rd := [], wt := [], at' := 0, sp := 0, tr := 0, rs := 0, to := 0 }] then K (B true) else K (B false) else bif Int.tmod (IntKind.wrap IntKind.u64 w) (10) == 5 then bif okTell { w0 := [[vN (5), vN (0), vN (0)], [vN (6), vN (0), vN (0)]], w1 := [[vN (7), vN (0), vN (0)]], w2 := [], w3 := [[vN (9), vN (0), vN (0)]], c0 := 0, c1 := 0, c2 := IntKind.wrap IntKind.i64 (0 - IntKind.wrap IntKind.i64 (1 + an x (1023))), c3 := 0, ce := 9, tr := [[vN (3), vN (0), vN (0), vN (5)], [vN (3), vN (0), vN (1), vN (10)]] } [{ id := 3, lb := 0, cl := 3, pg := [[vN (2), vN (0), vN (0), vN (0)], [vN (1), vN (0), vN (0), vN (0)], [vN (3), vN (0), vN (0), vN (0)]], st := 1, pc := 3, r0 := 10, r1 := 0, r2 := 0, r3 := 0, rd := [[vN (0), vN (0), vN (0)]], wt := [[vN (0), vN (0), vN (10)]], at' := 0, sp := 0, tr := 0, rs := 0, to := 0 }, { id := 5, lb := 1, cl := 1, pg := [[vN (2), vN (0), vN (0), vN (1)], [vN (3), vN (0), vN (1), vN (0)]], st := 0, pc := 0, r0 := 0, r1 := 0, r2 := 0, r3 := 0, rd := [], wt := [], at' := 0, sp := 0, tr := 0, rs := 0, to := 0 }] (0) (6) then [I (0), I (4)] = [I (0), I (4)] ∧ bif !mmay { w0 := [[vN (5), vN (0), vN (0)], [vN (6), vN (0), vN (0)]], w1 := [[vN (7), vN (0), vN (0)]], w2 := [], w3 := [[vN (9), vN (0), vN (0)]], c0 := 0, c1 := 0, c2 := IntKind.wrap IntKind.i64 (0 - IntKind.wrap IntKind.i64 (1 + an x (1023))), c3 := 0, ce := 9, tr := [[vN (3), vN (0), vN (0), vN (5)], [vN (3), vN (0), vN (1), vN (10)]] } [{ id := 3, lb := 0, cl := 3, pg := [[vN (2), vN (0), vN (0), vN (0)], [vN (1), vN (0), vN (0), vN (0)], [vN (3), vN (0), vN (0), vN (0)]], st := 1, pc := 3, r0 := 10, r1 := 0, r2 := 0, r3 := 0, rd := [[vN (0), vN (0), vN (0)]], wt := [[vN (0), vN (0), vN (10)]], at' := 0, sp := 0, tr := 0, rs := 0, to := 0 }, { id := 5, lb := 1, cl := 1, pg := [[vN (2), vN (0), vN (0), vN (1)], [vN (3), vN (0), vN (1), vN (0)]], st := 0, pc := 0, r0 := 0, r1 := 0, r2 := 0, r3 := 0, rd := [], wt := [], at' := 0, sp := 0, tr := 0, rs := 0, to := 0 }] then K (B false) else K (B false) else [I (0), I (4)] = [I (0), I (4)] ∧ bif !mmay { w0 := [[vN (5), vN (0), vN (0)], [vN (6), vN (0), vN (0)]], w1 := [[vN (7), vN (0), vN (0)]], w2 := [], w3 := [[vN (9), vN (0), vN (0)]], c0 := 0, c1 := 0, c2 := IntKind.wrap IntKind.i64 (0 - IntKind.wrap IntKind.i64 (1 + an x (1023))), c3 := 0, ce := 9, tr := [[vN (3), vN (0), vN (0), vN (5)], [vN (3), vN (0), vN (1), vN (10)]] } [{ id := 3, lb := 0, cl := 3, pg := [[vN (2), vN (0), vN (0), vN (0)], [vN (1), vN (0), vN (0), vN (0)], [vN (3), vN (0), vN (0), vN (0)]], st := 1, pc := 3, r0 := 10, r1 := 0, r2 := 0, r3 := 0, rd := [[vN (0), vN (0), vN (0)]], wt := [[vN (0), vN (0), vN (10)]], at' := 0, sp := 0, tr := 0, rs := 0, to := 0 }, { id := 5, lb := 1, cl := 1, pg := [[vN (2), vN (0), vN (0), vN (1)], [vN (3), vN (0), vN (1), vN (0)]], st := 0, pc := 0, r0 := 0, r1 := 0, r2 := 0, r3 := 0, rd := [], wt := [], at' := 0, sp := 0, tr := 0, rs := 0, to := 0 }] then K (B true) else K (B false) else bif Int.tmod (IntKind.wrap IntKind.u64 w) (10) == 6 then [I (0), I (4)] = [I (0), I (4)] ∧ K (B true) else bif Int.tmod (IntKind.wrap IntKind.u64 w) (10) == 7 then [I (0), I (4)] = [I (0), I (4)] ∧ K (B true) else bif Int.tmod (IntKind.wrap IntKind.u64 w) (10) == 8 then bif okTell { w0 := [[vN (5), vN (0), vN (0)], [vN (6), vN (0), vN (0)]], w1 := [[vN (7), vN (0), vN (0)]], w2 := [], w3 := [[vN (9), vN (0), vN (0)]], c0 := 0, c1 := 0, c2 := 0, c3 := 0, ce := 9, tr := [[vN (3), vN (0), vN (0), vN (5)], [vN (3), vN (0), vN (1), vN (10)]] } [{ id := 3, lb := IntKind.wrap IntKind.i64 (3 + IntKind.wrap IntKind.i64 (1 + an x (1023))), cl := 3, pg := [[vN (2), vN (0), vN (0), vN (0)], [vN (1), vN (0), vN (0), vN (0)], [vN (3), vN (0), vN (0), vN (0)]], st := 1, pc := 3, r0 := 10, r1 := 0, r2 := 0, r3 := 0, rd := [[vN (0), vN (0), vN (0)]], wt := [[vN (0), vN (0), vN (10)]], at' := 0, sp := 0, tr := 0, rs := 0, to := 0 }, { id := 5, lb := 1, cl := 1, pg := [[vN (2), vN (0), vN (0), vN (1)], [vN (3), vN (0), vN (1), vN (0)]], st := 0, pc := 0, r0 := 0, r1 := 0, r2 := 0, r3 := 0, rd := [], wt := [], at' := 0, sp := 0, tr := 0, rs := 0, to := 0 }] (0) (6) then [I (0), I (4)] = [I (0), I (4)] ∧ bif !mmay { w0 := [[vN (5), vN (0), vN (0)], [vN (6), vN (0), vN (0)]], w1 := [[vN (7), vN (0), vN (0)]], w2 := [], w3 := [[vN (9), vN (0), vN (0)]], c0 := 0, c1 := 0, c2 := 0, c3 := 0, ce := 9, tr := [[vN (3), vN (0), vN (0), vN (5)], [vN (3), vN (0), vN (1), vN (10)]] } [{ id := 3, lb := IntKind.wrap IntKind.i64 (3 + IntKind.wrap IntKind.i64 (1 + an x (1023))), cl := 3, pg := [[vN (2), vN (0), vN (0), vN (0)], [vN (1), vN (0), vN (0), vN (0)], [vN (3), vN (0), vN (0), vN (0)]], st := 1, pc := 3, r0 := 10, r1 := 0, r2 := 0, r3 := 0, rd := [[vN (0), vN (0), vN (0)]], wt := [[vN (0), vN (0), vN (10)]], at' := 0, sp := 0, tr := 0, rs := 0, to := 0 }, { id := 5, lb := 1, cl := 1, pg := [[vN (2), vN (0), vN (0), vN (1)], [vN (3), vN (0), vN (1), vN (0)]], st := 0, pc := 0, r0 := 0, r1 := 0, r2 := 0, r3 := 0, rd := [], wt := [], at' := 0, sp := 0, tr := 0, rs := 0, to := 0 }] then K (B false) else K (B false) else [I (0), I (4)] = [I (0), I (4)] ∧ bif !mmay { w0 := [[vN (5), vN (0), vN (0)], [vN (6), vN (0), vN (0)]], w1 := [[vN (7), vN (0), vN (0)]], w2 := [], w3 := [[vN (9), vN (0), vN (0)]], c0 := 0, c1 := 0, c2 := 0, c3 := 0, ce := 9, tr := [[vN (3), vN (0), vN (0), vN (5)], [vN (3), vN (0), vN (1), vN (10)]] } [{ id := 3, lb := IntKind.wrap IntKind.i64 (3 + IntKind.wrap IntKind.i64 (1 + an x (1023))), cl := 3, pg := [[vN (2), vN (0), vN (0), vN (0)], [vN (1), vN (0), vN (0), vN (0)], [vN (3), vN (0), vN (0), vN (0)]], st := 1, pc := 3, r0 := 10, r1 := 0, r2 := 0, r3 := 0, rd := [[vN (0), vN (0), vN (0)]], wt := [[vN (0), vN (0), vN (10)]], at' := 0, sp := 0, tr := 0, rs := 0, to := 0 }, { id := 5, lb := 1, cl := 1, pg := [[vN (2), vN (0), vN (0), vN (1)], [vN (3), vN (0), vN (1), vN (0)]], st := 0, pc := 0, r0 := 0, r1 := 0, r2 := 0, r3 := 0, rd := [], wt := [], at' := 0, sp := 0, tr := 0, rs := 0, to := 0 }] then K (B true) else K (B false) else bif Int.tmod (IntKind.wrap IntKind.u64 w) (10) == 9 then [I (0), I (4)] = [I (0), I (4)] ∧ K (B true) else [I (0), I (4)] = [I (0), I (4)] ∧ K (B false)) := by kernel_rfl
theorem mm_am {h : Mh} {ss : List SesD} (e : amay (toZ h.w0) (toZ h.w1) (toZ h.w2) (toZ h.w3) = false) : mmay h ss = false := by unfold mmay; rw [e]; rfl
theorem mm_ck {h : Mh} {ss : List SesD} (e : clkB h = false) : mmay h ss = false := by unfold mmay; rw [e]; simp
theorem mm_mx {h : Mh} {ss : List SesD} (e : mx4 h.c0 h.c1 h.c2 h.c3 > h.ce) : mmay h ss = false := by unfold mmay; rw [decide_eq_true e]; simp
theorem mm_s0 {h : Mh} {s : SesD} {ss : List SesD} (e : sesMay h.w0 h.w1 h.w2 h.w3 s = false) : mmay h (s :: ss) = false := by unfold mmay; rw [List.all_cons, e]; simp
theorem sm_lab {R0 R1 R2 R3 : List (List D)} {s : SesD} (e : lab s.lb = false) : sesMay R0 R1 R2 R3 s = false := by unfold sesMay smay; rw [e]; simp
theorem upto_f {x lo hi : Int} (h : x < lo ∨ hi < x) : upto x lo hi = false := by
  cases e : upto x lo hi
  · rfl
  · unfold upto at e; simp only [Bool.and_eq_true, decide_eq_true_eq] at e; omega
theorem d1023 (x : Int) : ∃ d : Int, IntKind.wrap IntKind.i64 (1 + band x 1023) = d ∧ 1 ≤ d ∧ d ≤ 1024 := by
  have h := mask10 x
  refine ⟨1 + band x 1023, ?_, by omega, by omega⟩
  rw [wrap_id (by omega) (by omega)]
theorem umod {w : Int} {n : Int} (hn : 0 < n) : 0 ≤ Int.tmod (IntKind.wrap IntKind.u64 w) n ∧ Int.tmod (IntKind.wrap IntKind.u64 w) n < n := by
  have hu : 0 ≤ IntKind.wrap .u64 w := by
    simp [IntKind.wrap, IntKind.signed, IntKind.bits]; omega
  exact ⟨Int.tmod_nonneg _ hu, Int.tmod_lt_of_pos _ hn⟩
theorem mf_leaf {h : Mh} {ss : List SesD} {k : Int} (hm : mmay h ss = false) : bif okTell h ss 0 k then (bif !mmay h ss then (B false = B true) else (B false = B true)) else (bif !mmay h ss then True else (B false = B true)) := by
  have : okTell h ss 0 k = false := by unfold okTell mthere; rw [hm]; rfl
  rw [this, hm]
  exact trivial
theorem cMF (w x : Int) : CT Tryz.prog 4 [I w, I x] (B true) := by
  refine ct_h (hkN_ok (.cons oAw12 (.cons oMMay (.cons oNum .nil))) .nil (.cons iTel_ok (.cons iStd12_4_ok .nil))) mixed hkN_loops Tryz.func4 rfl rfl rfl ?_
  rw [eMF]
  refine ⟨⟨rfl, rfl, ?_⟩⟩
  obtain ⟨d, hd, d1, d2⟩ := d1023 x
  obtain ⟨u0, u1⟩ := umod (w := w) (n := 10) (by omega)
  simp only [hd, wrap_id (x := 0 - d) (by omega) (by omega), wrap_id (x := 9 + d) (by omega) (by omega), wrap_id (x := 65535 + d) (by omega) (by omega), wrap_id (x := 3 + d) (by omega) (by omega)]
  generalize Int.tmod (IntKind.wrap IntKind.u64 w) 10 = u at u0 u1 ⊢
  have hu : u = 0 ∨ u = 1 ∨ u = 2 ∨ u = 3 ∨ u = 4 ∨ u = 5 ∨ u = 6 ∨ u = 7 ∨ u = 8 ∨ u = 9 := by omega
  rcases hu with rfl | rfl | rfl | rfl | rfl | rfl | rfl | rfl | rfl | rfl <;> simp only [Int.reduceBEq, cond_true, cond_false, true_and]
  · refine mf_leaf (mm_am ?_)
    simp [amay, rowMay, badW, toZ, dI, wmayR, wmay, val8, upto_f (x := -d) (lo := 0) (hi := 255) (by omega)]
  · refine mf_leaf (mm_ck ?_)
    simp [clkB, clk, upto_f (x := -d) (lo := 0) (hi := 65535) (by omega)]
  · refine mf_leaf (mm_ck ?_)
    simp [clkB, clk, upto_f (x := 65535 + d) (lo := 0) (hi := 65535) (by omega)]
  · refine mf_leaf (mm_mx ?_)
    simp [mx4, mx]; omega
  · refine mf_leaf (mm_ck ?_)
    simp [clkB, ck4, clk, upto_f (x := -d) (lo := 0) (hi := 65535) (by omega)]
  · refine mf_leaf (mm_s0 (sm_lab ?_))
    exact upto_f (by simp; omega)
end

end Vm
