/- An interpreter for Go's texts over plain data, its proof, and what it says of the functions that the law reaches. My own work. -/
import Derived.Test.YtnhodnfnlnccaaaGreatCr4
set_option linter.unusedSimpArgs false
set_option linter.unusedVariables false
set_option maxRecDepth 100000
set_option maxHeartbeats 2000000
namespace Vm
section
open Go Go.Proofs
theorem Zqr (a b e : Int) : decide (mx a b > e) = (decide (a > e) || decide (b > e)) := by
  rw [Bool.eq_iff_iff]
  simp only [Bool.or_eq_true, decide_eq_true_eq]
  unfold mx
  split <;> omega
theorem Zno (c0 c1 c2 c3 e : Int) : ((ck4 c0 c1 c2 c3 && clk e) && !decide (mx4 c0 c1 c2 c3 > e)) = (clk e && (upto c0 0 e && (upto c1 0 e && (upto c2 0 e && upto c3 0 e)))) := by
  unfold mx4
  rw [Zqr, Zqr, Zqr, Bool.eq_iff_iff]
  unfold ck4 clk upto
  simp only [Bool.and_eq_true, Bool.not_eq_true', Bool.or_eq_false_iff, decide_eq_true_eq, decide_eq_false_iff_not]
  omega
theorem ZhB (a b : Int) : (!decide (a ≥ b)) = !decide (b ≤ a) := rfl
theorem bN {p : Bool} {R : Prop} {q : Bool} (h : p = true → R) (h2 : p = false → q = false) : bif !p then (DV.c (.v (.bool false)) = B q) else R := by
  cases p
  · rw [h2 rfl]; rfl
  · exact h rfl
theorem bP {p : Bool} {R : Prop} {q : Bool} (h : p = false → R) (h2 : p = true → q = false) : bif p then (DV.c (.v (.bool false)) = B q) else R := by
  cases p
  · exact h rfl
  · rw [h2 rfl]; rfl
theorem bO {p : Bool} {R : Prop} (hp : p = true) (h : R) : bif p then R else False := by rw [hp]; exact h
theorem bT {T : Prop} {t : List (List Int)} {q : Bool} (hT : T) (h1 : t.any noEv = true → q = false) (h2 : t.any noEv = false → q = true) : T ∧ (∀ i : Nat, firstAt (fun i => noEv (List.getD t i [])) (List.length t) i → (DV.c (.v (.bool false)) = B q)) ∧ (noneTo (fun i => noEv (List.getD t i [])) (List.length t) → (DV.c (.v (.bool true)) = B q)) :=
  ⟨hT, fun i hi => by rw [h1 hi.any], fun hn => by rw [h2 hn.any]⟩
theorem ZrS {P : Program} {l : List (FuncId × Spec)} {fn : Func} {k1 k2 k3 : Nat} {s3 : LSum} (hn : (ZaU (Zar fn)).length = 3) (e1 : Zbp (Zap fn 0) = k1) (e2 : Zbp (Zap fn 1) = k2) (e3 : Zbp (Zap fn 2) = k3) (n1 : Nat.beq k3 k1 = false) (n2 : Nat.beq k3 k2 = false) (h3 : ∀ Q x, s3 Q x → XWP P (.loop (Zap fn 2)) Q x) : Zaq P (hkl l [(k3, s3)]) (Zar fn) :=
  ZcW 3 hn fun i hi s hs Q x hq => by
    match i, hi with
    | 0, _ =>
      rw [e1] at hs
      have hs' : ZcT [(k3, s3)] k1 = some s := hs
      simp only [ZcT, n1] at hs'
      cases hs'
    | 1, _ =>
      rw [e2] at hs
      have hs' : ZcT [(k3, s3)] k2 = some s := hs
      simp only [ZcT, n2] at hs'
      cases hs'
    | 2, _ =>
      rw [e3] at hs
      have hs' : some s3 = some s := by simpa [ZcT, hkl, hkA, Za0] using hs
      cases hs'
      exact h3 Q x hq
theorem ZfN {h : Mh} {ss : List SesD} {t : List (List Int)} (hw : wid 4 t) (hl : t.length ≤ 9223372036854775807) : Zaq Tryz.prog (hkl [(68, Zcj), (69, sB clk), (56, sUp), (70, Zh8)] [(14, fTr h ss t)]) (Zar Tryz.f27) :=
  ZrS rfl rfl rfl (by kernel_rfl) (by kernel_rfl) (by kernel_rfl) (fun Q x hq => kTr hw hl Q x hq)
theorem cRMt (h : Mh) (ss : List SesD) (t : List (List Int)) (hA : okA h.w0 h.w1 h.w2 h.w3 = true) (hw : wid 4 t) (hl : t.length ≤ 9223372036854775807) (hs : okSS ss = true) : CT Tryz.prog 27 [.agg (macL 0 (h.on t) ss)] (B (mmay (h.on t) ss)) := by
  have hq : ∀ s ∈ ss, Zay s = true := List.all_eq_true.1 hs
  rcases ss with _ | ⟨s0, _ | ⟨s1, _ | ⟨s2, _ | ⟨s3, _ | ⟨s4, l⟩⟩⟩⟩⟩
  · 
    have key : mmay (h.on t) [] = (amay (toZ h.w0) (toZ h.w1) (toZ h.w2) (toZ h.w3) && (clk h.ce && (!decide (((mZ t).length : Int) > 512) && (upto h.c0 0 h.ce && (upto h.c1 0 h.ce && (upto h.c2 0 h.ce && (upto h.c3 0 h.ce && !t.any noEv))))))) := by
      show (amay (toZ h.w0) (toZ h.w1) (toZ h.w2) (toZ h.w3) && ((ck4 h.c0 h.c1 h.c2 h.c3 && clk h.ce) && (!decide (mx4 h.c0 h.c1 h.c2 h.c3 > h.ce) && (!decide ((([] : List SesD).length : Int) > 4) && (!decide (((mZ t).length : Int) > 512) && (Zcf [] && (([] : List SesD).all (Zaj h.w0 h.w1 h.w2 h.w3) && !(toZ (mZ t)).any noEv))))))) = _
      rw [Zc5, ← Bool.and_assoc (ck4 h.c0 h.c1 h.c2 h.c3 && clk h.ce), Zno]
      simp only [Zcf, List.all_cons, List.all_nil, Bool.and_true, Bool.true_and, ZhB, (by simp : (!decide ((([] : List SesD).length : Int) > 4)) = true)]
      try ac_rfl
    refine ZhY (m := [(14, fTr h [] t)]) (.cons ZeQ (.cons Zf1 (.cons oUp2 (.cons Zmj .nil)))) mixed (ZfN hw hl) Tryz.func27 rfl rfl rfl ?_
    rw [ZsF]
    refine ⟨?_⟩
    refine bO hA ?_
    refine bN (fun gA => ?_) (fun g => by rw [key, g]; rfl)
    refine bN (fun gC => ?_) (fun g => by rw [key, gA, g]; rfl)
    refine bP (fun gT => ?_) (fun g => by rw [key, gA, gC, g]; rfl)
    refine bN (fun gc0 => ?_) (fun g => by rw [key, gA, gC, gT, g]; simp)
    refine bN (fun gc1 => ?_) (fun g => by rw [key, gA, gC, gT, gc0, g]; simp)
    refine bN (fun gc2 => ?_) (fun g => by rw [key, gA, gC, gT, gc0, gc1, g]; simp)
    refine bN (fun gc3 => ?_) (fun g => by rw [key, gA, gC, gT, gc0, gc1, gc2, g]; simp)
    exact bT rfl (fun g => by rw [key, gA, gC, gT, gc0, gc1, gc2, gc3, g]; rfl) (fun g => by rw [key, gA, gC, gT, gc0, gc1, gc2, gc3, g]; rfl)
  · 
    have q0 : Zay s0 = true := hq s0 (by simp)
    have key : mmay (h.on t) [s0] = (amay (toZ h.w0) (toZ h.w1) (toZ h.w2) (toZ h.w3) && (clk h.ce && (!decide (((mZ t).length : Int) > 512) && (upto h.c0 0 h.ce && (upto h.c1 0 h.ce && (upto h.c2 0 h.ce && (upto h.c3 0 h.ce && (Zaj h.w0 h.w1 h.w2 h.w3 s0 && !t.any noEv)))))))) := by
      show (amay (toZ h.w0) (toZ h.w1) (toZ h.w2) (toZ h.w3) && ((ck4 h.c0 h.c1 h.c2 h.c3 && clk h.ce) && (!decide (mx4 h.c0 h.c1 h.c2 h.c3 > h.ce) && (!decide ((([s0] : List SesD).length : Int) > 4) && (!decide (((mZ t).length : Int) > 512) && (Zcf [s0] && (([s0] : List SesD).all (Zaj h.w0 h.w1 h.w2 h.w3) && !(toZ (mZ t)).any noEv))))))) = _
      rw [Zc5, ← Bool.and_assoc (ck4 h.c0 h.c1 h.c2 h.c3 && clk h.ce), Zno]
      simp only [Zcf, List.all_cons, List.all_nil, Bool.and_true, Bool.true_and, ZhB, (by simp : (!decide ((([s0] : List SesD).length : Int) > 4)) = true)]
      try ac_rfl
    refine ZhY (m := [(14, fTr h [s0] t)]) (.cons ZeQ (.cons Zf1 (.cons oUp2 (.cons Zmj .nil)))) mixed (ZfN hw hl) Tryz.func27 rfl rfl rfl ?_
    rw [Zts]
    refine ⟨?_⟩
    refine bO hA ?_
    refine bN (fun gA => ?_) (fun g => by rw [key, g]; rfl)
    refine bN (fun gC => ?_) (fun g => by rw [key, gA, g]; rfl)
    refine bP (fun gT => ?_) (fun g => by rw [key, gA, gC, g]; rfl)
    refine bN (fun gc0 => ?_) (fun g => by rw [key, gA, gC, gT, g]; simp)
    refine bN (fun gc1 => ?_) (fun g => by rw [key, gA, gC, gT, gc0, g]; simp)
    refine bN (fun gc2 => ?_) (fun g => by rw [key, gA, gC, gT, gc0, gc1, g]; simp)
    refine bN (fun gc3 => ?_) (fun g => by rw [key, gA, gC, gT, gc0, gc1, gc2, g]; simp)
    refine bO (by rw [hA, q0]; rfl) ?_
    refine bN (fun gs0 => ?_) (fun g => by rw [key, gA, gC, gT, gc0, gc1, gc2, gc3, g]; simp)
    exact bT rfl (fun g => by rw [key, gA, gC, gT, gc0, gc1, gc2, gc3, gs0, g]; rfl) (fun g => by rw [key, gA, gC, gT, gc0, gc1, gc2, gc3, gs0, g]; rfl)
  · 
    have q0 : Zay s0 = true := hq s0 (by simp)
    have q1 : Zay s1 = true := hq s1 (by simp)
    have key : mmay (h.on t) [s0, s1] = (amay (toZ h.w0) (toZ h.w1) (toZ h.w2) (toZ h.w3) && (clk h.ce && (!decide (((mZ t).length : Int) > 512) && (upto h.c0 0 h.ce && (upto h.c1 0 h.ce && (upto h.c2 0 h.ce && (upto h.c3 0 h.ce && (Zaj h.w0 h.w1 h.w2 h.w3 s0 && (Zaj h.w0 h.w1 h.w2 h.w3 s1 && (!decide (s1.id ≤ s0.id) && !t.any noEv)))))))))) := by
      show (amay (toZ h.w0) (toZ h.w1) (toZ h.w2) (toZ h.w3) && ((ck4 h.c0 h.c1 h.c2 h.c3 && clk h.ce) && (!decide (mx4 h.c0 h.c1 h.c2 h.c3 > h.ce) && (!decide ((([s0, s1] : List SesD).length : Int) > 4) && (!decide (((mZ t).length : Int) > 512) && (Zcf [s0, s1] && (([s0, s1] : List SesD).all (Zaj h.w0 h.w1 h.w2 h.w3) && !(toZ (mZ t)).any noEv))))))) = _
      rw [Zc5, ← Bool.and_assoc (ck4 h.c0 h.c1 h.c2 h.c3 && clk h.ce), Zno]
      simp only [Zcf, List.all_cons, List.all_nil, Bool.and_true, Bool.true_and, ZhB, (by simp : (!decide ((([s0, s1] : List SesD).length : Int) > 4)) = true)]
      try ac_rfl
    refine ZhY (m := [(14, fTr h [s0, s1] t)]) (.cons ZeQ (.cons Zf1 (.cons oUp2 (.cons Zmj .nil)))) mixed (ZfN hw hl) Tryz.func27 rfl rfl rfl ?_
    rw [ZtQ]
    refine ⟨?_⟩
    refine bO hA ?_
    refine bN (fun gA => ?_) (fun g => by rw [key, g]; rfl)
    refine bN (fun gC => ?_) (fun g => by rw [key, gA, g]; rfl)
    refine bP (fun gT => ?_) (fun g => by rw [key, gA, gC, g]; rfl)
    refine bN (fun gc0 => ?_) (fun g => by rw [key, gA, gC, gT, g]; simp)
    refine bN (fun gc1 => ?_) (fun g => by rw [key, gA, gC, gT, gc0, g]; simp)
    refine bN (fun gc2 => ?_) (fun g => by rw [key, gA, gC, gT, gc0, gc1, g]; simp)
    refine bN (fun gc3 => ?_) (fun g => by rw [key, gA, gC, gT, gc0, gc1, gc2, g]; simp)
    refine bO (by rw [hA, q0]; rfl) ?_
    refine bN (fun gs0 => ?_) (fun g => by rw [key, gA, gC, gT, gc0, gc1, gc2, gc3, g]; simp)
    refine bO (by rw [hA, q1]; rfl) ?_
    refine bN (fun gs1 => ?_) (fun g => by rw [key, gA, gC, gT, gc0, gc1, gc2, gc3, gs0, g]; simp)
    refine bP (fun gi1 => ?_) (fun g => by rw [key, gA, gC, gT, gc0, gc1, gc2, gc3, gs0, gs1, g]; simp)
    exact bT rfl (fun g => by rw [key, gA, gC, gT, gc0, gc1, gc2, gc3, gs0, gs1, gi1, g]; rfl) (fun g => by rw [key, gA, gC, gT, gc0, gc1, gc2, gc3, gs0, gs1, gi1, g]; rfl)
  · 
    have q0 : Zay s0 = true := hq s0 (by simp)
    have q1 : Zay s1 = true := hq s1 (by simp)
    have q2 : Zay s2 = true := hq s2 (by simp)
    have key : mmay (h.on t) [s0, s1, s2] = (amay (toZ h.w0) (toZ h.w1) (toZ h.w2) (toZ h.w3) && (clk h.ce && (!decide (((mZ t).length : Int) > 512) && (upto h.c0 0 h.ce && (upto h.c1 0 h.ce && (upto h.c2 0 h.ce && (upto h.c3 0 h.ce && (Zaj h.w0 h.w1 h.w2 h.w3 s0 && (Zaj h.w0 h.w1 h.w2 h.w3 s1 && (!decide (s1.id ≤ s0.id) && (Zaj h.w0 h.w1 h.w2 h.w3 s2 && (!decide (s2.id ≤ s1.id) && !t.any noEv)))))))))))) := by
      show (amay (toZ h.w0) (toZ h.w1) (toZ h.w2) (toZ h.w3) && ((ck4 h.c0 h.c1 h.c2 h.c3 && clk h.ce) && (!decide (mx4 h.c0 h.c1 h.c2 h.c3 > h.ce) && (!decide ((([s0, s1, s2] : List SesD).length : Int) > 4) && (!decide (((mZ t).length : Int) > 512) && (Zcf [s0, s1, s2] && (([s0, s1, s2] : List SesD).all (Zaj h.w0 h.w1 h.w2 h.w3) && !(toZ (mZ t)).any noEv))))))) = _
      rw [Zc5, ← Bool.and_assoc (ck4 h.c0 h.c1 h.c2 h.c3 && clk h.ce), Zno]
      simp only [Zcf, List.all_cons, List.all_nil, Bool.and_true, Bool.true_and, ZhB, (by simp : (!decide ((([s0, s1, s2] : List SesD).length : Int) > 4)) = true)]
      try ac_rfl
    refine ZhY (m := [(14, fTr h [s0, s1, s2] t)]) (.cons ZeQ (.cons Zf1 (.cons oUp2 (.cons Zmj .nil)))) mixed (ZfN hw hl) Tryz.func27 rfl rfl rfl ?_
    rw [ZsE]
    refine ⟨?_⟩
    refine bO hA ?_
    refine bN (fun gA => ?_) (fun g => by rw [key, g]; rfl)
    refine bN (fun gC => ?_) (fun g => by rw [key, gA, g]; rfl)
    refine bP (fun gT => ?_) (fun g => by rw [key, gA, gC, g]; rfl)
    refine bN (fun gc0 => ?_) (fun g => by rw [key, gA, gC, gT, g]; simp)
    refine bN (fun gc1 => ?_) (fun g => by rw [key, gA, gC, gT, gc0, g]; simp)
    refine bN (fun gc2 => ?_) (fun g => by rw [key, gA, gC, gT, gc0, gc1, g]; simp)
    refine bN (fun gc3 => ?_) (fun g => by rw [key, gA, gC, gT, gc0, gc1, gc2, g]; simp)
    refine bO (by rw [hA, q0]; rfl) ?_
    refine bN (fun gs0 => ?_) (fun g => by rw [key, gA, gC, gT, gc0, gc1, gc2, gc3, g]; simp)
    refine bO (by rw [hA, q1]; rfl) ?_
    refine bN (fun gs1 => ?_) (fun g => by rw [key, gA, gC, gT, gc0, gc1, gc2, gc3, gs0, g]; simp)
    refine bP (fun gi1 => ?_) (fun g => by rw [key, gA, gC, gT, gc0, gc1, gc2, gc3, gs0, gs1, g]; simp)
    refine bO (by rw [hA, q2]; rfl) ?_
    refine bN (fun gs2 => ?_) (fun g => by rw [key, gA, gC, gT, gc0, gc1, gc2, gc3, gs0, gs1, gi1, g]; simp)
    refine bP (fun gi2 => ?_) (fun g => by rw [key, gA, gC, gT, gc0, gc1, gc2, gc3, gs0, gs1, gi1, gs2, g]; simp)
    exact bT rfl (fun g => by rw [key, gA, gC, gT, gc0, gc1, gc2, gc3, gs0, gs1, gi1, gs2, gi2, g]; rfl) (fun g => by rw [key, gA, gC, gT, gc0, gc1, gc2, gc3, gs0, gs1, gi1, gs2, gi2, g]; rfl)
  · 
    have q0 : Zay s0 = true := hq s0 (by simp)
    have q1 : Zay s1 = true := hq s1 (by simp)
    have q2 : Zay s2 = true := hq s2 (by simp)
    have q3 : Zay s3 = true := hq s3 (by simp)
    have key : mmay (h.on t) [s0, s1, s2, s3] = (amay (toZ h.w0) (toZ h.w1) (toZ h.w2) (toZ h.w3) && (clk h.ce && (!decide (((mZ t).length : Int) > 512) && (upto h.c0 0 h.ce && (upto h.c1 0 h.ce && (upto h.c2 0 h.ce && (upto h.c3 0 h.ce && (Zaj h.w0 h.w1 h.w2 h.w3 s0 && (Zaj h.w0 h.w1 h.w2 h.w3 s1 && (!decide (s1.id ≤ s0.id) && (Zaj h.w0 h.w1 h.w2 h.w3 s2 && (!decide (s2.id ≤ s1.id) && (Zaj h.w0 h.w1 h.w2 h.w3 s3 && (!decide (s3.id ≤ s2.id) && !t.any noEv)))))))))))))) := by
      show (amay (toZ h.w0) (toZ h.w1) (toZ h.w2) (toZ h.w3) && ((ck4 h.c0 h.c1 h.c2 h.c3 && clk h.ce) && (!decide (mx4 h.c0 h.c1 h.c2 h.c3 > h.ce) && (!decide ((([s0, s1, s2, s3] : List SesD).length : Int) > 4) && (!decide (((mZ t).length : Int) > 512) && (Zcf [s0, s1, s2, s3] && (([s0, s1, s2, s3] : List SesD).all (Zaj h.w0 h.w1 h.w2 h.w3) && !(toZ (mZ t)).any noEv))))))) = _
      rw [Zc5, ← Bool.and_assoc (ck4 h.c0 h.c1 h.c2 h.c3 && clk h.ce), Zno]
      simp only [Zcf, List.all_cons, List.all_nil, Bool.and_true, Bool.true_and, ZhB, (by simp : (!decide ((([s0, s1, s2, s3] : List SesD).length : Int) > 4)) = true)]
      try ac_rfl
    refine ZhY (m := [(14, fTr h [s0, s1, s2, s3] t)]) (.cons ZeQ (.cons Zf1 (.cons oUp2 (.cons Zmj .nil)))) mixed (ZfN hw hl) Tryz.func27 rfl rfl rfl ?_
    rw [Zsl]
    refine ⟨?_⟩
    refine bO hA ?_
    refine bN (fun gA => ?_) (fun g => by rw [key, g]; rfl)
    refine bN (fun gC => ?_) (fun g => by rw [key, gA, g]; rfl)
    refine bP (fun gT => ?_) (fun g => by rw [key, gA, gC, g]; rfl)
    refine bN (fun gc0 => ?_) (fun g => by rw [key, gA, gC, gT, g]; simp)
    refine bN (fun gc1 => ?_) (fun g => by rw [key, gA, gC, gT, gc0, g]; simp)
    refine bN (fun gc2 => ?_) (fun g => by rw [key, gA, gC, gT, gc0, gc1, g]; simp)
    refine bN (fun gc3 => ?_) (fun g => by rw [key, gA, gC, gT, gc0, gc1, gc2, g]; simp)
    refine bO (by rw [hA, q0]; rfl) ?_
    refine bN (fun gs0 => ?_) (fun g => by rw [key, gA, gC, gT, gc0, gc1, gc2, gc3, g]; simp)
    refine bO (by rw [hA, q1]; rfl) ?_
    refine bN (fun gs1 => ?_) (fun g => by rw [key, gA, gC, gT, gc0, gc1, gc2, gc3, gs0, g]; simp)
    refine bP (fun gi1 => ?_) (fun g => by rw [key, gA, gC, gT, gc0, gc1, gc2, gc3, gs0, gs1, g]; simp)
    refine bO (by rw [hA, q2]; rfl) ?_
    refine bN (fun gs2 => ?_) (fun g => by rw [key, gA, gC, gT, gc0, gc1, gc2, gc3, gs0, gs1, gi1, g]; simp)
    refine bP (fun gi2 => ?_) (fun g => by rw [key, gA, gC, gT, gc0, gc1, gc2, gc3, gs0, gs1, gi1, gs2, g]; simp)
    refine bO (by rw [hA, q3]; rfl) ?_
    refine bN (fun gs3 => ?_) (fun g => by rw [key, gA, gC, gT, gc0, gc1, gc2, gc3, gs0, gs1, gi1, gs2, gi2, g]; simp)
    refine bP (fun gi3 => ?_) (fun g => by rw [key, gA, gC, gT, gc0, gc1, gc2, gc3, gs0, gs1, gi1, gs2, gi2, gs3, g]; simp)
    exact bT rfl (fun g => by rw [key, gA, gC, gT, gc0, gc1, gc2, gc3, gs0, gs1, gi1, gs2, gi2, gs3, gi3, g]; rfl) (fun g => by rw [key, gA, gC, gT, gc0, gc1, gc2, gc3, gs0, gs1, gi1, gs2, gi2, gs3, gi3, g]; rfl)
  · refine ZhY (l := [(68, Zcj), (69, sB clk), (56, sUp)]) (m := [(4, fun _ _ => False)]) (.cons ZeQ (.cons Zf1 (.cons oUp2 .nil))) mixed ZkM Tryz.func27 rfl rfl rfl ?_
    rw [ZtC]
    refine ⟨?_⟩
    have h6 : mmay (h.on t) (s0 :: s1 :: s2 :: s3 :: s4 :: l) = false := by
      unfold mmay
      rw [(by simp; omega : (!decide (((s0 :: s1 :: s2 :: s3 :: s4 :: l).length : Int) > 4)) = false)]
      simp
    rw [h6]
    refine bO hA (bN (fun _ => bN (fun _ => bP (fun g => ?_) fun _ => rfl) fun _ => rfl) fun _ => rfl)
    simp at g
    omega
theorem cRM (h : Mh) (ss : List SesD) (hok : okM h ss = true) : CT Tryz.prog 27 [.agg (macL 0 h ss)] (B (mmay h ss)) := by
  obtain ⟨h1, h2, h3⟩ := ZeA hok
  obtain ⟨e, hw, hl⟩ := Zai h2
  have := cRMt h ss (toZ h.tr) h1 hw (by rw [Zav]; exact hl) h3
  have eh : h.on (toZ h.tr) = h := by unfold Mh.on; rw [← e]
  rwa [eh] at this
def sRMm : Spec := fun ds Q => match ds with
  | [d] => macA d fun h ss => cond (okM h ss) (Q (B (mmay h ss))) False
  | _ => False
theorem oRMm : Zad Tryz.prog 27 sRMm := o_al Tryz.func27 (by kernel_rfl) rfl fun ds Q h => by
  unfold sRMm at h; split at h
  · obtain ⟨m, ss, h, r⟩ := Zci h
    obtain ⟨h1, h2⟩ := Zae h
    exact ⟨_, _, .cons r .nil, cRM m ss h1, rfl, rfl, h2⟩
  · exact h.elim
end

section
open Go Go.Proofs
theorem ZoS {R : List (List D)} (h : smR 4398046510977 R = true) : allV R = true ∧ decide (R.length * 32 ≤ 140737488355328) = true ∧ decide (R.length ≤ 9223372036854775807) = true ∧ (R.all fun r => r.all D.keeps) = true := by
  obtain ⟨a, b, c⟩ := Zab h
  exact ⟨a, decide_eq_true (by omega), decide_eq_true (by omega), c⟩
theorem ZoL {R : List (List D)} (h : smR 5864062014635 R = true) : allV R = true ∧ decide (R.length * 24 ≤ 140737488355328) = true ∧ decide (R.length ≤ 9223372036854775807) = true ∧ (R.all fun r => r.all D.keeps) = true := by
  obtain ⟨a, b, c⟩ := Zab h
  exact ⟨a, decide_eq_true (by omega), decide_eq_true (by omega), c⟩
theorem ZsL (s : SesD) (K : DV → Prop) : (ask Tryz.prog [] Tryz.f98 [.agg (sesL 0 s)] K) = (bif allV s.pg then bif true && (decide ((0 + List.length s.pg) * 32 ≤ 140737488355328) && decide (0 + List.length s.pg ≤ 9223372036854775807)) then bif allV s.rd then bif true && (decide ((0 + List.length s.rd) * 24 ≤ 140737488355328) && decide (0 + List.length s.rd ≤ 9223372036854775807)) then bif allV s.wt then bif true && (decide ((0 + List.length s.wt) * 24 ≤ 140737488355328) && decide (0 + List.length s.wt ≤ 9223372036854775807)) then bif decide (0 + List.length s.pg ≤ List.length ([] ++ s.pg)) && List.all ([] ++ s.pg) fun r => List.all r D.keeps then bif decide (0 + List.length s.rd ≤ List.length ([] ++ s.rd)) && List.all ([] ++ s.rd) fun r => List.all r D.keeps then bif decide (0 + List.length s.wt ≤ List.length ([] ++ s.wt)) && List.all ([] ++ s.wt) fun r => List.all r D.keeps then K (DV.agg [vN s.id, vN s.lb, vN s.cl, D.s (1) (4) (List.take (0 + List.length s.pg) ([] ++ s.pg)) (List.take (0 + List.length s.pg - (0 + List.length s.pg)) (List.drop (0 + List.length s.pg) ([] ++ s.pg))), vN s.st, vN s.pc, vN s.r0, vN s.r1, vN s.r2, vN s.r3, D.s (1) (3) (List.take (0 + List.length s.rd) ([] ++ s.rd)) (List.take (0 + List.length s.rd - (0 + List.length s.rd)) (List.drop (0 + List.length s.rd) ([] ++ s.rd))), D.s (1) (3) (List.take (0 + List.length s.wt) ([] ++ s.wt)) (List.take (0 + List.length s.wt - (0 + List.length s.wt)) (List.drop (0 + List.length s.wt) ([] ++ s.wt))), vN s.at', vN s.sp, vN s.tr, vN s.rs, vN s.to]) else False else False else False else False else False else False else False else False else False) := by kernel_rfl
theorem ZtO (s : SesD) (hs : smS s = true) : CT Tryz.prog 98 [.agg (sesL 0 s)] (.agg (sesL 1 s)) := by
  obtain ⟨h1, h2, h3⟩ := Zaw hs
  obtain ⟨a1, a2, a3, a4⟩ := ZoS h1
  obtain ⟨b1, b2, b3, b4⟩ := ZoL h2
  obtain ⟨c1, c2, c3, c4⟩ := ZoL h3
  refine ct_s .nil mixed Tryz.func98 rfl rfl rfl ?_
  rw [ZsL]
  refine ⟨?_⟩
  simp only [a1, a2, a3, a4, b1, b2, b3, b4, c1, c2, c3, c4, Nat.zero_add, List.nil_append, List.append_nil, Nat.le_refl, decide_true, Bool.and_self, Bool.true_and, cond_true, ZbD, Nat.add_zero, Nat.sub_self, List.take_zero]
  rfl
theorem Zmy : Zad Tryz.prog 98 ZdC := o_al Tryz.func98 (by kernel_rfl) rfl fun ds Q h => by
  unfold ZdC at h; split at h
  · obtain ⟨s, h, r⟩ := Zb9 h
    obtain ⟨h1, h2⟩ := Zae h
    exact ⟨_, _, .cons r .nil, ZtO s h1, Zg2 h1, rfl, h2⟩
  · exact h.elim
theorem ZrF (h : Mh) (K : DV → Prop) : (askH Tryz.prog (hkM [(97, Zb3), (98, ZdC)] [] []) Tryz.f58 [.agg (macL 0 h [])] K) = (bif okC4 h.w0 h.w1 h.w2 h.w3 then bif allV h.tr then bif true && (decide ((0 + List.length h.tr) * 32 ≤ 140737488355328) && decide (0 + List.length h.tr ≤ 9223372036854775807)) then bif kX h.w0 then bif kX h.w1 then bif kX h.w2 then bif kX h.w3 then bif decide (0 + List.length h.tr ≤ List.length ([] ++ h.tr)) && List.all ([] ++ h.tr) fun r => List.all r D.keeps then K (DV.agg [D.s (1) (3) (tC h.w0) (tD h.w0), D.s (1) (3) (tC h.w1) (tD h.w1), D.s (1) (3) (tC h.w2) (tD h.w2), D.s (1) (3) (tC h.w3) (tD h.w3), vN h.c0, vN h.c1, vN h.c2, vN h.c3, vN h.ce, nilV, D.s (1) (4) (List.take (0 + List.length h.tr) ([] ++ h.tr)) (List.take (0 + List.length h.tr - (0 + List.length h.tr)) (List.drop (0 + List.length h.tr) ([] ++ h.tr)))]) else False else False else False else False else False else False else False else False) := by kernel_rfl
theorem ZqQ (h : Mh) (s0 : SesD) (K : DV → Prop) : (askH Tryz.prog (hkM [(97, Zb3), (98, ZdC)] [] []) Tryz.f58 [.agg (macL 0 h [s0])] K) = (bif okC4 h.w0 h.w1 h.w2 h.w3 then bif smS s0 then bif allV h.tr then bif true && (decide ((0 + List.length h.tr) * 32 ≤ 140737488355328) && decide (0 + List.length h.tr ≤ 9223372036854775807)) then bif kX h.w0 then bif kX h.w1 then bif kX h.w2 then bif kX h.w3 then bif kX s0.pg then bif kX s0.rd then bif kX s0.wt then bif decide (0 + List.length h.tr ≤ List.length ([] ++ h.tr)) && List.all ([] ++ h.tr) fun r => List.all r D.keeps then K (DV.agg [D.s (1) (3) (tC h.w0) (tD h.w0), D.s (1) (3) (tC h.w1) (tD h.w1), D.s (1) (3) (tC h.w2) (tD h.w2), D.s (1) (3) (tC h.w3) (tD h.w3), vN h.c0, vN h.c1, vN h.c2, vN h.c3, vN h.ce, D.s (1) (17) [(sTt s0)] [], D.s (1) (4) (List.take (0 + List.length h.tr) ([] ++ h.tr)) (List.take (0 + List.length h.tr - (0 + List.length h.tr)) (List.drop (0 + List.length h.tr) ([] ++ h.tr)))]) else False else False else False else False else False else False else False else False else False else False else False else False) := by kernel_rfl
theorem ZqU (h : Mh) (s0 s1 : SesD) (K : DV → Prop) : (askH Tryz.prog (hkM [(97, Zb3), (98, ZdC)] [] []) Tryz.f58 [.agg (macL 0 h [s0, s1])] K) = (bif okC4 h.w0 h.w1 h.w2 h.w3 then bif smS s0 then bif smS s1 then bif allV h.tr then bif true && (decide ((0 + List.length h.tr) * 32 ≤ 140737488355328) && decide (0 + List.length h.tr ≤ 9223372036854775807)) then bif kX h.w0 then bif kX h.w1 then bif kX h.w2 then bif kX h.w3 then bif kX s0.pg then bif kX s0.rd then bif kX s0.wt then bif kX s1.pg then bif kX s1.rd then bif kX s1.wt then bif decide (0 + List.length h.tr ≤ List.length ([] ++ h.tr)) && List.all ([] ++ h.tr) fun r => List.all r D.keeps then K (DV.agg [D.s (1) (3) (tC h.w0) (tD h.w0), D.s (1) (3) (tC h.w1) (tD h.w1), D.s (1) (3) (tC h.w2) (tD h.w2), D.s (1) (3) (tC h.w3) (tD h.w3), vN h.c0, vN h.c1, vN h.c2, vN h.c3, vN h.ce, D.s (1) (17) [(sTt s0), (sTt s1)] [], D.s (1) (4) (List.take (0 + List.length h.tr) ([] ++ h.tr)) (List.take (0 + List.length h.tr - (0 + List.length h.tr)) (List.drop (0 + List.length h.tr) ([] ++ h.tr)))]) else False else False else False else False else False else False else False else False else False else False else False else False else False else False else False else False) := by kernel_rfl
theorem Zr8 (h : Mh) (s0 s1 s2 : SesD) (K : DV → Prop) : (askH Tryz.prog (hkM [(97, Zb3), (98, ZdC)] [] []) Tryz.f58 [.agg (macL 0 h [s0, s1, s2])] K) = (bif okC4 h.w0 h.w1 h.w2 h.w3 then bif smS s0 then bif smS s1 then bif smS s2 then bif allV h.tr then bif true && (decide ((0 + List.length h.tr) * 32 ≤ 140737488355328) && decide (0 + List.length h.tr ≤ 9223372036854775807)) then bif kX h.w0 then bif kX h.w1 then bif kX h.w2 then bif kX h.w3 then bif kX s0.pg then bif kX s0.rd then bif kX s0.wt then bif kX s1.pg then bif kX s1.rd then bif kX s1.wt then bif kX s2.pg then bif kX s2.rd then bif kX s2.wt then bif decide (0 + List.length h.tr ≤ List.length ([] ++ h.tr)) && List.all ([] ++ h.tr) fun r => List.all r D.keeps then K (DV.agg [D.s (1) (3) (tC h.w0) (tD h.w0), D.s (1) (3) (tC h.w1) (tD h.w1), D.s (1) (3) (tC h.w2) (tD h.w2), D.s (1) (3) (tC h.w3) (tD h.w3), vN h.c0, vN h.c1, vN h.c2, vN h.c3, vN h.ce, D.s (1) (17) [(sTt s0), (sTt s1), (sTt s2)] [], D.s (1) (4) (List.take (0 + List.length h.tr) ([] ++ h.tr)) (List.take (0 + List.length h.tr - (0 + List.length h.tr)) (List.drop (0 + List.length h.tr) ([] ++ h.tr)))]) else False else False else False else False else False else False else False else False else False else False else False else False else False else False else False else False else False else False else False else False) := by kernel_rfl
theorem ZqM (h : Mh) (s0 s1 s2 s3 : SesD) (K : DV → Prop) : (askH Tryz.prog (hkM [(97, Zb3), (98, ZdC)] [] []) Tryz.f58 [.agg (macL 0 h [s0, s1, s2, s3])] K) = (bif okC4 h.w0 h.w1 h.w2 h.w3 then bif smS s0 then bif smS s1 then bif smS s2 then bif smS s3 then bif allV h.tr then bif true && (decide ((0 + List.length h.tr) * 32 ≤ 140737488355328) && decide (0 + List.length h.tr ≤ 9223372036854775807)) then bif kX h.w0 then bif kX h.w1 then bif kX h.w2 then bif kX h.w3 then bif kX s0.pg then bif kX s0.rd then bif kX s0.wt then bif kX s1.pg then bif kX s1.rd then bif kX s1.wt then bif kX s2.pg then bif kX s2.rd then bif kX s2.wt then bif kX s3.pg then bif kX s3.rd then bif kX s3.wt then bif decide (0 + List.length h.tr ≤ List.length ([] ++ h.tr)) && List.all ([] ++ h.tr) fun r => List.all r D.keeps then K (DV.agg [D.s (1) (3) (tC h.w0) (tD h.w0), D.s (1) (3) (tC h.w1) (tD h.w1), D.s (1) (3) (tC h.w2) (tD h.w2), D.s (1) (3) (tC h.w3) (tD h.w3), vN h.c0, vN h.c1, vN h.c2, vN h.c3, vN h.ce, D.s (1) (17) [(sTt s0), (sTt s1), (sTt s2), (sTt s3)] [], D.s (1) (4) (List.take (0 + List.length h.tr) ([] ++ h.tr)) (List.take (0 + List.length h.tr - (0 + List.length h.tr)) (List.drop (0 + List.length h.tr) ([] ++ h.tr)))]) else False else False else False else False else False else False else False else False else False else False else False else False else False else False else False else False else False else False else False else False else False else False else False else False) := by kernel_rfl
theorem Zsu (h : Mh) (ss : List SesD) (hl : ss.length ≤ 4) (hm : smM h ss = true) : CT Tryz.prog 58 [.agg (macL 0 h ss)] (.agg (macL 1 h ss)) := by
  have h4 := ZoW hm
  obtain ⟨⟨a0, a1, a2, a3⟩, a4, a5⟩ := ZeD hm
  obtain ⟨_, _, b0⟩ := Zab a0
  obtain ⟨_, _, b1⟩ := Zab a1
  obtain ⟨_, _, b2⟩ := Zab a2
  obtain ⟨_, _, b3⟩ := Zab a3
  obtain ⟨t1, t2, t3, t4⟩ := ZoS a4
  rcases ss with _ | ⟨s0, _ | ⟨s1, _ | ⟨s2, _ | ⟨s3, _ | ⟨s4, l⟩⟩⟩⟩⟩
  · refine Zrn (.cons ZhS (.cons Zmy .nil)) .nil .nil mixed Tryz.func58 rfl rfl rfl ?_
    rw [ZrF]
    refine ⟨?_⟩
    simp only [kX, tC, tD, sTt]
    simp only [h4, b0, b1, b2, b3, t1, t2, t3, t4, Nat.zero_add, List.nil_append, List.append_nil, Nat.le_refl, decide_true, Bool.and_self, Bool.true_and, cond_true, ZbD, Nat.add_zero, Nat.sub_self, List.take_zero]
    exact .aggO (.cons (.refl _) (.cons (.refl _) (.cons (.refl _) (.cons (.refl _) (.cons (.refl _) (.cons (.refl _) (.cons (.refl _) (.cons (.refl _) (.cons (.refl _) (.cons (.nil 17) (.cons (.refl _) .nil)))))))))))
  · have q0 := a5 s0 (by simp)
    obtain ⟨p0, r0, w0⟩ := Zaw q0
    obtain ⟨_, _, x0⟩ := Zab p0
    obtain ⟨_, _, y0⟩ := Zab r0
    obtain ⟨_, _, z0⟩ := Zab w0
    refine ct_m (.cons ZhS (.cons Zmy .nil)) .nil .nil mixed Tryz.func58 rfl rfl rfl ?_
    rw [ZqQ]
    refine ⟨?_⟩
    simp only [kX, tC, tD, sTt]
    simp only [h4, b0, b1, b2, b3, t1, t2, t3, t4, q0, x0, y0, z0, Nat.zero_add, List.nil_append, List.append_nil, Nat.le_refl, decide_true, Bool.and_self, Bool.true_and, cond_true, ZbD, Nat.add_zero, Nat.sub_self, List.take_zero]
    rfl
  · have q0 := a5 s0 (by simp)
    obtain ⟨p0, r0, w0⟩ := Zaw q0
    obtain ⟨_, _, x0⟩ := Zab p0
    obtain ⟨_, _, y0⟩ := Zab r0
    obtain ⟨_, _, z0⟩ := Zab w0
    have q1 := a5 s1 (by simp)
    obtain ⟨p1, r1, w1⟩ := Zaw q1
    obtain ⟨_, _, x1⟩ := Zab p1
    obtain ⟨_, _, y1⟩ := Zab r1
    obtain ⟨_, _, z1⟩ := Zab w1
    refine ct_m (.cons ZhS (.cons Zmy .nil)) .nil .nil mixed Tryz.func58 rfl rfl rfl ?_
    rw [ZqU]
    refine ⟨?_⟩
    simp only [kX, tC, tD, sTt]
    simp only [h4, b0, b1, b2, b3, t1, t2, t3, t4, q0, x0, y0, z0, q1, x1, y1, z1, Nat.zero_add, List.nil_append, List.append_nil, Nat.le_refl, decide_true, Bool.and_self, Bool.true_and, cond_true, ZbD, Nat.add_zero, Nat.sub_self, List.take_zero]
    rfl
  · have q0 := a5 s0 (by simp)
    obtain ⟨p0, r0, w0⟩ := Zaw q0
    obtain ⟨_, _, x0⟩ := Zab p0
    obtain ⟨_, _, y0⟩ := Zab r0
    obtain ⟨_, _, z0⟩ := Zab w0
    have q1 := a5 s1 (by simp)
    obtain ⟨p1, r1, w1⟩ := Zaw q1
    obtain ⟨_, _, x1⟩ := Zab p1
    obtain ⟨_, _, y1⟩ := Zab r1
    obtain ⟨_, _, z1⟩ := Zab w1
    have q2 := a5 s2 (by simp)
    obtain ⟨p2, r2, w2⟩ := Zaw q2
    obtain ⟨_, _, x2⟩ := Zab p2
    obtain ⟨_, _, y2⟩ := Zab r2
    obtain ⟨_, _, z2⟩ := Zab w2
    refine ct_m (.cons ZhS (.cons Zmy .nil)) .nil .nil mixed Tryz.func58 rfl rfl rfl ?_
    rw [Zr8]
    refine ⟨?_⟩
    simp only [kX, tC, tD, sTt]
    simp only [h4, b0, b1, b2, b3, t1, t2, t3, t4, q0, x0, y0, z0, q1, x1, y1, z1, q2, x2, y2, z2, Nat.zero_add, List.nil_append, List.append_nil, Nat.le_refl, decide_true, Bool.and_self, Bool.true_and, cond_true, ZbD, Nat.add_zero, Nat.sub_self, List.take_zero]
    rfl
  · have q0 := a5 s0 (by simp)
    obtain ⟨p0, r0, w0⟩ := Zaw q0
    obtain ⟨_, _, x0⟩ := Zab p0
    obtain ⟨_, _, y0⟩ := Zab r0
    obtain ⟨_, _, z0⟩ := Zab w0
    have q1 := a5 s1 (by simp)
    obtain ⟨p1, r1, w1⟩ := Zaw q1
    obtain ⟨_, _, x1⟩ := Zab p1
    obtain ⟨_, _, y1⟩ := Zab r1
    obtain ⟨_, _, z1⟩ := Zab w1
    have q2 := a5 s2 (by simp)
    obtain ⟨p2, r2, w2⟩ := Zaw q2
    obtain ⟨_, _, x2⟩ := Zab p2
    obtain ⟨_, _, y2⟩ := Zab r2
    obtain ⟨_, _, z2⟩ := Zab w2
    have q3 := a5 s3 (by simp)
    obtain ⟨p3, r3, w3⟩ := Zaw q3
    obtain ⟨_, _, x3⟩ := Zab p3
    obtain ⟨_, _, y3⟩ := Zab r3
    obtain ⟨_, _, z3⟩ := Zab w3
    refine ct_m (.cons ZhS (.cons Zmy .nil)) .nil .nil mixed Tryz.func58 rfl rfl rfl ?_
    rw [ZqM]
    refine ⟨?_⟩
    simp only [kX, tC, tD, sTt]
    simp only [h4, b0, b1, b2, b3, t1, t2, t3, t4, q0, x0, y0, z0, q1, x1, y1, z1, q2, x2, y2, z2, q3, x3, y3, z3, Nat.zero_add, List.nil_append, List.append_nil, Nat.le_refl, decide_true, Bool.and_self, Bool.true_and, cond_true, ZbD, Nat.add_zero, Nat.sub_self, List.take_zero]
    rfl
  · simp at hl
theorem ZtK : Zad Tryz.prog 58 sCop := o_al Tryz.func58 (by kernel_rfl) rfl fun ds Q h => by
  unfold sCop at h; split at h
  · obtain ⟨m, ss, h, r⟩ := Zci h
    obtain ⟨h1, h2⟩ := Zae h
    rw [Bool.and_eq_true] at h1
    exact ⟨_, _, .cons r .nil, Zsu m ss (Nat.le_of_ble_eq_true h1.1) h1.2, Zhl h1.2, rfl, h2⟩
  · exact h.elim
end

section
open Go Go.Proofs
theorem CTN.args {P : Program} {f : FuncId} {ds es : List DV} {r : DV} (h : All2 AL ds es) (hc : CTN P f es r) : CTN P f ds r := fun w vs S G hov => by
  refine hc w vs S G ?_
  cases hov with
  | tup _ _ _ sub h1 h2 h3 h4 =>
    refine .tup vs es S sub (by rw [← h.len]; exact h1) (fun i e hi => ?_) h3 h4
    obtain ⟨d, g1, g2⟩ := h.get hi
    exact g2 _ _ _ _ (h2 i d g1)
theorem Zl7 {P : Program} {f : FuncId} {s s' : Spec} (hs : Zad P f s) (hd : ∀ ds Q, s' ds Q → ∃ es, All2 AL ds es ∧ s es Q) : Zad P f s' := fun ds Q h => by
  obtain ⟨es, h1, h2⟩ := hd ds Q h
  obtain ⟨hg, r, hc, hp, hf, hq⟩ := hs es Q h2
  exact ⟨hg, r, hc.args h1, .inr (.inr ((ZiF hc hp).args h1)), hf, hq⟩
def ZlT (cs : List D) (K : List (List D) → List (List D) → List (List D) → List (List D) → Prop) : Prop := match cs with
  | [a, b, c, d] => ZbH 1 a fun a => ZbH 1 b fun b => ZbH 1 c fun c => ZbH 1 d fun d => K a b c d
  | _ => False
theorem ZiZ {cs : List D} {K : List (List D) → List (List D) → List (List D) → List (List D) → Prop} (h : ZlT cs K) : ∃ a b c d, K a b c d ∧ All2 RD cs [.s 0 1 a [], .s 0 1 b [], .s 0 1 c [], .s 0 1 d []] := by
  unfold ZlT at h
  split at h
  · obtain ⟨a, h, e0⟩ := Zam h
    obtain ⟨b, h, e1⟩ := Zam h
    obtain ⟨c, h, e2⟩ := Zam h
    obtain ⟨d, h, e3⟩ := Zam h
    exact ⟨a, b, c, d, h, .cons e0 (.cons e1 (.cons e2 (.cons e3 .nil)))⟩
  · exact h.elim
def ZnD : Spec := fun ds Q => match ds with
  | [.agg cs] => cond (ZmK cs) (ZlT cs fun R0 R1 R2 R3 => cond (okV4 R0 R1 R2 R3) (cond (amay (toZ (mW R0)) (toZ (mW R1)) (toZ (mW R2)) (toZ (mW R3))) (Q (.tup [dO (mW R0) (mW R1) (mW R2) (mW R3), I 0])) (Q (.tup [dNil, I 400]))) False) False
  | _ => False
theorem Zog : ∀ ds Q, ZnD ds Q → ∃ es, All2 AL ds es ∧ sNew es Q := fun ds Q h => by
  unfold ZnD at h; split at h
  · obtain ⟨h0, h⟩ := Zae h
    obtain ⟨a, b, c, d, h, r⟩ := ZiZ h
    exact ⟨_, .cons (.agg r h0 rfl) .nil, h⟩
  · exact h.elim
theorem Zq0 : Zad Tryz.prog 50 ZnD := Zl7 ZtR Zog
def ZlU (cs : List D) (K : Int → Int → Int → List (List D) → Prop) : Prop := match cs with
  | [a, b, c, d] => Zbo a fun a => Zbo b fun b => Zbo c fun c => ZbH 4 d fun d => K a b c d
  | _ => False
theorem Zi2 {cs : List D} {K : Int → Int → Int → List (List D) → Prop} (h : ZlU cs K) : ∃ a b c d, K a b c d ∧ All2 RD cs [vN a, vN b, vN c, .s 0 4 d []] := by
  unfold ZlU at h
  split at h
  · obtain ⟨a, h, e0⟩ := Zak h
    obtain ⟨b, h, e1⟩ := Zak h
    obtain ⟨c, h, e2⟩ := Zak h
    obtain ⟨d, h, e3⟩ := Zam h
    exact ⟨a, b, c, d, h, .cons e0 (.cons e1 (.cons e2 (.cons e3 .nil)))⟩
  · exact h.elim
def Zkf : Spec := fun ds Q => match ds with
  | [.agg cs] => cond (ZmK cs) (ZlU cs fun i g c R => cond (okZ 4 R && decide (R.length ≤ 4398046510977)) (cond (smay i g c (toZ R)) (Q (.tup [ZmQ i g c (.s 1 4 R []), I 0])) (Q (.tup [ZmQ 0 0 0 nilD, I 1100]))) False) False
  | _ => False
theorem ZlC : ∀ ds Q, Zkf ds Q → ∃ es, All2 AL ds es ∧ Zql es Q := fun ds Q h => by
  unfold Zkf at h; split at h
  · obtain ⟨h0, h⟩ := Zae h
    obtain ⟨a, b, c, d, h, r⟩ := Zi2 h
    exact ⟨_, .cons (.agg r h0 rfl) .nil, h⟩
  · exact h.elim
theorem ZpD : Zad Tryz.prog 51 Zkf := Zl7 Zro ZlC
def ZrC : Inl := inlM Tryz.prog [(50, ZnD), (51, Zkf), (27, sRMm)] [] [] Tryz.f21
end

section
open Go Go.Proofs
theorem ZtE (h : Mh) (ss : List SesD) (at' : Int) (K : DV → Prop) : (ask Tryz.prog [(27, sAtD [.agg (macL 0 h ss)] (B (mmay h ss)))] Tryz.f55 [.agg (macL 0 h ss), I at'] K) = ([DV.agg (macL (0) h ss)] = [DV.agg (macL (0) h ss)] ∧ bif mmay h ss then bif decide (at' ≥ 0) then K (DV.c (D.v (Value.bool (decide (at' < @Nat.cast Int _ (List.length (List.map (sesL (0)) ss))))))) else K (DV.c (D.v (Value.bool false))) else K (DV.c (D.v (Value.bool false)))) := by kernel_rfl
theorem gRM : Goes Tryz.prog 27 := Zan Tryz.func27 (by kernel_rfl) rfl
theorem Zsk (h : Mh) (ss : List SesD) (i : Int) (hok : okM h ss = true) : CT Tryz.prog 55 [.agg (macL 0 h ss), I i] (B (Zca h ss i)) := by
  refine ct_s (.cons (oAtD gRM (cRM h ss hok) rfl rfl) .nil) mixed Tryz.func55 rfl rfl rfl ?_
  rw [ZtE]
  refine ⟨rfl, ?_⟩
  unfold Zca
  rw [List.length_map]
  simp only [bifK]
def ZqB : Spec := fun ds Q => match ds with
  | [d, e] => macA d fun h ss => inA e fun i => cond (okM h ss) (Q (B (Zca h ss i))) False
  | _ => False
theorem Zsj : Zad Tryz.prog 55 ZqB := o_al Tryz.func55 (by kernel_rfl) rfl fun ds Q h => by
  unfold ZqB at h; split at h
  · obtain ⟨m, ss, h, r⟩ := Zci h
    obtain ⟨i, h, rfl⟩ := ZkA h
    obtain ⟨h1, h2⟩ := Zae h
    exact ⟨_, _, .cons r (.cons (.refl _) .nil), Zsk m ss i h1, rfl, rfl, h2⟩
  · exact h.elim
def iRtl : Inl := inlM Tryz.prog [] [] [] Tryz.f57
theorem Znd : Zbf Tryz.prog 57 iRtl := Za8 .nil .nil .nil mixed Tryz.func57 rfl (Zan Tryz.func57 (by kernel_rfl) rfl)
end

section
open Go Go.Proofs
def frcI (n : Int) (K : Int → Prop) : Prop := match n with
  | .ofNat m => frcN m fun m => K (.ofNat m)
  | .negSucc m => frcN m fun m => K (.negSucc m)
theorem ZmE {n : Int} {K : Int → Prop} (h : frcI n K) : K n := by
  unfold frcI at h; split at h
  · exact ZaX h
  · exact ZaX h
def ZoA (f : D → (D → Prop) → Prop) : List D → (List D → Prop) → Prop
  | [], K => K []
  | d :: l, K => f d fun d => ZoA f l fun l => K (d :: l)
def ZnK (f : D → (D → Prop) → Prop) : List (List D) → (List (List D) → Prop) → Prop
  | [], K => K []
  | r :: l, K => ZoA f r fun r => ZnK f l fun l => K (r :: l)
def frcX : Nat → D → (D → Prop) → Prop
  | 0, d, K => K d
  | n + 1, d, K => match d with
    | .s t z rows sp => ZnK (frcX n) rows fun rows => ZnK (frcX n) sp fun sp => K (.s t z rows sp)
    | .v x => match x with
      | .int k i => frcI i fun i => K (.v (.int k i))
      | x => K (.v x)
    | d => K d
theorem Zec {f : D → (D → Prop) → Prop} (hf : ∀ d K, f d K → K d) : ∀ (l : List D) (K : List D → Prop), ZoA f l K → K l
  | [], K, h => h
  | d :: l, K, h => Zec hf l _ (hf d _ h)
theorem ZdN {f : D → (D → Prop) → Prop} (hf : ∀ d K, f d K → K d) : ∀ (l : List (List D)) (K : List (List D) → Prop), ZnK f l K → K l
  | [], K, h => h
  | r :: l, K, h => ZdN hf l _ (Zec hf r _ h)
theorem ZcD : ∀ (n : Nat) (d : D) (K : D → Prop), frcX n d K → K d
  | 0, d, K, h => h
  | n + 1, d, K, h => by
    unfold frcX at h; split at h
    · exact ZdN (ZcD n) _ _ (ZdN (ZcD n) _ _ h)
    · split at h
      · exact ZmE h
      · exact h
    · exact h
def frcV (d : DV) (K : DV → Prop) : Prop := match d with
  | .c d => frcX 3 d fun d => K (.c d)
  | .agg cs => ZoA (frcX 3) cs fun cs => K (.agg cs)
  | .tup [.c d, e] => frcX 3 d fun d => K (.tup [.c d, e])
  | d => K d
theorem ZlM {d : DV} {K : DV → Prop} (h : frcV d K) : K d := by
  unfold frcV at h; split at h
  · exact ZcD 3 _ _ h
  · exact Zec (ZcD 3) _ _ h
  · exact ZcD 3 _ _ h
  · exact h
def sF (s : Spec) : Spec := fun ds Q => s ds fun r => frcV r Q
theorem oF {P : Program} {f : FuncId} {s : Spec} (h : Zad P f s) : Zad P f (sF s) := fun ds Q hq => by
  obtain ⟨hg, r, hc, hp, hf, hq⟩ := h ds _ hq
  exact ⟨hg, r, hc, hp, hf, ZlM hq⟩
def ZdG : Inl := Zit Tryz.prog [34] (sF sCop)
theorem Zbx : Zbf Tryz.prog 58 ZdG := Zcs (oF ZtK)
def spC : List (FuncId × Spec) := [(55, ZqB), (56, sUp), (146, sUnd), (68, Zcj), (122, sRM), (123, sWMy), (145, sB idm), (164, Zd7), (121, Zow), (136, sB lab)]
theorem Zbr : SpecsOK Tryz.prog spC := .cons (Zsj) (.cons (oUp2) (.cons (Zr0) (.cons (ZeQ) (.cons (oQM) (.cons (oWPy) (.cons (oRId) (.cons (Ziu) (.cons (ZrG) (.cons (ZrW) (.nil))))))))))
def jRT : Inl := inlM Tryz.prog spC [] [] Tryz.f165
theorem Zq1 : Zbf Tryz.prog 165 jRT := Za8 Zbr .nil (.nil) mixed Tryz.func165 rfl (Zan Tryz.func165 (by kernel_rfl) rfl)
def Zq7 : Inl := inlM Tryz.prog spC [] [(165, jRT)] Tryz.f176
theorem ZnP : Zbf Tryz.prog 176 Zq7 := Za8 Zbr .nil (.cons Zq1 (.nil)) mixed Tryz.func176 rfl (Zan Tryz.func176 (by kernel_rfl) rfl)
def jWR : Inl := inlM Tryz.prog spC [] [] Tryz.f190
theorem Zrj : Zbf Tryz.prog 190 jWR := Za8 Zbr .nil (.nil) mixed Tryz.func190 rfl (Zan Tryz.func190 (by kernel_rfl) rfl)
def jFW : Inl := inlM Tryz.prog spC [] [] Tryz.f189
theorem ZrD : Zbf Tryz.prog 189 jFW := Za8 Zbr .nil (.nil) mixed Tryz.func189 rfl (Zan Tryz.func189 (by kernel_rfl) rfl)
def jPl : Inl := inlM Tryz.prog spC [] [] Tryz.f141
theorem Zrg : Zbf Tryz.prog 141 jPl := Za8 Zbr .nil (.nil) mixed Tryz.func141 rfl (Zan Tryz.func141 (by kernel_rfl) rfl)
def jWW : Inl := inlM Tryz.prog spC [] [(141, jPl)] Tryz.f87
theorem Zq4 : Zbf Tryz.prog 87 jWW := Za8 Zbr .nil (.cons Zrg (.nil)) mixed Tryz.func87 rfl (Zan Tryz.func87 (by kernel_rfl) rfl)
def jWA : Inl := inlM Tryz.prog spC [] [] Tryz.f171
theorem Zrx : Zbf Tryz.prog 171 jWA := Za8 Zbr .nil (.nil) mixed Tryz.func171 rfl (Zan Tryz.func171 (by kernel_rfl) rfl)
def jAdd : Inl := inlM Tryz.prog spC [] [] Tryz.f85
theorem Zqc : Zbf Tryz.prog 85 jAdd := Za8 Zbr .nil (.nil) mixed Tryz.func85 rfl (Zan Tryz.func85 (by kernel_rfl) rfl)
def Ziq : Inl := inlM Tryz.prog spC [] [] Tryz.f83
theorem Zdy : Zbf Tryz.prog 83 Ziq := Za8 Zbr .nil (.nil) mixed Tryz.func83 rfl (Zan Tryz.func83 (by kernel_rfl) rfl)
def ZmF : Inl := inlM Tryz.prog spC [] [(83, Ziq)] Tryz.f167
theorem Zis : Zbf Tryz.prog 167 ZmF := Za8 Zbr .nil (.cons Zdy (.nil)) mixed Tryz.func167 rfl (Zan Tryz.func167 (by kernel_rfl) rfl)
def ZoY : Inl := inlM Tryz.prog spC [] [(167, ZmF), (58, ZdG), (57, iRtl), (176, Zq7), (190, jWR), (189, jFW)] Tryz.f169
theorem ZlH : Zbf Tryz.prog 169 ZoY := Za8 Zbr .nil (.cons Zis (.cons Zbx (.cons Znd (.cons ZnP (.cons Zrj (.cons ZrD (.nil))))))) mixed Tryz.func169 rfl (Zan Tryz.func169 (by kernel_rfl) rfl)
def ZoU : Inl := inlM Tryz.prog spC [] [(83, Ziq), (58, ZdG), (57, iRtl), (87, jWW)] Tryz.f39
theorem ZlV : Zbf Tryz.prog 39 ZoU := Za8 Zbr .nil (.cons Zdy (.cons Zbx (.cons Znd (.cons Zq4 (.nil))))) mixed Tryz.func39 rfl (Zan Tryz.func39 (by kernel_rfl) rfl)
def Zq9 : Inl := inlM Tryz.prog spC [] [(83, Ziq), (58, ZdG), (85, jAdd)] Tryz.f34
theorem Zoc : Zbf Tryz.prog 34 Zq9 := Za8 Zbr .nil (.cons Zdy (.cons Zbx (.cons Zqc (.nil)))) mixed Tryz.func34 rfl (Zan Tryz.func34 (by kernel_rfl) rfl)
def jRun : Inl := inlM Tryz.prog spC [] [(83, Ziq), (167, ZmF), (169, ZoY), (39, ZoU), (34, Zq9), (58, ZdG), (171, jWA)] Tryz.f128
theorem Zg5 : Zbf Tryz.prog 128 jRun := Za8 Zbr .nil (.cons Zdy (.cons Zis (.cons ZlH (.cons ZlV (.cons Zoc (.cons Zbx (.cons Zrx (.nil)))))))) mixed Tryz.func128 rfl (Zan Tryz.func128 (by kernel_rfl) rfl)
end

section
open Go Go.Proofs
theorem Zrk {s : SesD} (hs : Zay s = true) (h0 : 0 ≤ s.pc) (h1 : s.pc < s.pg.length) : iOK s = true := by
  unfold Zay at hs
  simp only [Bool.and_eq_true] at hs
  obtain ⟨e, w, _⟩ := Zai hs.1
  have hk : s.pc.toNat < (toZ s.pg).length := by rw [Zav]; omega
  unfold iOK
  rw [e]
  exact Zau (j := 0) (n := 4) w hk (by omega)
theorem ins_eq {s : SesD} (hs : Zay s = true) : iC s = ((toZ s.pg).getD s.pc.toNat []).getD 0 0 ∧ iA s = ((toZ s.pg).getD s.pc.toNat []).getD 1 0 ∧ iB s = ((toZ s.pg).getD s.pc.toNat []).getD 2 0 ∧ iD s = ((toZ s.pg).getD s.pc.toNat []).getD 3 0 := by
  unfold Zay at hs
  simp only [Bool.and_eq_true] at hs
  obtain ⟨e, w, _⟩ := Zai hs.1
  have key : ∀ j, hdJ (List.drop j (List.getD s.pg (Int.toNat s.pc) [])) = ((toZ s.pg).getD s.pc.toNat []).getD j 0 := fun j => by
    conv => lhs; rw [e]
    exact Zb6 _ _ j
  unfold iC iA iB iD
  refine ⟨key 0, ?_, ?_, ?_⟩
  · rw [← key 1]; simp [List.drop_one]
  · rw [← key 2]; simp [List.tail_drop, ← List.drop_one]
  · rw [← key 3]; simp [List.tail_drop, ← List.drop_one]
theorem Zqt {s : SesD} (hs : Zay s = true) {R0 R1 R2 R3 : List (List D)} (hm : Zaj R0 R1 R2 R3 s = true) (h1 : s.pc < s.pg.length) : imay (iC s) (iA s) (iB s) (iD s) = true ∧ (iC s = 4 → s.pc < iB s ∧ iB s ≤ s.pg.length) := by
  obtain ⟨e1, e2, e3, e4⟩ := ins_eq hs
  have h0 := (Ze4 hm).1
  unfold Zaj smay at hm
  simp only [Bool.and_eq_true] at hm
  have hp := hm.1.2.2.2.2
  unfold pmay ZbE at hp
  simp only [Bool.and_eq_true, List.all_eq_true, List.mem_range] at hp
  have := hp.1 s.pc.toNat (by rw [Zav]; omega)
  unfold pI Zsc at this
  rw [← e1, ← e2, ← e3, ← e4] at this
  simp only [Bool.and_eq_true, Bool.not_eq_true', Bool.and_eq_false_iff, Bool.or_eq_false_iff, beq_eq_false_iff_ne, decide_eq_false_iff_not] at this
  refine ⟨this.1, fun h4 => ?_⟩
  rcases this.2 with h | h
  · exact (h h4).elim
  · rw [Zav] at h; omega
theorem Zs8 {n : Int} (h0 : 0 ≤ n) (h1 : n ≤ 1000000) : IntKind.wrap IntKind.i64 (n + 1) = n + 1 := by
  obtain ⟨m, rfl⟩ := Int.eq_ofNat_of_zero_le h0
  exact Zas (n := 1) (by omega)
def Zjy (s : SesD) (a : Int) : Int := bif decide (a = 0) then s.r0 else bif decide (a = 1) then s.r1 else bif decide (a = 2) then s.r2 else s.r3
def SesD.regs (s : SesD) (n : N5) (to : Int) : SesD := { s with r0 := n.a, r1 := n.b, r2 := n.c, r3 := n.d, pc := to }
def ZfZ (s : SesD) : SesD :=
  bif iC s == 0 then s.regs (setR s.r0 s.r1 s.r2 s.r3 (iA s) (iB s)) (s.pc + 1)
  else bif iC s == 1 then s.regs (addR s.r0 s.r1 s.r2 s.r3 (iA s) (iB s)) (s.pc + 1)
  else bif Zjy s (iA s) == 0 then { s with pc := iB s } else { s with pc := s.pc + 1 }
theorem ZtI (h : Mh) (ss : List SesD) (s : SesD) (i : Int) (t : Bool) (K : DV → Prop) : (askW Tryz.prog (hkF [(80, sAtD [.c (.p 0 (macL 0 h ss) 0), I i, .c (.s 0 1 [[vi 0], [vi 1], [vi 4]] [])] (B t)), (81, sSet), (82, sAdd)] [] [(53, iCpF t h ss i s)]) Tryz.f33 [.agg (macL 0 h ss), I i] K) = ([DV.c (D.p (0) (macL (0) h ss) (0)), I i, DV.c (D.s (0) (1) [[vi (0)], [vi (1)], [vi (4)]] [])] = [DV.c (D.p (0) (macL (0) h ss) (0)), I i, DV.c (D.s (0) (1) [[vi (0)], [vi (1)], [vi (4)]] [])] ∧ bif !t then K (DV.tup [DV.agg mac0, I (1700)]) else t = true ∧ [DV.agg (macL (0) h ss)] = [DV.agg (macL (0) h ss)] ∧ ZjJ (List.map (sesL (1)) ss) (Int.toNat i) (1) s ∧ bif decide (0 ≤ i) && decide (i < @Nat.cast Int _ (List.length (List.map (sesL (1)) ss))) then foAt (addN (0) (Int.toNat i)) (Int.toNat i) (List.length (List.map (sesL (1)) ss)) ∧ foAt (addN (0) (Int.toNat i)) (Int.toNat i) (List.length (List.map (sesL (1)) ss)) ∧ bif decide (0 ≤ s.pc) && decide (s.pc < @Nat.cast Int _ (List.length s.pg)) then bif iOK s then foAt (addN (0) (Int.toNat i)) (Int.toNat i) (List.length (List.map (sesL (1)) ss)) ∧ foAt (addN (0) (Int.toNat i)) (Int.toNat i) (List.length (List.map (sesL (1)) ss)) ∧ bif iC s == 0 then foAt (addN (0) (Int.toNat i)) (Int.toNat i) (List.length (List.map (sesL (1)) ss)) ∧ foAt (addN (0) (Int.toNat i)) (Int.toNat i) (List.length (List.map (sesL (1)) ss)) ∧ whole (List.length h.w0) h.w0 ∧ whole (List.length h.w1) h.w1 ∧ whole (List.length h.w2) h.w2 ∧ whole (List.length h.w3) h.w3 ∧ whole (List.length (List.map (sesL (1)) ss)) (List.set (List.map (sesL (1)) ss) (Int.toNat i) (sesL (1) { s with pc := (IntKind.wrap IntKind.i64 (s.pc + 1)), r0 := (setR s.r0 s.r1 s.r2 s.r3 (iA s) (iB s)).a, r1 := (setR s.r0 s.r1 s.r2 s.r3 (iA s) (iB s)).b, r2 := (setR s.r0 s.r1 s.r2 s.r3 (iA s) (iB s)).c, r3 := (setR s.r0 s.r1 s.r2 s.r3 (iA s) (iB s)).d })) ∧ whole (List.length h.tr) h.tr ∧ K (DV.tup [DV.agg (ZcB (1) h (List.set (List.map (sesL (1)) ss) (Int.toNat i) (sesL (1) { s with pc := (IntKind.wrap IntKind.i64 (s.pc + 1)), r0 := (setR s.r0 s.r1 s.r2 s.r3 (iA s) (iB s)).a, r1 := (setR s.r0 s.r1 s.r2 s.r3 (iA s) (iB s)).b, r2 := (setR s.r0 s.r1 s.r2 s.r3 (iA s) (iB s)).c, r3 := (setR s.r0 s.r1 s.r2 s.r3 (iA s) (iB s)).d }))), I (0)]) else bif iC s == 1 then foAt (addN (0) (Int.toNat i)) (Int.toNat i) (List.length (List.map (sesL (1)) ss)) ∧ foAt (addN (0) (Int.toNat i)) (Int.toNat i) (List.length (List.map (sesL (1)) ss)) ∧ whole (List.length h.w0) h.w0 ∧ whole (List.length h.w1) h.w1 ∧ whole (List.length h.w2) h.w2 ∧ whole (List.length h.w3) h.w3 ∧ whole (List.length (List.map (sesL (1)) ss)) (List.set (List.map (sesL (1)) ss) (Int.toNat i) (sesL (1) { s with pc := (IntKind.wrap IntKind.i64 (s.pc + 1)), r0 := (addR s.r0 s.r1 s.r2 s.r3 (iA s) (iB s)).a, r1 := (addR s.r0 s.r1 s.r2 s.r3 (iA s) (iB s)).b, r2 := (addR s.r0 s.r1 s.r2 s.r3 (iA s) (iB s)).c, r3 := (addR s.r0 s.r1 s.r2 s.r3 (iA s) (iB s)).d })) ∧ whole (List.length h.tr) h.tr ∧ K (DV.tup [DV.agg (ZcB (1) h (List.set (List.map (sesL (1)) ss) (Int.toNat i) (sesL (1) { s with pc := (IntKind.wrap IntKind.i64 (s.pc + 1)), r0 := (addR s.r0 s.r1 s.r2 s.r3 (iA s) (iB s)).a, r1 := (addR s.r0 s.r1 s.r2 s.r3 (iA s) (iB s)).b, r2 := (addR s.r0 s.r1 s.r2 s.r3 (iA s) (iB s)).c, r3 := (addR s.r0 s.r1 s.r2 s.r3 (iA s) (iB s)).d }))), I (0)]) else bif decide (iA s = 0) then foAt (addN (0) (Int.toNat i)) (Int.toNat i) (List.length (List.map (sesL (1)) ss)) ∧ bif s.r0 == 0 then foAt (addN (0) (Int.toNat i)) (Int.toNat i) (List.length (List.map (sesL (1)) ss)) ∧ whole (List.length h.w0) h.w0 ∧ whole (List.length h.w1) h.w1 ∧ whole (List.length h.w2) h.w2 ∧ whole (List.length h.w3) h.w3 ∧ whole (List.length (List.map (sesL (1)) ss)) (List.set (List.map (sesL (1)) ss) (Int.toNat i) (sesL (1) { s with pc := (iB s) })) ∧ whole (List.length h.tr) h.tr ∧ K (DV.tup [DV.agg (ZcB (1) h (List.set (List.map (sesL (1)) ss) (Int.toNat i) (sesL (1) { s with pc := (iB s) }))), I (0)]) else whole (List.length h.w0) h.w0 ∧ whole (List.length h.w1) h.w1 ∧ whole (List.length h.w2) h.w2 ∧ whole (List.length h.w3) h.w3 ∧ whole (List.length (List.map (sesL (1)) ss)) (List.set (List.map (sesL (1)) ss) (Int.toNat i) (sesL (1) { s with pc := (IntKind.wrap IntKind.i64 (s.pc + 1)) })) ∧ whole (List.length h.tr) h.tr ∧ K (DV.tup [DV.agg (ZcB (1) h (List.set (List.map (sesL (1)) ss) (Int.toNat i) (sesL (1) { s with pc := (IntKind.wrap IntKind.i64 (s.pc + 1)) }))), I (0)]) else bif decide (iA s = 1) then foAt (addN (0) (Int.toNat i)) (Int.toNat i) (List.length (List.map (sesL (1)) ss)) ∧ bif s.r1 == 0 then foAt (addN (0) (Int.toNat i)) (Int.toNat i) (List.length (List.map (sesL (1)) ss)) ∧ whole (List.length h.w0) h.w0 ∧ whole (List.length h.w1) h.w1 ∧ whole (List.length h.w2) h.w2 ∧ whole (List.length h.w3) h.w3 ∧ whole (List.length (List.map (sesL (1)) ss)) (List.set (List.map (sesL (1)) ss) (Int.toNat i) (sesL (1) { s with pc := (iB s) })) ∧ whole (List.length h.tr) h.tr ∧ K (DV.tup [DV.agg (ZcB (1) h (List.set (List.map (sesL (1)) ss) (Int.toNat i) (sesL (1) { s with pc := (iB s) }))), I (0)]) else whole (List.length h.w0) h.w0 ∧ whole (List.length h.w1) h.w1 ∧ whole (List.length h.w2) h.w2 ∧ whole (List.length h.w3) h.w3 ∧ whole (List.length (List.map (sesL (1)) ss)) (List.set (List.map (sesL (1)) ss) (Int.toNat i) (sesL (1) { s with pc := (IntKind.wrap IntKind.i64 (s.pc + 1)) })) ∧ whole (List.length h.tr) h.tr ∧ K (DV.tup [DV.agg (ZcB (1) h (List.set (List.map (sesL (1)) ss) (Int.toNat i) (sesL (1) { s with pc := (IntKind.wrap IntKind.i64 (s.pc + 1)) }))), I (0)]) else bif decide (iA s = 2) then foAt (addN (0) (Int.toNat i)) (Int.toNat i) (List.length (List.map (sesL (1)) ss)) ∧ bif s.r2 == 0 then foAt (addN (0) (Int.toNat i)) (Int.toNat i) (List.length (List.map (sesL (1)) ss)) ∧ whole (List.length h.w0) h.w0 ∧ whole (List.length h.w1) h.w1 ∧ whole (List.length h.w2) h.w2 ∧ whole (List.length h.w3) h.w3 ∧ whole (List.length (List.map (sesL (1)) ss)) (List.set (List.map (sesL (1)) ss) (Int.toNat i) (sesL (1) { s with pc := (iB s) })) ∧ whole (List.length h.tr) h.tr ∧ K (DV.tup [DV.agg (ZcB (1) h (List.set (List.map (sesL (1)) ss) (Int.toNat i) (sesL (1) { s with pc := (iB s) }))), I (0)]) else whole (List.length h.w0) h.w0 ∧ whole (List.length h.w1) h.w1 ∧ whole (List.length h.w2) h.w2 ∧ whole (List.length h.w3) h.w3 ∧ whole (List.length (List.map (sesL (1)) ss)) (List.set (List.map (sesL (1)) ss) (Int.toNat i) (sesL (1) { s with pc := (IntKind.wrap IntKind.i64 (s.pc + 1)) })) ∧ whole (List.length h.tr) h.tr ∧ K (DV.tup [DV.agg (ZcB (1) h (List.set (List.map (sesL (1)) ss) (Int.toNat i) (sesL (1) { s with pc := (IntKind.wrap IntKind.i64 (s.pc + 1)) }))), I (0)]) else bif decide (iA s = 3) then foAt (addN (0) (Int.toNat i)) (Int.toNat i) (List.length (List.map (sesL (1)) ss)) ∧ bif s.r3 == 0 then foAt (addN (0) (Int.toNat i)) (Int.toNat i) (List.length (List.map (sesL (1)) ss)) ∧ whole (List.length h.w0) h.w0 ∧ whole (List.length h.w1) h.w1 ∧ whole (List.length h.w2) h.w2 ∧ whole (List.length h.w3) h.w3 ∧ whole (List.length (List.map (sesL (1)) ss)) (List.set (List.map (sesL (1)) ss) (Int.toNat i) (sesL (1) { s with pc := (iB s) })) ∧ whole (List.length h.tr) h.tr ∧ K (DV.tup [DV.agg (ZcB (1) h (List.set (List.map (sesL (1)) ss) (Int.toNat i) (sesL (1) { s with pc := (iB s) }))), I (0)]) else whole (List.length h.w0) h.w0 ∧ whole (List.length h.w1) h.w1 ∧ whole (List.length h.w2) h.w2 ∧ whole (List.length h.w3) h.w3 ∧ whole (List.length (List.map (sesL (1)) ss)) (List.set (List.map (sesL (1)) ss) (Int.toNat i) (sesL (1) { s with pc := (IntKind.wrap IntKind.i64 (s.pc + 1)) })) ∧ whole (List.length h.tr) h.tr ∧ K (DV.tup [DV.agg (ZcB (1) h (List.set (List.map (sesL (1)) ss) (Int.toNat i) (sesL (1) { s with pc := (IntKind.wrap IntKind.i64 (s.pc + 1)) }))), I (0)]) else False else False else False else False) := by kernel_rfl
theorem Zo3 {p : Int → Bool} {h : Mh} {ss : List SesD} (i : Int) (hok : okM h ss = true) : mAt p h ss i = true → smM h ss = true ∧ ss.length ≤ 4 := fun hm => by
  unfold mAt at hm
  rw [Bool.and_eq_true] at hm
  exact Zme i hok hm.1
theorem Zkt {p : Int → Bool} {h : Mh} {ss : List SesD} {i : Int} (hok : okM h ss = true) (hm : mAt p h ss i = true) : ∃ s, Foc h ss i s ∧ s.st = 0 ∧ 0 ≤ s.pc ∧ s.pc < s.pg.length ∧ s.pg.length ≤ 16 ∧ p (iC s) = true := by
  unfold mAt at hm
  rw [Bool.and_eq_true] at hm
  obtain ⟨s, f⟩ := foc hok hm.1
  have h2 := hm.2
  rw [f.at'] at h2
  simp only [atS, Bool.and_eq_true, decide_eq_true_eq, beq_iff_eq] at h2
  refine ⟨s, f, h2.1, (Ze4 f.may).1, h2.2.1, ?_, ?_⟩
  · have := f.may
    unfold Zaj smay at this
    simp only [Bool.and_eq_true] at this
    have := Zj5 this.1.2.2.2.2
    rwa [Zav] at this
  · have := h2.2.2
    unfold Zka at this
    unfold iC
    rw [List.drop_zero]; exact this
theorem Zmg {a b c x : Int} (h : has3 a b c x = true) : x = a ∨ x = b ∨ x = c := by
  unfold has3 at h
  cases h1 : x == a
  · cases h2 : x == b
    · cases h3 : x == c
      · simp [h1, h2, h3] at h
      · exact .inr (.inr (by simpa using h3))
    · exact .inr (.inl (by simpa using h2))
  · exact .inl (by simpa using h1)
theorem Zrl (h : Mh) (ss : List SesD) (i : Int) (hok : okM h ss = true) : CT Tryz.prog 33 [.agg (macL 0 h ss), I i] (bif mAt (has3 0 1 4) h ss i then macR h (ss.set i.toNat (ZfZ (ss.getD i.toNat default))) 0 else macE 1700) := by
  refine Zs2 (.cons (oAtD gAt (cAt3 h ss i 0 1 4 hok) rfl rfl) (.cons Zri (.cons Ztd .nil))) .nil (.cons (ZpM i (ss.getD i.toNat default) (Zo3 (p := has3 0 1 4) i hok)) .nil) mixed Tryz.func33 rfl rfl rfl ?_
  rw [ZtI]
  refine ⟨⟨rfl, ?_⟩⟩
  cases hm : mAt (has3 0 1 4) h ss i with
  | false => exact Ztq 1700
  | true =>
    obtain ⟨s, f, hst, hp0, hp1, hp2, hcode⟩ := Zkt hok hm
    rw [f.getD]
    refine ⟨rfl, rfl, f.row, ?_⟩
    have hpc : (decide (0 ≤ s.pc) && decide (s.pc < @Nat.cast Int _ (List.length s.pg))) = true := by rw [decide_eq_true hp0, decide_eq_true hp1]; rfl
    have hw : IntKind.wrap IntKind.i64 (s.pc + 1) = s.pc + 1 := Zs8 hp0 (by omega)
    obtain ⟨hmay, hz⟩ := Zqt f.ok f.may hp1
    simp only [f.ix, cond_true, f.foAt, true_and, hpc, Zrk f.ok hp0 hp1, hw]
    have fin : ∀ s', whole (List.length h.w0) h.w0 ∧ whole (List.length h.w1) h.w1 ∧ whole (List.length h.w2) h.w2 ∧ whole (List.length h.w3) h.w3 ∧ whole (List.length (List.map (sesL 1) ss)) (List.set (List.map (sesL 1) ss) (Int.toNat i) (sesL 1 s')) ∧ whole (List.length h.tr) h.tr ∧ AL (DV.tup [DV.agg (ZcB 1 h (List.set (List.map (sesL 1) ss) (Int.toNat i) (sesL 1 s'))), I 0]) (macR h (ss.set i.toNat s') 0) := fun s' => ⟨f.ow0, f.ow1, f.ow2, f.ow3, f.oss _ _, f.otr, Zpu _ _ _ _ _⟩
    unfold ZfZ
    cases h0 : iC s == 0
    · cases h1 : iC s == 1
      · have h4 : iC s = 4 := by
          rcases Zmg hcode with h | h | h
          · rw [h] at h0; cases h0
          · rw [h] at h1; cases h1
          · exact h
        have hA : iA s = 0 ∨ iA s = 1 ∨ iA s = 2 ∨ iA s = 3 := by
          unfold imay at hmay
          rw [h4] at hmay
          have : lab (iA s) = true := by simpa [Bool.and_eq_true] using (by simp at hmay; exact hmay.1 : lab (iA s) = true)
          exact ZcR this
        unfold Zjy
        rcases hA with e | e | e | e <;> rw [e] <;> simp only [Int.reduceEq, decide_true, decide_false, cond_true, cond_false] <;> first
          | (cases s.r0 == 0 <;> exact fin _)
          | (cases s.r1 == 0 <;> exact fin _)
          | (cases s.r2 == 0 <;> exact fin _)
          | (cases s.r3 == 0 <;> exact fin _)
      · exact fin _
    · exact fin _
end

section
open Go Go.Proofs
theorem ZtY (s : SesD) : Zjy s 0 = s.r0 := rfl
theorem ZtX (s : SesD) : Zjy s 1 = s.r1 := rfl
theorem ZtV (s : SesD) : Zjy s 2 = s.r2 := rfl
theorem ZtW (s : SesD) : Zjy s 3 = s.r3 := rfl
-- SUB decide (0 ≤ i) && decide (i < @Nat.cast Int _ (List.length (List.map (sesL (1)) ss))) => ixI i ss
-- SUB foAt (addN (0) (Int.toNat i)) (Int.toNat i) (List.length (List.map (sesL (1)) ss)) => foA i ss
-- SUB foAt (Int.toNat i) (Int.toNat i) (List.length (List.map (sesL (1)) ss)) => foB i ss
-- SUB decide (List.length h.tr ≤ List.length h.tr) && (decide ((List.length h.tr + 1) * 32 ≤ 140737488355328) && decide (List.length h.tr + 1 ≤ 9223372036854775807)) => rmT h
-- SUB whole (List.length h.w0) h.w0 => wO h.w0
-- SUB whole (List.length h.w1) h.w1 => wO h.w1
-- SUB whole (List.length h.w2) h.w2 => wO h.w2
-- SUB whole (List.length h.w3) h.w3 => wO h.w3
-- SUB whole (List.length h.tr) h.tr => wO h.tr
-- SUB List.set (List.map (sesL (1)) ss) (Int.toNat i) => stI i ss
-- SUB whole (List.length (List.map (sesL (1)) ss)) => wLs ss
def ixI (i : Int) (ss : List SesD) : Bool := decide (0 ≤ i) && decide (i < @Nat.cast Int _ (List.length (List.map (sesL 1) ss)))
def foA (i : Int) (ss : List SesD) : Prop := foAt (addN 0 (Int.toNat i)) (Int.toNat i) (List.length (List.map (sesL 1) ss))
def foB (i : Int) (ss : List SesD) : Prop := foAt (Int.toNat i) (Int.toNat i) (List.length (List.map (sesL 1) ss))
def rmT (h : Mh) : Bool := decide (List.length h.tr ≤ List.length h.tr) && (decide ((List.length h.tr + 1) * 32 ≤ 140737488355328) && decide (List.length h.tr + 1 ≤ 9223372036854775807))
def wO (R : List (List D)) : Prop := whole (List.length R) R
def stI (i : Int) (ss : List SesD) (r : List D) : List (List D) := List.set (List.map (sesL 1) ss) (Int.toNat i) r
def wLs (ss : List SesD) (R : List (List D)) : Prop := whole (List.length (List.map (sesL 1) ss)) R
end

section
open Go Go.Proofs
def bB : SesD := ⟨5, 1, 1, [[vN 2, vN 0, vN 0, vN 1], [vN 3, vN 0, vN 1, vN 0]], 0, 0, 0, 0, 0, 0, [], [], 0, 0, 0, 0, 0⟩
def bA0 : SesD := ⟨3, 0, 3, [[vN 2, vN 0, vN 0, vN 0], [vN 1, vN 0, vN 0, vN 0], [vN 3, vN 0, vN 0, vN 0]], 0, 0, 0, 0, 0, 0, [], [], 0, 0, 0, 0, 0⟩
def bH0 : Mh := ⟨[[vN 5, vN 0, vN 0], [vN 6, vN 0, vN 0]], [[vN 7, vN 0, vN 0]], [], [[vN 9, vN 0, vN 0]], 0, 0, 0, 0, 9, []⟩
def bA1 : SesD := ⟨3, 0, 3, [[vN 2, vN 0, vN 0, vN 0], [vN 1, vN 0, vN 0, vN 0], [vN 3, vN 0, vN 0, vN 0]], 0, 1, 5, 0, 0, 0, [[vN 0, vN 0, vN 0]], [], 0, 0, 0, 0, 0⟩
def bH1 : Mh := ⟨[[vN 5, vN 0, vN 0], [vN 6, vN 0, vN 0]], [[vN 7, vN 0, vN 0]], [], [[vN 9, vN 0, vN 0]], 0, 0, 0, 0, 9, [[vN 3, vN 0, vN 0, vN 5]]⟩
def bA2 : SesD := ⟨3, 0, 3, [[vN 2, vN 0, vN 0, vN 0], [vN 1, vN 0, vN 0, vN 0], [vN 3, vN 0, vN 0, vN 0]], 0, 2, 10, 0, 0, 0, [[vN 0, vN 0, vN 0]], [], 0, 0, 0, 0, 0⟩
def bH2 : Mh := ⟨[[vN 5, vN 0, vN 0], [vN 6, vN 0, vN 0]], [[vN 7, vN 0, vN 0]], [], [[vN 9, vN 0, vN 0]], 0, 0, 0, 0, 9, [[vN 3, vN 0, vN 0, vN 5]]⟩
def bA3 : SesD := ⟨3, 0, 3, [[vN 2, vN 0, vN 0, vN 0], [vN 1, vN 0, vN 0, vN 0], [vN 3, vN 0, vN 0, vN 0]], 0, 3, 10, 0, 0, 0, [[vN 0, vN 0, vN 0]], [[vN 0, vN 0, vN 10]], 0, 0, 0, 0, 0⟩
def bH3 : Mh := ⟨[[vN 5, vN 0, vN 0], [vN 6, vN 0, vN 0]], [[vN 7, vN 0, vN 0]], [], [[vN 9, vN 0, vN 0]], 0, 0, 0, 0, 9, [[vN 3, vN 0, vN 0, vN 5], [vN 3, vN 0, vN 1, vN 10]]⟩
def bA4 : SesD := ⟨3, 0, 3, [[vN 2, vN 0, vN 0, vN 0], [vN 1, vN 0, vN 0, vN 0], [vN 3, vN 0, vN 0, vN 0]], 1, 3, 10, 0, 0, 0, [[vN 0, vN 0, vN 0]], [[vN 0, vN 0, vN 10]], 0, 0, 0, 0, 0⟩
def bH4 : Mh := ⟨[[vN 5, vN 0, vN 0], [vN 6, vN 0, vN 0]], [[vN 7, vN 0, vN 0]], [], [[vN 9, vN 0, vN 0]], 0, 0, 0, 0, 9, [[vN 3, vN 0, vN 0, vN 5], [vN 3, vN 0, vN 1, vN 10]]⟩
theorem eSt1 (K : DV → Prop) : (askH Tryz.prog (hkM spC [] [(58, ZdG), (128, jRun)]) Tryz.f79 [.agg [D.s 0 3 [[D.v (Value.int IntKind.i64 5), D.v (Value.int IntKind.i64 0), D.v (Value.int IntKind.i64 0)], [D.v (Value.int IntKind.i64 6), D.v (Value.int IntKind.i64 0), D.v (Value.int IntKind.i64 0)]] [], D.s 0 3 [[D.v (Value.int IntKind.i64 7), D.v (Value.int IntKind.i64 0), D.v (Value.int IntKind.i64 0)]] [], D.s 0 3 [] [], D.s 0 3 [[D.v (Value.int IntKind.i64 9), D.v (Value.int IntKind.i64 0), D.v (Value.int IntKind.i64 0)]] [], D.v (Value.int IntKind.i64 0), D.v (Value.int IntKind.i64 0), D.v (Value.int IntKind.i64 0), D.v (Value.int IntKind.i64 0), D.v (Value.int IntKind.i64 9), D.s 0 17 [[D.v (Value.int IntKind.i64 3), D.v (Value.int IntKind.i64 0), D.v (Value.int IntKind.i64 3), D.s 0 4 [[D.v (Value.int IntKind.i64 2), D.v (Value.int IntKind.i64 0), D.v (Value.int IntKind.i64 0), D.v (Value.int IntKind.i64 0)], [D.v (Value.int IntKind.i64 1), D.v (Value.int IntKind.i64 0), D.v (Value.int IntKind.i64 0), D.v (Value.int IntKind.i64 0)], [D.v (Value.int IntKind.i64 3), D.v (Value.int IntKind.i64 0), D.v (Value.int IntKind.i64 0), D.v (Value.int IntKind.i64 0)]] [], D.v (Value.int IntKind.i64 0), D.v (Value.int IntKind.i64 0), D.v (Value.int IntKind.i64 0), D.v (Value.int IntKind.i64 0), D.v (Value.int IntKind.i64 0), D.v (Value.int IntKind.i64 0), D.s 0 3 [] [], D.s 0 3 [] [], D.v (Value.int IntKind.i64 0), D.v (Value.int IntKind.i64 0), D.v (Value.int IntKind.i64 0), D.v (Value.int IntKind.i64 0), D.v (Value.int IntKind.i64 0)], [D.v (Value.int IntKind.i64 5), D.v (Value.int IntKind.i64 1), D.v (Value.int IntKind.i64 1), D.s 0 4 [[D.v (Value.int IntKind.i64 2), D.v (Value.int IntKind.i64 0), D.v (Value.int IntKind.i64 0), D.v (Value.int IntKind.i64 1)], [D.v (Value.int IntKind.i64 3), D.v (Value.int IntKind.i64 0), D.v (Value.int IntKind.i64 1), D.v (Value.int IntKind.i64 0)]] [], D.v (Value.int IntKind.i64 0), D.v (Value.int IntKind.i64 0), D.v (Value.int IntKind.i64 0), D.v (Value.int IntKind.i64 0), D.v (Value.int IntKind.i64 0), D.v (Value.int IntKind.i64 0), D.s 0 3 [] [], D.s 0 3 [] [], D.v (Value.int IntKind.i64 0), D.v (Value.int IntKind.i64 0), D.v (Value.int IntKind.i64 0), D.v (Value.int IntKind.i64 0), D.v (Value.int IntKind.i64 0)]] [], D.s 0 4 [] []], I 0] K) = (K (DV.tup [DV.agg (ZcB (1) ⟨[[vN (5), vN (0), vN (0)], [vN (6), vN (0), vN (0)]], [[vN (7), vN (0), vN (0)]], [], [[vN (9), vN (0), vN (0)]], (0), (0), (0), (0), (9), [[vN (3), vN (0), vN (0), vN (5)]]⟩ [(sesL (1) ⟨(3), (0), (3), [[vN (2), vN (0), vN (0), vN (0)], [vN (1), vN (0), vN (0), vN (0)], [vN (3), vN (0), vN (0), vN (0)]], (0), (1), (5), (0), (0), (0), [[vN (0), vN (0), vN (0)]], [], (0), (0), (0), (0), (0)⟩), (sesL (1) ⟨(5), (1), (1), [[vN (2), vN (0), vN (0), vN (1)], [vN (3), vN (0), vN (1), vN (0)]], (0), (0), (0), (0), (0), (0), [], [], (0), (0), (0), (0), (0)⟩)]), I (0)])) := by kernel_rfl
theorem cSt1 : CT Tryz.prog 79 [.agg (macL 0 bH0 [bA0, bB]), I 0] (macR bH1 [bA1, bB] 0) := by
  have e : macL 0 bH0 [bA0, bB] = [D.s 0 3 [[D.v (Value.int IntKind.i64 5), D.v (Value.int IntKind.i64 0), D.v (Value.int IntKind.i64 0)], [D.v (Value.int IntKind.i64 6), D.v (Value.int IntKind.i64 0), D.v (Value.int IntKind.i64 0)]] [], D.s 0 3 [[D.v (Value.int IntKind.i64 7), D.v (Value.int IntKind.i64 0), D.v (Value.int IntKind.i64 0)]] [], D.s 0 3 [] [], D.s 0 3 [[D.v (Value.int IntKind.i64 9), D.v (Value.int IntKind.i64 0), D.v (Value.int IntKind.i64 0)]] [], D.v (Value.int IntKind.i64 0), D.v (Value.int IntKind.i64 0), D.v (Value.int IntKind.i64 0), D.v (Value.int IntKind.i64 0), D.v (Value.int IntKind.i64 9), D.s 0 17 [[D.v (Value.int IntKind.i64 3), D.v (Value.int IntKind.i64 0), D.v (Value.int IntKind.i64 3), D.s 0 4 [[D.v (Value.int IntKind.i64 2), D.v (Value.int IntKind.i64 0), D.v (Value.int IntKind.i64 0), D.v (Value.int IntKind.i64 0)], [D.v (Value.int IntKind.i64 1), D.v (Value.int IntKind.i64 0), D.v (Value.int IntKind.i64 0), D.v (Value.int IntKind.i64 0)], [D.v (Value.int IntKind.i64 3), D.v (Value.int IntKind.i64 0), D.v (Value.int IntKind.i64 0), D.v (Value.int IntKind.i64 0)]] [], D.v (Value.int IntKind.i64 0), D.v (Value.int IntKind.i64 0), D.v (Value.int IntKind.i64 0), D.v (Value.int IntKind.i64 0), D.v (Value.int IntKind.i64 0), D.v (Value.int IntKind.i64 0), D.s 0 3 [] [], D.s 0 3 [] [], D.v (Value.int IntKind.i64 0), D.v (Value.int IntKind.i64 0), D.v (Value.int IntKind.i64 0), D.v (Value.int IntKind.i64 0), D.v (Value.int IntKind.i64 0)], [D.v (Value.int IntKind.i64 5), D.v (Value.int IntKind.i64 1), D.v (Value.int IntKind.i64 1), D.s 0 4 [[D.v (Value.int IntKind.i64 2), D.v (Value.int IntKind.i64 0), D.v (Value.int IntKind.i64 0), D.v (Value.int IntKind.i64 1)], [D.v (Value.int IntKind.i64 3), D.v (Value.int IntKind.i64 0), D.v (Value.int IntKind.i64 1), D.v (Value.int IntKind.i64 0)]] [], D.v (Value.int IntKind.i64 0), D.v (Value.int IntKind.i64 0), D.v (Value.int IntKind.i64 0), D.v (Value.int IntKind.i64 0), D.v (Value.int IntKind.i64 0), D.v (Value.int IntKind.i64 0), D.s 0 3 [] [], D.s 0 3 [] [], D.v (Value.int IntKind.i64 0), D.v (Value.int IntKind.i64 0), D.v (Value.int IntKind.i64 0), D.v (Value.int IntKind.i64 0), D.v (Value.int IntKind.i64 0)]] [], D.s 0 4 [] []] := rfl
  rw [e]
  refine ct_m Zbr .nil (.cons Zbx (.cons Zg5 .nil)) mixed Tryz.func79 rfl rfl rfl ?_
  rw [eSt1]
  exact ⟨rfl⟩
theorem eSt2 (K : DV → Prop) : (askH Tryz.prog (hkM spC [] [(58, ZdG), (128, jRun)]) Tryz.f79 [.agg [D.s 0 3 [[D.v (Value.int IntKind.i64 5), D.v (Value.int IntKind.i64 0), D.v (Value.int IntKind.i64 0)], [D.v (Value.int IntKind.i64 6), D.v (Value.int IntKind.i64 0), D.v (Value.int IntKind.i64 0)]] [], D.s 0 3 [[D.v (Value.int IntKind.i64 7), D.v (Value.int IntKind.i64 0), D.v (Value.int IntKind.i64 0)]] [], D.s 0 3 [] [], D.s 0 3 [[D.v (Value.int IntKind.i64 9), D.v (Value.int IntKind.i64 0), D.v (Value.int IntKind.i64 0)]] [], D.v (Value.int IntKind.i64 0), D.v (Value.int IntKind.i64 0), D.v (Value.int IntKind.i64 0), D.v (Value.int IntKind.i64 0), D.v (Value.int IntKind.i64 9), D.s 0 17 [[D.v (Value.int IntKind.i64 3), D.v (Value.int IntKind.i64 0), D.v (Value.int IntKind.i64 3), D.s 0 4 [[D.v (Value.int IntKind.i64 2), D.v (Value.int IntKind.i64 0), D.v (Value.int IntKind.i64 0), D.v (Value.int IntKind.i64 0)], [D.v (Value.int IntKind.i64 1), D.v (Value.int IntKind.i64 0), D.v (Value.int IntKind.i64 0), D.v (Value.int IntKind.i64 0)], [D.v (Value.int IntKind.i64 3), D.v (Value.int IntKind.i64 0), D.v (Value.int IntKind.i64 0), D.v (Value.int IntKind.i64 0)]] [], D.v (Value.int IntKind.i64 0), D.v (Value.int IntKind.i64 1), D.v (Value.int IntKind.i64 5), D.v (Value.int IntKind.i64 0), D.v (Value.int IntKind.i64 0), D.v (Value.int IntKind.i64 0), D.s 0 3 [[D.v (Value.int IntKind.i64 0), D.v (Value.int IntKind.i64 0), D.v (Value.int IntKind.i64 0)]] [], D.s 0 3 [] [], D.v (Value.int IntKind.i64 0), D.v (Value.int IntKind.i64 0), D.v (Value.int IntKind.i64 0), D.v (Value.int IntKind.i64 0), D.v (Value.int IntKind.i64 0)], [D.v (Value.int IntKind.i64 5), D.v (Value.int IntKind.i64 1), D.v (Value.int IntKind.i64 1), D.s 0 4 [[D.v (Value.int IntKind.i64 2), D.v (Value.int IntKind.i64 0), D.v (Value.int IntKind.i64 0), D.v (Value.int IntKind.i64 1)], [D.v (Value.int IntKind.i64 3), D.v (Value.int IntKind.i64 0), D.v (Value.int IntKind.i64 1), D.v (Value.int IntKind.i64 0)]] [], D.v (Value.int IntKind.i64 0), D.v (Value.int IntKind.i64 0), D.v (Value.int IntKind.i64 0), D.v (Value.int IntKind.i64 0), D.v (Value.int IntKind.i64 0), D.v (Value.int IntKind.i64 0), D.s 0 3 [] [], D.s 0 3 [] [], D.v (Value.int IntKind.i64 0), D.v (Value.int IntKind.i64 0), D.v (Value.int IntKind.i64 0), D.v (Value.int IntKind.i64 0), D.v (Value.int IntKind.i64 0)]] [], D.s 0 4 [[D.v (Value.int IntKind.i64 3), D.v (Value.int IntKind.i64 0), D.v (Value.int IntKind.i64 0), D.v (Value.int IntKind.i64 5)]] []], I 0] K) = (K (DV.tup [DV.agg (ZcB (1) ⟨[[vN (5), vN (0), vN (0)], [vN (6), vN (0), vN (0)]], [[vN (7), vN (0), vN (0)]], [], [[vN (9), vN (0), vN (0)]], (0), (0), (0), (0), (9), [[vN (3), vN (0), vN (0), vN (5)]]⟩ [(sesL (1) ⟨(3), (0), (3), [[vN (2), vN (0), vN (0), vN (0)], [vN (1), vN (0), vN (0), vN (0)], [vN (3), vN (0), vN (0), vN (0)]], (0), (2), (10), (0), (0), (0), [[vN (0), vN (0), vN (0)]], [], (0), (0), (0), (0), (0)⟩), (sesL (1) ⟨(5), (1), (1), [[vN (2), vN (0), vN (0), vN (1)], [vN (3), vN (0), vN (1), vN (0)]], (0), (0), (0), (0), (0), (0), [], [], (0), (0), (0), (0), (0)⟩)]), I (0)])) := by kernel_rfl
theorem cSt2 : CT Tryz.prog 79 [.agg (macL 0 bH1 [bA1, bB]), I 0] (macR bH2 [bA2, bB] 0) := by
  have e : macL 0 bH1 [bA1, bB] = [D.s 0 3 [[D.v (Value.int IntKind.i64 5), D.v (Value.int IntKind.i64 0), D.v (Value.int IntKind.i64 0)], [D.v (Value.int IntKind.i64 6), D.v (Value.int IntKind.i64 0), D.v (Value.int IntKind.i64 0)]] [], D.s 0 3 [[D.v (Value.int IntKind.i64 7), D.v (Value.int IntKind.i64 0), D.v (Value.int IntKind.i64 0)]] [], D.s 0 3 [] [], D.s 0 3 [[D.v (Value.int IntKind.i64 9), D.v (Value.int IntKind.i64 0), D.v (Value.int IntKind.i64 0)]] [], D.v (Value.int IntKind.i64 0), D.v (Value.int IntKind.i64 0), D.v (Value.int IntKind.i64 0), D.v (Value.int IntKind.i64 0), D.v (Value.int IntKind.i64 9), D.s 0 17 [[D.v (Value.int IntKind.i64 3), D.v (Value.int IntKind.i64 0), D.v (Value.int IntKind.i64 3), D.s 0 4 [[D.v (Value.int IntKind.i64 2), D.v (Value.int IntKind.i64 0), D.v (Value.int IntKind.i64 0), D.v (Value.int IntKind.i64 0)], [D.v (Value.int IntKind.i64 1), D.v (Value.int IntKind.i64 0), D.v (Value.int IntKind.i64 0), D.v (Value.int IntKind.i64 0)], [D.v (Value.int IntKind.i64 3), D.v (Value.int IntKind.i64 0), D.v (Value.int IntKind.i64 0), D.v (Value.int IntKind.i64 0)]] [], D.v (Value.int IntKind.i64 0), D.v (Value.int IntKind.i64 1), D.v (Value.int IntKind.i64 5), D.v (Value.int IntKind.i64 0), D.v (Value.int IntKind.i64 0), D.v (Value.int IntKind.i64 0), D.s 0 3 [[D.v (Value.int IntKind.i64 0), D.v (Value.int IntKind.i64 0), D.v (Value.int IntKind.i64 0)]] [], D.s 0 3 [] [], D.v (Value.int IntKind.i64 0), D.v (Value.int IntKind.i64 0), D.v (Value.int IntKind.i64 0), D.v (Value.int IntKind.i64 0), D.v (Value.int IntKind.i64 0)], [D.v (Value.int IntKind.i64 5), D.v (Value.int IntKind.i64 1), D.v (Value.int IntKind.i64 1), D.s 0 4 [[D.v (Value.int IntKind.i64 2), D.v (Value.int IntKind.i64 0), D.v (Value.int IntKind.i64 0), D.v (Value.int IntKind.i64 1)], [D.v (Value.int IntKind.i64 3), D.v (Value.int IntKind.i64 0), D.v (Value.int IntKind.i64 1), D.v (Value.int IntKind.i64 0)]] [], D.v (Value.int IntKind.i64 0), D.v (Value.int IntKind.i64 0), D.v (Value.int IntKind.i64 0), D.v (Value.int IntKind.i64 0), D.v (Value.int IntKind.i64 0), D.v (Value.int IntKind.i64 0), D.s 0 3 [] [], D.s 0 3 [] [], D.v (Value.int IntKind.i64 0), D.v (Value.int IntKind.i64 0), D.v (Value.int IntKind.i64 0), D.v (Value.int IntKind.i64 0), D.v (Value.int IntKind.i64 0)]] [], D.s 0 4 [[D.v (Value.int IntKind.i64 3), D.v (Value.int IntKind.i64 0), D.v (Value.int IntKind.i64 0), D.v (Value.int IntKind.i64 5)]] []] := rfl
  rw [e]
  refine ct_m Zbr .nil (.cons Zbx (.cons Zg5 .nil)) mixed Tryz.func79 rfl rfl rfl ?_
  rw [eSt2]
  exact ⟨rfl⟩
theorem eSt3 (K : DV → Prop) : (askH Tryz.prog (hkM spC [] [(58, ZdG), (128, jRun)]) Tryz.f79 [.agg [D.s 0 3 [[D.v (Value.int IntKind.i64 5), D.v (Value.int IntKind.i64 0), D.v (Value.int IntKind.i64 0)], [D.v (Value.int IntKind.i64 6), D.v (Value.int IntKind.i64 0), D.v (Value.int IntKind.i64 0)]] [], D.s 0 3 [[D.v (Value.int IntKind.i64 7), D.v (Value.int IntKind.i64 0), D.v (Value.int IntKind.i64 0)]] [], D.s 0 3 [] [], D.s 0 3 [[D.v (Value.int IntKind.i64 9), D.v (Value.int IntKind.i64 0), D.v (Value.int IntKind.i64 0)]] [], D.v (Value.int IntKind.i64 0), D.v (Value.int IntKind.i64 0), D.v (Value.int IntKind.i64 0), D.v (Value.int IntKind.i64 0), D.v (Value.int IntKind.i64 9), D.s 0 17 [[D.v (Value.int IntKind.i64 3), D.v (Value.int IntKind.i64 0), D.v (Value.int IntKind.i64 3), D.s 0 4 [[D.v (Value.int IntKind.i64 2), D.v (Value.int IntKind.i64 0), D.v (Value.int IntKind.i64 0), D.v (Value.int IntKind.i64 0)], [D.v (Value.int IntKind.i64 1), D.v (Value.int IntKind.i64 0), D.v (Value.int IntKind.i64 0), D.v (Value.int IntKind.i64 0)], [D.v (Value.int IntKind.i64 3), D.v (Value.int IntKind.i64 0), D.v (Value.int IntKind.i64 0), D.v (Value.int IntKind.i64 0)]] [], D.v (Value.int IntKind.i64 0), D.v (Value.int IntKind.i64 2), D.v (Value.int IntKind.i64 10), D.v (Value.int IntKind.i64 0), D.v (Value.int IntKind.i64 0), D.v (Value.int IntKind.i64 0), D.s 0 3 [[D.v (Value.int IntKind.i64 0), D.v (Value.int IntKind.i64 0), D.v (Value.int IntKind.i64 0)]] [], D.s 0 3 [] [], D.v (Value.int IntKind.i64 0), D.v (Value.int IntKind.i64 0), D.v (Value.int IntKind.i64 0), D.v (Value.int IntKind.i64 0), D.v (Value.int IntKind.i64 0)], [D.v (Value.int IntKind.i64 5), D.v (Value.int IntKind.i64 1), D.v (Value.int IntKind.i64 1), D.s 0 4 [[D.v (Value.int IntKind.i64 2), D.v (Value.int IntKind.i64 0), D.v (Value.int IntKind.i64 0), D.v (Value.int IntKind.i64 1)], [D.v (Value.int IntKind.i64 3), D.v (Value.int IntKind.i64 0), D.v (Value.int IntKind.i64 1), D.v (Value.int IntKind.i64 0)]] [], D.v (Value.int IntKind.i64 0), D.v (Value.int IntKind.i64 0), D.v (Value.int IntKind.i64 0), D.v (Value.int IntKind.i64 0), D.v (Value.int IntKind.i64 0), D.v (Value.int IntKind.i64 0), D.s 0 3 [] [], D.s 0 3 [] [], D.v (Value.int IntKind.i64 0), D.v (Value.int IntKind.i64 0), D.v (Value.int IntKind.i64 0), D.v (Value.int IntKind.i64 0), D.v (Value.int IntKind.i64 0)]] [], D.s 0 4 [[D.v (Value.int IntKind.i64 3), D.v (Value.int IntKind.i64 0), D.v (Value.int IntKind.i64 0), D.v (Value.int IntKind.i64 5)]] []], I 0] K) = (K (DV.tup [DV.agg (ZcB (1) ⟨[[vN (5), vN (0), vN (0)], [vN (6), vN (0), vN (0)]], [[vN (7), vN (0), vN (0)]], [], [[vN (9), vN (0), vN (0)]], (0), (0), (0), (0), (9), [[vN (3), vN (0), vN (0), vN (5)], [vN (3), vN (0), vN (1), vN (10)]]⟩ [(sesL (1) ⟨(3), (0), (3), [[vN (2), vN (0), vN (0), vN (0)], [vN (1), vN (0), vN (0), vN (0)], [vN (3), vN (0), vN (0), vN (0)]], (0), (3), (10), (0), (0), (0), [[vN (0), vN (0), vN (0)]], [[vN (0), vN (0), vN (10)]], (0), (0), (0), (0), (0)⟩), (sesL (1) ⟨(5), (1), (1), [[vN (2), vN (0), vN (0), vN (1)], [vN (3), vN (0), vN (1), vN (0)]], (0), (0), (0), (0), (0), (0), [], [], (0), (0), (0), (0), (0)⟩)]), I (0)])) := by kernel_rfl
theorem cSt3 : CT Tryz.prog 79 [.agg (macL 0 bH2 [bA2, bB]), I 0] (macR bH3 [bA3, bB] 0) := by
  have e : macL 0 bH2 [bA2, bB] = [D.s 0 3 [[D.v (Value.int IntKind.i64 5), D.v (Value.int IntKind.i64 0), D.v (Value.int IntKind.i64 0)], [D.v (Value.int IntKind.i64 6), D.v (Value.int IntKind.i64 0), D.v (Value.int IntKind.i64 0)]] [], D.s 0 3 [[D.v (Value.int IntKind.i64 7), D.v (Value.int IntKind.i64 0), D.v (Value.int IntKind.i64 0)]] [], D.s 0 3 [] [], D.s 0 3 [[D.v (Value.int IntKind.i64 9), D.v (Value.int IntKind.i64 0), D.v (Value.int IntKind.i64 0)]] [], D.v (Value.int IntKind.i64 0), D.v (Value.int IntKind.i64 0), D.v (Value.int IntKind.i64 0), D.v (Value.int IntKind.i64 0), D.v (Value.int IntKind.i64 9), D.s 0 17 [[D.v (Value.int IntKind.i64 3), D.v (Value.int IntKind.i64 0), D.v (Value.int IntKind.i64 3), D.s 0 4 [[D.v (Value.int IntKind.i64 2), D.v (Value.int IntKind.i64 0), D.v (Value.int IntKind.i64 0), D.v (Value.int IntKind.i64 0)], [D.v (Value.int IntKind.i64 1), D.v (Value.int IntKind.i64 0), D.v (Value.int IntKind.i64 0), D.v (Value.int IntKind.i64 0)], [D.v (Value.int IntKind.i64 3), D.v (Value.int IntKind.i64 0), D.v (Value.int IntKind.i64 0), D.v (Value.int IntKind.i64 0)]] [], D.v (Value.int IntKind.i64 0), D.v (Value.int IntKind.i64 2), D.v (Value.int IntKind.i64 10), D.v (Value.int IntKind.i64 0), D.v (Value.int IntKind.i64 0), D.v (Value.int IntKind.i64 0), D.s 0 3 [[D.v (Value.int IntKind.i64 0), D.v (Value.int IntKind.i64 0), D.v (Value.int IntKind.i64 0)]] [], D.s 0 3 [] [], D.v (Value.int IntKind.i64 0), D.v (Value.int IntKind.i64 0), D.v (Value.int IntKind.i64 0), D.v (Value.int IntKind.i64 0), D.v (Value.int IntKind.i64 0)], [D.v (Value.int IntKind.i64 5), D.v (Value.int IntKind.i64 1), D.v (Value.int IntKind.i64 1), D.s 0 4 [[D.v (Value.int IntKind.i64 2), D.v (Value.int IntKind.i64 0), D.v (Value.int IntKind.i64 0), D.v (Value.int IntKind.i64 1)], [D.v (Value.int IntKind.i64 3), D.v (Value.int IntKind.i64 0), D.v (Value.int IntKind.i64 1), D.v (Value.int IntKind.i64 0)]] [], D.v (Value.int IntKind.i64 0), D.v (Value.int IntKind.i64 0), D.v (Value.int IntKind.i64 0), D.v (Value.int IntKind.i64 0), D.v (Value.int IntKind.i64 0), D.v (Value.int IntKind.i64 0), D.s 0 3 [] [], D.s 0 3 [] [], D.v (Value.int IntKind.i64 0), D.v (Value.int IntKind.i64 0), D.v (Value.int IntKind.i64 0), D.v (Value.int IntKind.i64 0), D.v (Value.int IntKind.i64 0)]] [], D.s 0 4 [[D.v (Value.int IntKind.i64 3), D.v (Value.int IntKind.i64 0), D.v (Value.int IntKind.i64 0), D.v (Value.int IntKind.i64 5)]] []] := rfl
  rw [e]
  refine ct_m Zbr .nil (.cons Zbx (.cons Zg5 .nil)) mixed Tryz.func79 rfl rfl rfl ?_
  rw [eSt3]
  exact ⟨rfl⟩
theorem eSt4 (K : DV → Prop) : (askH Tryz.prog (hkM spC [] [(58, ZdG), (128, jRun)]) Tryz.f79 [.agg [D.s 0 3 [[D.v (Value.int IntKind.i64 5), D.v (Value.int IntKind.i64 0), D.v (Value.int IntKind.i64 0)], [D.v (Value.int IntKind.i64 6), D.v (Value.int IntKind.i64 0), D.v (Value.int IntKind.i64 0)]] [], D.s 0 3 [[D.v (Value.int IntKind.i64 7), D.v (Value.int IntKind.i64 0), D.v (Value.int IntKind.i64 0)]] [], D.s 0 3 [] [], D.s 0 3 [[D.v (Value.int IntKind.i64 9), D.v (Value.int IntKind.i64 0), D.v (Value.int IntKind.i64 0)]] [], D.v (Value.int IntKind.i64 0), D.v (Value.int IntKind.i64 0), D.v (Value.int IntKind.i64 0), D.v (Value.int IntKind.i64 0), D.v (Value.int IntKind.i64 9), D.s 0 17 [[D.v (Value.int IntKind.i64 3), D.v (Value.int IntKind.i64 0), D.v (Value.int IntKind.i64 3), D.s 0 4 [[D.v (Value.int IntKind.i64 2), D.v (Value.int IntKind.i64 0), D.v (Value.int IntKind.i64 0), D.v (Value.int IntKind.i64 0)], [D.v (Value.int IntKind.i64 1), D.v (Value.int IntKind.i64 0), D.v (Value.int IntKind.i64 0), D.v (Value.int IntKind.i64 0)], [D.v (Value.int IntKind.i64 3), D.v (Value.int IntKind.i64 0), D.v (Value.int IntKind.i64 0), D.v (Value.int IntKind.i64 0)]] [], D.v (Value.int IntKind.i64 0), D.v (Value.int IntKind.i64 3), D.v (Value.int IntKind.i64 10), D.v (Value.int IntKind.i64 0), D.v (Value.int IntKind.i64 0), D.v (Value.int IntKind.i64 0), D.s 0 3 [[D.v (Value.int IntKind.i64 0), D.v (Value.int IntKind.i64 0), D.v (Value.int IntKind.i64 0)]] [], D.s 0 3 [[D.v (Value.int IntKind.i64 0), D.v (Value.int IntKind.i64 0), D.v (Value.int IntKind.i64 10)]] [], D.v (Value.int IntKind.i64 0), D.v (Value.int IntKind.i64 0), D.v (Value.int IntKind.i64 0), D.v (Value.int IntKind.i64 0), D.v (Value.int IntKind.i64 0)], [D.v (Value.int IntKind.i64 5), D.v (Value.int IntKind.i64 1), D.v (Value.int IntKind.i64 1), D.s 0 4 [[D.v (Value.int IntKind.i64 2), D.v (Value.int IntKind.i64 0), D.v (Value.int IntKind.i64 0), D.v (Value.int IntKind.i64 1)], [D.v (Value.int IntKind.i64 3), D.v (Value.int IntKind.i64 0), D.v (Value.int IntKind.i64 1), D.v (Value.int IntKind.i64 0)]] [], D.v (Value.int IntKind.i64 0), D.v (Value.int IntKind.i64 0), D.v (Value.int IntKind.i64 0), D.v (Value.int IntKind.i64 0), D.v (Value.int IntKind.i64 0), D.v (Value.int IntKind.i64 0), D.s 0 3 [] [], D.s 0 3 [] [], D.v (Value.int IntKind.i64 0), D.v (Value.int IntKind.i64 0), D.v (Value.int IntKind.i64 0), D.v (Value.int IntKind.i64 0), D.v (Value.int IntKind.i64 0)]] [], D.s 0 4 [[D.v (Value.int IntKind.i64 3), D.v (Value.int IntKind.i64 0), D.v (Value.int IntKind.i64 0), D.v (Value.int IntKind.i64 5)], [D.v (Value.int IntKind.i64 3), D.v (Value.int IntKind.i64 0), D.v (Value.int IntKind.i64 1), D.v (Value.int IntKind.i64 10)]] []], I 0] K) = (K (DV.tup [DV.agg (ZcB (1) ⟨[[vN (5), vN (0), vN (0)], [vN (6), vN (0), vN (0)]], [[vN (7), vN (0), vN (0)]], [], [[vN (9), vN (0), vN (0)]], (0), (0), (0), (0), (9), [[vN (3), vN (0), vN (0), vN (5)], [vN (3), vN (0), vN (1), vN (10)]]⟩ [(sesL (1) ⟨(3), (0), (3), [[vN (2), vN (0), vN (0), vN (0)], [vN (1), vN (0), vN (0), vN (0)], [vN (3), vN (0), vN (0), vN (0)]], (1), (3), (10), (0), (0), (0), [[vN (0), vN (0), vN (0)]], [[vN (0), vN (0), vN (10)]], (0), (0), (0), (0), (0)⟩), (sesL (1) ⟨(5), (1), (1), [[vN (2), vN (0), vN (0), vN (1)], [vN (3), vN (0), vN (1), vN (0)]], (0), (0), (0), (0), (0), (0), [], [], (0), (0), (0), (0), (0)⟩)]), I (0)])) := by kernel_rfl
theorem cSt4 : CT Tryz.prog 79 [.agg (macL 0 bH3 [bA3, bB]), I 0] (macR bH4 [bA4, bB] 0) := by
  have e : macL 0 bH3 [bA3, bB] = [D.s 0 3 [[D.v (Value.int IntKind.i64 5), D.v (Value.int IntKind.i64 0), D.v (Value.int IntKind.i64 0)], [D.v (Value.int IntKind.i64 6), D.v (Value.int IntKind.i64 0), D.v (Value.int IntKind.i64 0)]] [], D.s 0 3 [[D.v (Value.int IntKind.i64 7), D.v (Value.int IntKind.i64 0), D.v (Value.int IntKind.i64 0)]] [], D.s 0 3 [] [], D.s 0 3 [[D.v (Value.int IntKind.i64 9), D.v (Value.int IntKind.i64 0), D.v (Value.int IntKind.i64 0)]] [], D.v (Value.int IntKind.i64 0), D.v (Value.int IntKind.i64 0), D.v (Value.int IntKind.i64 0), D.v (Value.int IntKind.i64 0), D.v (Value.int IntKind.i64 9), D.s 0 17 [[D.v (Value.int IntKind.i64 3), D.v (Value.int IntKind.i64 0), D.v (Value.int IntKind.i64 3), D.s 0 4 [[D.v (Value.int IntKind.i64 2), D.v (Value.int IntKind.i64 0), D.v (Value.int IntKind.i64 0), D.v (Value.int IntKind.i64 0)], [D.v (Value.int IntKind.i64 1), D.v (Value.int IntKind.i64 0), D.v (Value.int IntKind.i64 0), D.v (Value.int IntKind.i64 0)], [D.v (Value.int IntKind.i64 3), D.v (Value.int IntKind.i64 0), D.v (Value.int IntKind.i64 0), D.v (Value.int IntKind.i64 0)]] [], D.v (Value.int IntKind.i64 0), D.v (Value.int IntKind.i64 3), D.v (Value.int IntKind.i64 10), D.v (Value.int IntKind.i64 0), D.v (Value.int IntKind.i64 0), D.v (Value.int IntKind.i64 0), D.s 0 3 [[D.v (Value.int IntKind.i64 0), D.v (Value.int IntKind.i64 0), D.v (Value.int IntKind.i64 0)]] [], D.s 0 3 [[D.v (Value.int IntKind.i64 0), D.v (Value.int IntKind.i64 0), D.v (Value.int IntKind.i64 10)]] [], D.v (Value.int IntKind.i64 0), D.v (Value.int IntKind.i64 0), D.v (Value.int IntKind.i64 0), D.v (Value.int IntKind.i64 0), D.v (Value.int IntKind.i64 0)], [D.v (Value.int IntKind.i64 5), D.v (Value.int IntKind.i64 1), D.v (Value.int IntKind.i64 1), D.s 0 4 [[D.v (Value.int IntKind.i64 2), D.v (Value.int IntKind.i64 0), D.v (Value.int IntKind.i64 0), D.v (Value.int IntKind.i64 1)], [D.v (Value.int IntKind.i64 3), D.v (Value.int IntKind.i64 0), D.v (Value.int IntKind.i64 1), D.v (Value.int IntKind.i64 0)]] [], D.v (Value.int IntKind.i64 0), D.v (Value.int IntKind.i64 0), D.v (Value.int IntKind.i64 0), D.v (Value.int IntKind.i64 0), D.v (Value.int IntKind.i64 0), D.v (Value.int IntKind.i64 0), D.s 0 3 [] [], D.s 0 3 [] [], D.v (Value.int IntKind.i64 0), D.v (Value.int IntKind.i64 0), D.v (Value.int IntKind.i64 0), D.v (Value.int IntKind.i64 0), D.v (Value.int IntKind.i64 0)]] [], D.s 0 4 [[D.v (Value.int IntKind.i64 3), D.v (Value.int IntKind.i64 0), D.v (Value.int IntKind.i64 0), D.v (Value.int IntKind.i64 5)], [D.v (Value.int IntKind.i64 3), D.v (Value.int IntKind.i64 0), D.v (Value.int IntKind.i64 1), D.v (Value.int IntKind.i64 10)]] []] := rfl
  rw [e]
  refine ct_m Zbr .nil (.cons Zbx (.cons Zg5 .nil)) mixed Tryz.func79 rfl rfl rfl ?_
  rw [eSt4]
  exact ⟨rfl⟩
theorem Zoa : Zbf Tryz.prog 21 ZrC := Za8 (.cons Zq0 (.cons ZpD (.cons oRMm .nil))) .nil .nil mixed Tryz.func21 rfl (Zan Tryz.func21 (by kernel_rfl) rfl)
theorem Zsa (K : DV → Prop) : (askH Tryz.prog (hkM [] [] [(21, ZrC)]) Tryz.f36 [] K) = (K (DV.agg [D.s (1) (3) [[vN (5), vN (0), vN (0)], [vN (6), vN (0), vN (0)]] [], D.s (1) (3) [[vN (7), vN (0), vN (0)]] [], D.s (1) (3) [] [], D.s (1) (3) [[vN (9), vN (0), vN (0)]] [], vN (0), vN (0), vN (0), vN (0), vN (9), D.s (1) (17) [[vN (3), vN (0), vN (3), D.s (1) (4) [[vN (2), vN (0), vN (0), vN (0)], [vN (1), vN (0), vN (0), vN (0)], [vN (3), vN (0), vN (0), vN (0)]] [], vN (0), vN (0), vN (0), vN (0), vN (0), vN (0), nilV, nilV, vN (0), vN (0), vN (0), vN (0), vN (0)], [vN (5), vN (1), vN (1), D.s (1) (4) [[vN (2), vN (0), vN (0), vN (1)], [vN (3), vN (0), vN (1), vN (0)]] [], vN (0), vN (0), vN (0), vN (0), vN (0), vN (0), nilV, nilV, vN (0), vN (0), vN (0), vN (0), vN (0)]] [], nilV])) := by kernel_rfl
theorem ZoT : CT Tryz.prog 36 [] (.agg (macL 1 bH0 [bA0, bB])) := by
  refine Zrn .nil .nil (.cons Zoa .nil) mixed Tryz.func36 rfl rfl rfl ?_
  rw [Zsa]
  refine ⟨.aggO ?_⟩
  repeat (first | exact .nil | exact OL.refl _ | exact OL.nil _ | refine .cons ?_ ?_ | refine OL.rows ?_)
end

section
open Go Go.Proofs
def sStp : Spec := fun ds Q => match ds with
  | [d, _] => macA d fun _ ss => match ss with
    | [a, _] => bif a.st == 0 then (bif a.pc == 0 then sAtD [.agg (macL 0 bH0 [bA0, bB]), I 0] (macR bH1 [bA1, bB] 0) ds Q else bif a.pc == 1 then sAtD [.agg (macL 0 bH1 [bA1, bB]), I 0] (macR bH2 [bA2, bB] 0) ds Q else bif a.pc == 2 then sAtD [.agg (macL 0 bH2 [bA2, bB]), I 0] (macR bH3 [bA3, bB] 0) ds Q else sAtD [.agg (macL 0 bH3 [bA3, bB]), I 0] (macR bH4 [bA4, bB] 0) ds Q) else False
    | _ => False
  | _ => False
theorem gStp : Goes Tryz.prog 79 := Zan Tryz.func79 (by kernel_rfl) rfl
theorem oStp : Zad Tryz.prog 79 sStp := fun ds Q h => by
  unfold sStp at h; split at h
  · obtain ⟨m, ss, h, _⟩ := Zci h
    split at h
    · rename_i a _ _
      cases h1 : a.st == 0
      · rw [h1] at h; exact h.elim
      · rw [h1] at h
        cases h2 : a.pc == 0
        · cases h3 : a.pc == 1
          · cases h4 : a.pc == 2
            · rw [h2, h3, h4] at h; exact oAtD gStp cSt4 rfl rfl _ Q h
            · rw [h2, h3, h4] at h; exact oAtD gStp cSt3 rfl rfl _ Q h
          · rw [h2, h3] at h; exact oAtD gStp cSt2 rfl rfl _ Q h
        · rw [h2] at h; exact oAtD gStp cSt1 rfl rfl _ Q h
    · exact h.elim
  · exact h.elim
def iStp : Inl := Zit Tryz.prog [34, 3] (sF sStp)
theorem Zmm : Zbf Tryz.prog 79 iStp := Zcs (oF oStp)
def iBeg : Inl := Zit Tryz.prog [] (sF (sAtD [] (.agg (macL 1 bH0 [bA0, bB]))))
theorem ZfO : Zbf Tryz.prog 36 iBeg := Zcs (oF (oAtD (Zan Tryz.func36 (by kernel_rfl) rfl) ZoT rfl rfl))
theorem Zos (K : DV → Prop) : (askH Tryz.prog (hkM [] [] [(36, iBeg), (79, iStp)]) Tryz.f37 [I 0, I 0] K) = (([] : List DV) = [] ∧ K (DV.agg [D.s (1) (3) [[D.v (Value.int IntKind.i64 (5)), D.v (Value.int IntKind.i64 (0)), D.v (Value.int IntKind.i64 (0))], [D.v (Value.int IntKind.i64 (6)), D.v (Value.int IntKind.i64 (0)), D.v (Value.int IntKind.i64 (0))]] [], D.s (1) (3) [[D.v (Value.int IntKind.i64 (7)), D.v (Value.int IntKind.i64 (0)), D.v (Value.int IntKind.i64 (0))]] [], D.s (1) (3) [] [], D.s (1) (3) [[D.v (Value.int IntKind.i64 (9)), D.v (Value.int IntKind.i64 (0)), D.v (Value.int IntKind.i64 (0))]] [], D.v (Value.int IntKind.i64 (0)), D.v (Value.int IntKind.i64 (0)), D.v (Value.int IntKind.i64 (0)), D.v (Value.int IntKind.i64 (0)), D.v (Value.int IntKind.i64 (9)), D.s (1) (17) [[D.v (Value.int IntKind.i64 (3)), D.v (Value.int IntKind.i64 (0)), D.v (Value.int IntKind.i64 (3)), D.s (1) (4) [[D.v (Value.int IntKind.i64 (2)), D.v (Value.int IntKind.i64 (0)), D.v (Value.int IntKind.i64 (0)), D.v (Value.int IntKind.i64 (0))], [D.v (Value.int IntKind.i64 (1)), D.v (Value.int IntKind.i64 (0)), D.v (Value.int IntKind.i64 (0)), D.v (Value.int IntKind.i64 (0))], [D.v (Value.int IntKind.i64 (3)), D.v (Value.int IntKind.i64 (0)), D.v (Value.int IntKind.i64 (0)), D.v (Value.int IntKind.i64 (0))]] [], D.v (Value.int IntKind.i64 (0)), D.v (Value.int IntKind.i64 (0)), D.v (Value.int IntKind.i64 (0)), D.v (Value.int IntKind.i64 (0)), D.v (Value.int IntKind.i64 (0)), D.v (Value.int IntKind.i64 (0)), D.s (1) (3) [] [], D.s (1) (3) [] [], D.v (Value.int IntKind.i64 (0)), D.v (Value.int IntKind.i64 (0)), D.v (Value.int IntKind.i64 (0)), D.v (Value.int IntKind.i64 (0)), D.v (Value.int IntKind.i64 (0))], [D.v (Value.int IntKind.i64 (5)), D.v (Value.int IntKind.i64 (1)), D.v (Value.int IntKind.i64 (1)), D.s (1) (4) [[D.v (Value.int IntKind.i64 (2)), D.v (Value.int IntKind.i64 (0)), D.v (Value.int IntKind.i64 (0)), D.v (Value.int IntKind.i64 (1))], [D.v (Value.int IntKind.i64 (3)), D.v (Value.int IntKind.i64 (0)), D.v (Value.int IntKind.i64 (1)), D.v (Value.int IntKind.i64 (0))]] [], D.v (Value.int IntKind.i64 (0)), D.v (Value.int IntKind.i64 (0)), D.v (Value.int IntKind.i64 (0)), D.v (Value.int IntKind.i64 (0)), D.v (Value.int IntKind.i64 (0)), D.v (Value.int IntKind.i64 (0)), D.s (1) (3) [] [], D.s (1) (3) [] [], D.v (Value.int IntKind.i64 (0)), D.v (Value.int IntKind.i64 (0)), D.v (Value.int IntKind.i64 (0)), D.v (Value.int IntKind.i64 (0)), D.v (Value.int IntKind.i64 (0))]] [], D.s (1) (4) [] []])) := by kernel_rfl
theorem Zol : CT Tryz.prog 37 [I 0, I 0] (.agg (macL 1 bH0 [bA0, bB])) := by
  refine ct_m .nil .nil (.cons ZfO (.cons Zmm .nil)) mixed Tryz.func37 rfl rfl rfl ?_
  rw [Zos]
  exact ⟨by repeat (first | exact rfl | refine ⟨rfl, ?_⟩)⟩
theorem Zor (K : DV → Prop) : (askH Tryz.prog (hkM [] [] [(36, iBeg), (79, iStp)]) Tryz.f37 [I 0, I 1] K) = (([] : List DV) = [] ∧ [DV.agg (macL (0) bH0 [bA0, bB]), I (0)] = [DV.agg (macL (0) bH0 [bA0, bB]), I (0)] ∧ K (DV.agg [D.s (1) (3) [[D.v (Value.int IntKind.i64 (5)), D.v (Value.int IntKind.i64 (0)), D.v (Value.int IntKind.i64 (0))], [D.v (Value.int IntKind.i64 (6)), D.v (Value.int IntKind.i64 (0)), D.v (Value.int IntKind.i64 (0))]] [], D.s (1) (3) [[D.v (Value.int IntKind.i64 (7)), D.v (Value.int IntKind.i64 (0)), D.v (Value.int IntKind.i64 (0))]] [], D.s (1) (3) [] [], D.s (1) (3) [[D.v (Value.int IntKind.i64 (9)), D.v (Value.int IntKind.i64 (0)), D.v (Value.int IntKind.i64 (0))]] [], D.v (Value.int IntKind.i64 (0)), D.v (Value.int IntKind.i64 (0)), D.v (Value.int IntKind.i64 (0)), D.v (Value.int IntKind.i64 (0)), D.v (Value.int IntKind.i64 (9)), D.s (1) (17) [[D.v (Value.int IntKind.i64 (3)), D.v (Value.int IntKind.i64 (0)), D.v (Value.int IntKind.i64 (3)), D.s (1) (4) [[D.v (Value.int IntKind.i64 (2)), D.v (Value.int IntKind.i64 (0)), D.v (Value.int IntKind.i64 (0)), D.v (Value.int IntKind.i64 (0))], [D.v (Value.int IntKind.i64 (1)), D.v (Value.int IntKind.i64 (0)), D.v (Value.int IntKind.i64 (0)), D.v (Value.int IntKind.i64 (0))], [D.v (Value.int IntKind.i64 (3)), D.v (Value.int IntKind.i64 (0)), D.v (Value.int IntKind.i64 (0)), D.v (Value.int IntKind.i64 (0))]] [], D.v (Value.int IntKind.i64 (0)), D.v (Value.int IntKind.i64 (1)), D.v (Value.int IntKind.i64 (5)), D.v (Value.int IntKind.i64 (0)), D.v (Value.int IntKind.i64 (0)), D.v (Value.int IntKind.i64 (0)), D.s (1) (3) [[D.v (Value.int IntKind.i64 (0)), D.v (Value.int IntKind.i64 (0)), D.v (Value.int IntKind.i64 (0))]] [], D.s (1) (3) [] [], D.v (Value.int IntKind.i64 (0)), D.v (Value.int IntKind.i64 (0)), D.v (Value.int IntKind.i64 (0)), D.v (Value.int IntKind.i64 (0)), D.v (Value.int IntKind.i64 (0))], [D.v (Value.int IntKind.i64 (5)), D.v (Value.int IntKind.i64 (1)), D.v (Value.int IntKind.i64 (1)), D.s (1) (4) [[D.v (Value.int IntKind.i64 (2)), D.v (Value.int IntKind.i64 (0)), D.v (Value.int IntKind.i64 (0)), D.v (Value.int IntKind.i64 (1))], [D.v (Value.int IntKind.i64 (3)), D.v (Value.int IntKind.i64 (0)), D.v (Value.int IntKind.i64 (1)), D.v (Value.int IntKind.i64 (0))]] [], D.v (Value.int IntKind.i64 (0)), D.v (Value.int IntKind.i64 (0)), D.v (Value.int IntKind.i64 (0)), D.v (Value.int IntKind.i64 (0)), D.v (Value.int IntKind.i64 (0)), D.v (Value.int IntKind.i64 (0)), D.s (1) (3) [] [], D.s (1) (3) [] [], D.v (Value.int IntKind.i64 (0)), D.v (Value.int IntKind.i64 (0)), D.v (Value.int IntKind.i64 (0)), D.v (Value.int IntKind.i64 (0)), D.v (Value.int IntKind.i64 (0))]] [], D.s (1) (4) [[D.v (Value.int IntKind.i64 (3)), D.v (Value.int IntKind.i64 (0)), D.v (Value.int IntKind.i64 (0)), D.v (Value.int IntKind.i64 (5))]] []])) := by kernel_rfl
theorem ZnA : CT Tryz.prog 37 [I 0, I 1] (.agg (macL 1 bH1 [bA1, bB])) := by
  refine ct_m .nil .nil (.cons ZfO (.cons Zmm .nil)) mixed Tryz.func37 rfl rfl rfl ?_
  rw [Zor]
  exact ⟨by repeat (first | exact rfl | refine ⟨rfl, ?_⟩)⟩
end

section
open Go Go.Proofs
def ZqP (k : Int) (h : Mh) (s : SesD) : Inl := Zit Tryz.prog [3, 3] (sF (sAtD [I 0, I k] (.agg (macL 1 h [s, bB]))))
end

section
open Go Go.Proofs
theorem ZpR {h : Mh} {ss : List SesD} (hm : smM h ss = true) (j : Nat) {s : SesD} (hs : smS s = true) : smM h (ss.set j s) = true := by
  unfold smM at hm ⊢
  simp only [Bool.and_eq_true] at hm ⊢
  refine ⟨hm.1, hm.2.1, ?_⟩
  rw [List.all_eq_true] at hm ⊢
  intro x hx
  rcases List.mem_or_eq_of_mem_set hx with hx | rfl
  · exact hm.2.2 x hx
  · exact hs
theorem ZoF (s : SesD) : smS (ZfZ s) = smS s := by
  unfold ZfZ
  cases iC s == 0 <;> cases iC s == 1 <;> cases Zjy s (iA s) == 0 <;> rfl
def sCal : Spec := fun ds Q => match ds with
  | [d, e] => macA d fun h ss => inA e fun i => cond (okM h ss) (bif mAt (has3 0 1 4) h ss i then Q (macR h (ss.set i.toNat (ZfZ (ss.getD i.toNat default))) 0) else Q (macE 1700)) False
  | _ => False
theorem Ztw {f : FuncId} {fn : Func} (hf : Tryz.prog.funcs[f]? = some fn) (hn : (fn.name == "runtime.NumGoroutine") = false) (hb : fn.body.isNone = false) (hc : ∀ h ss i, okM h ss = true → CT Tryz.prog f [.agg (macL 0 h ss), I i] (bif mAt (has3 0 1 4) h ss i then macR h (ss.set i.toNat (ZfZ (ss.getD i.toNat default))) 0 else macE 1700)) : Zad Tryz.prog f sCal := o_al hf hn hb fun ds Q hq => by
  unfold sCal at hq; split at hq
  · obtain ⟨h, ss, hq, r1⟩ := Zci hq
    obtain ⟨i, hq, rfl⟩ := ZkA hq
    obtain ⟨ho, hq⟩ := Zae hq
    have hct := hc h ss i ho
    cases hm : mAt (has3 0 1 4) h ss i with
    | false =>
      rw [hm] at hq hct
      exact ⟨_, _, .cons r1 (.cons (.refl _) .nil), hct, rfl, rfl, hq⟩
    | true =>
      rw [hm] at hq hct
      obtain ⟨hsm, _⟩ := Zo3 i ho hm
      obtain ⟨s, f, _⟩ := Zkt ho hm
      refine ⟨_, _, .cons r1 (.cons (.refl _) .nil), hct, Zkc (ZpR hsm _ ?_) 0, rfl, hq⟩
      rw [ZoF, f.getD]
      exact List.all_eq_true.1 (by have := f.sm; unfold smM at this; simp only [Bool.and_eq_true] at this; exact this.2.2) s (List.mem_of_getElem? f.at')
  · exact hq.elim
theorem oCal : Zad Tryz.prog 33 sCal := Ztw Tryz.func33 (by kernel_rfl) rfl Zrl
def iCal : Inl := Zit Tryz.prog [34, 3] (sF sCal)
theorem Zpp : Zbf Tryz.prog 33 iCal := Zcs (oF oCal)
theorem Zi0 : Zbf Tryz.prog 37 (ZqP 1 bH1 bA1) := Zcs (oF (oAtD (Zan Tryz.func37 (by kernel_rfl) rfl) ZnA rfl rfl))
theorem Zst (K : DV → Prop) : (askH Tryz.prog (hkM [(25, sI)] [] [(36, iBeg), (33, iCal), (37, ZqP 1 bH1 bA1)]) Tryz.f35 [] K) = ([I (0), I (1)] = [I (0), I (1)] ∧ ([] : List DV) = [] ∧ ([] : List DV) = [] ∧ K (B true)) := by kernel_rfl
theorem ZsY : CT Tryz.prog 35 [] (B true) := by
  refine ct_m (.cons oNum .nil) .nil (.cons ZfO (.cons Zpp (.cons Zi0 .nil))) mixed Tryz.func35 rfl rfl rfl ?_
  rw [Zst]
  exact ⟨by repeat (first | exact rfl | refine ⟨rfl, ?_⟩)⟩
theorem ZsR : Zad Tryz.prog 35 (sAtD [] (B true)) := oAtD (Zan Tryz.func35 (by kernel_rfl) rfl) ZsY rfl rfl
end

section
open Go Go.Proofs
theorem OD.frz {w : World} {G : Nat → Prop} {v : Value} {S G' S' : Nat → Prop} {d e : D} (h : RD d e) (he : e.isOwn = false) (hg : ∀ b, G b → G' b) (hs : ∀ b, S b → G' b) (hv : OD w G v d S) : OD w G' v e S' := by
  refine .r _ _ _ (fun z rows sp q => ?_) (h _ _ _ (hv.read hg hs))
  subst q; cases he
theorem Zqi {cs cs' : List D} (h : All2 RD cs cs') (he : cs'.all (fun d => !d.isOwn) = true) : Frz (.agg cs) (.agg cs') := fun w G v S hv => by
  cases hv with
  | agg vs _ _ sub h1 h2 h3 h4 =>
    refine .agg vs cs' _ (fun _ _ => False) (by rw [← h.len]; exact h1) (fun i e hi => ?_) (fun _ _ q => q) (fun _ _ _ q => q.elim)
    obtain ⟨d, g1, g2⟩ := h.get hi
    have a2 := List.all_eq_true.1 he e (List.mem_of_getElem? hi)
    exact (h2 i d g1).frz g2 (by simpa using a2) (fun _ => .inl) (fun b hb => .inr (h3 i b hb))
theorem ZrK {t t' : Nat} (s : SesD) : All2 RD (sesL t s) (sesL t' s) :=
  .cons (.refl _) (.cons (.refl _) (.cons (.refl _) (.cons .slice (.cons (.refl _) (.cons (.refl _) (.cons (.refl _) (.cons (.refl _) (.cons (.refl _) (.cons (.refl _) (.cons .slice (.cons .slice (.cons (.refl _) (.cons (.refl _) (.cons (.refl _) (.cons (.refl _) (.cons (.refl _) .nil))))))))))))))))
theorem ZoV {t t' : Nat} : ∀ ss : List SesD, All2 (All2 RD) (ss.map (sesL t)) (ss.map (sesL t'))
  | [] => .nil
  | s :: ss => .cons (ZrK s) (ZoV ss)
theorem Zrf {t t' : Nat} (h : Mh) (ss : List SesD) : All2 RD (macL t h ss) (macL t' h ss) :=
  .cons .slice (.cons .slice (.cons .slice (.cons .slice (.cons (.refl _) (.cons (.refl _) (.cons (.refl _) (.cons (.refl _) (.cons (.refl _) (.cons (.rows (ZoV ss)) (.cons .slice .nil))))))))))
def Zrz (ds es : List DV) : Prop := All2 AL ds es
def sAtL (es : List DV) (r : DV) : Spec := fun ds Q => Zrz ds es ∧ Q r
theorem oAtL {f : FuncId} {fn : Func} {es : List DV} {r : DV} (hf : Tryz.prog.funcs[f]? = some fn) (hn : (fn.name == "runtime.NumGoroutine") = false) (hb : fn.body.isNone = false) (hc : CT Tryz.prog f es r) (hp : r.pureOwn = true) (hfit : r.fit32 = true) : Zad Tryz.prog f (sAtL es r) :=
  o_al hf hn hb fun ds Q hq => ⟨_, _, hq.1, hc, hp, hfit, hq.2⟩
end

section
open Go Go.Proofs
theorem Zth {R : List (List D)} {n : Nat} : cut R n 0 = [] := by simp [cut]
theorem Ztz {R : List (List D)} : cut R 0 R.length = R := Zpa rfl
end

section
open Go Go.Proofs
theorem Zlj {P : Program} {ι : Type} {fn : Func} {i : Nat} (sw : List (Nat × Nat)) {ts ks : List Nat} (hm : P.follows .mixedOrders = true) (St : ι → X) (inv : ι → Prop) (μ : ι → Nat) {Q : Exit → X → Prop} {x : X} (i0 : ι)
    (hr : ∀ p, inv p → ∃ (H : Hooks) (V : Vw) (VE : Exit → Vw), Zao P H ∧ Zaq P H (Zap fn i) ∧ VwOK V ∧ (∀ e, VwOK (VE e)) ∧ Zb1 P H fn i sw ts ks V VE (fun y => ∃ p', μ p' < μ p ∧ inv p' ∧ y = St p') Q (St p)) (h0 : inv i0) (hx : x.arr ts ks = St i0) : XWP P (.loop (Zap fn i)) Q x := by
  refine Zfs ts ks (Ziy ts ks ?_)
  rw [hx]
  refine ZeL (ι := ι) (fun p y => inv p ∧ (y.rens sw).arr ts ks = St p ∨ inv p ∧ y = St p) μ i0 (.inr ⟨h0, rfl⟩) fun p y hy => ?_
  have key : XWP P (Zap fn i) (fun e y => match e with | .normal => ∃ p', μ p' < μ p ∧ (inv p' ∧ (y.rens sw).arr ts ks = St p' ∨ inv p' ∧ y = St p') | e => Q e (y.arr ts ks)) (St p) := by
    have hp : inv p := hy.elim And.left And.left
    obtain ⟨H, V, VE, hH, hl, hV, hVE, hr⟩ := hr p hp
    refine ZbK (Za4 hH hm 200 _ _ _ hl hr) fun e y he => ?_
    cases e with
    | normal => obtain ⟨p', h1, h2, h3⟩ := ZcL hV he; exact ⟨p', h1, .inl ⟨h2, h3⟩⟩
    | _ => exact ZcL (hVE _) he
  rcases hy with ⟨_, h⟩ | ⟨_, rfl⟩
  · exact Zj8 sw (Zfs ts ks (by rw [h]; exact key))
  · exact key
theorem ZlI {P : Program} {fn : Func} {k : Nat} {sw : List (Nat × Nat)} {ts ks : List Nat} (hm : P.follows .mixedOrders = true)
    (St Sr : Nat → X) (n : Nat) (bad : Nat → Bool) (r e : Exit)
    (hs : ∀ i, i < n → (∀ j, j < i → bad j = false) → ∃ (H : Hooks) (V : Vw) (VE : Exit → Vw), Zao P H ∧ Zaq P H (Zap fn k) ∧ VwOK V ∧ (∀ e, VwOK (VE e)) ∧ ∀ (N : X → Prop) (E : Exit → X → Prop), (bad i = true → E r (Sr i)) → (bad i = false → N (St (i + 1))) → Zb1 P H fn k sw ts ks V VE N E (St i))
    (he : (∀ j, j < n → bad j = false) → ∃ (H : Hooks) (V : Vw) (VE : Exit → Vw), Zao P H ∧ Zaq P H (Zap fn k) ∧ VwOK V ∧ (∀ e, VwOK (VE e)) ∧ ∀ (N : X → Prop) (E : Exit → X → Prop), E e (St n) → Zb1 P H fn k sw ts ks V VE N E (St n))
    (Q : Exit → X → Prop) (x : X) (h : ZcC ts ks St Sr n bad r e Q x) : XWP P (.loop (Zap fn k)) Q x := by
  obtain ⟨h1, h2, h3⟩ := h
  refine Zlj (ι := Nat) sw hm St (fun i => i ≤ n ∧ ∀ j, j < i → bad j = false) (fun i => n - i) 0 (fun i hp => ?_) ⟨Nat.zero_le _, fun j hj => by omega⟩ h1
  obtain ⟨hi, hj⟩ := hp
  by_cases hl : i < n
  · obtain ⟨H, V, VE, c1, c2, c3, c4, c5⟩ := hs i hl hj
    refine ⟨H, V, VE, c1, c2, c3, c4, c5 _ _ (fun hb => h2 i ⟨hl, hb, hj⟩) (fun hb => ⟨i + 1, by omega, ⟨hl, fun j hji => ?_⟩, rfl⟩)⟩
    rcases Nat.lt_succ_iff_lt_or_eq.1 hji with hji | rfl
    · exact hj j hji
    · exact hb
  · have e : i = n := by omega
    subst e
    obtain ⟨H, V, VE, c1, c2, c3, c4, c5⟩ := he hj
    exact ⟨H, V, VE, c1, c2, c3, c4, c5 _ _ (h3 hj)⟩
structure Ls where
  (W0 W1 W2 W3 T P D0 V0 P1 D1 V1 : List (List D))
def stRA (h : Mh) (s s1 : SesD) (R : List (List D)) (k i : Int) (n m : Nat) (G : List (List D)) (a b c d : Int) (L : Ls) : X := ⟨mkT 127 [(0, aS 1 R []), (2, ab false), (3, .c (.rp 4 0 11 0 0)), (4, ai k), (5, .c (.rs 6 0 4 0 n m)), (6, .c (.rp 7 0 4 0 0)), (7, ai i)], [(17000, .sl 0 3 L.W0), (17001, .sl 0 3 L.W1), (17002, .sl 0 3 L.W2), (17003, .sl 0 3 L.W3), (17010, .sl 0 4 L.T), (102177155, .sl 0 4 L.P), (102177162, .sl 0 3 L.D0), (102177163, .sl 0 3 L.V0), (102177172, .sl 0 4 L.P1), (102177179, .sl 0 3 L.D1), (102177180, .sl 0 3 L.V1), (17009, .bx 0 34 [ci s.id, ci s.lb, ci s.cl, .rs 102177155 0 4 0 s.pg.length s.pg.length, ci s.st, ci s.pc, ci s.r0, ci s.r1, ci s.r2, ci s.r3, .rs 102177162 0 3 0 s.rd.length s.rd.length, .rs 102177163 0 3 0 s.wt.length s.wt.length, ci s.at', ci s.sp, ci s.tr, ci s.rs, ci s.to, ci s1.id, ci s1.lb, ci s1.cl, .rs 102177172 0 4 0 s1.pg.length s1.pg.length, ci s1.st, ci s1.pc, ci s1.r0, ci s1.r1, ci s1.r2, ci s1.r3, .rs 102177179 0 3 0 s1.rd.length s1.rd.length, .rs 102177180 0 3 0 s1.wt.length s1.wt.length, ci s1.at', ci s1.sp, ci s1.tr, ci s1.rs, ci s1.to]), (4, .bx 0 11 [.rs 17000 0 3 0 h.w0.length h.w0.length, .rs 17001 0 3 0 h.w1.length h.w1.length, .rs 17002 0 3 0 h.w2.length h.w2.length, .rs 17003 0 3 0 h.w3.length h.w3.length, ci h.c0, ci h.c1, ci h.c2, ci h.c3, ci h.ce, .rs 17009 0 17 0 2 2, .rs 17010 0 4 0 h.tr.length h.tr.length]), (6, .sl 0 4 G), (7, .bx 0 4 [ci a, ci b, ci c, ci d])], [], []⟩
def w4I (y : X) (k : Nat) (K : Int → Int → Int → Int → Prop) : Prop := wR y k fun r => match r with
  | [.d (.v (.int .i64 a)), .d (.v (.int .i64 b)), .d (.v (.int .i64 c)), .d (.v (.int .i64 d))] => K a b c d
  | _ => False
theorem Zo5 {y : X} {k : Nat} {K : Int → Int → Int → Int → Prop} (h : w4I y k K) : ∃ a b c d, K a b c d := by
  unfold w4I at h
  obtain ⟨r, h⟩ := Ztf h
  split at h
  · exact ⟨_, _, _, _, h⟩
  · exact h.elim
def Zgg (h : Mh) (s s1 : SesD) (R : List (List D)) (k : Int) (L : Ls) : Vw := fun y K => wI y 7 fun i => aS' y 5 fun n m => wL y 6 fun G => w4I y 7 fun a b c d => K (stRA h s s1 R k i n m G a b c d L)
theorem Zh9 (h : Mh) (s s1 : SesD) (R : List (List D)) (k : Int) (L : Ls) : VwOK (Zgg h s s1 R k L) := fun y K q => by
  unfold Zgg at q
  obtain ⟨i, q⟩ := ZbI q
  obtain ⟨n, m, q⟩ := Zr3 q
  obtain ⟨G, q⟩ := Zba q
  obtain ⟨a, b, c, d, q⟩ := Zo5 q
  exact ⟨_, q⟩
-- SUB (hdJ (List.drop (0) (List.getD R (Int.toNat i) []))) => (rI R i)
-- SUB hdJ (List.drop (0) (List.getD R (Int.toNat i) [])) => rI R i
-- SUB decide (0 ≤ i) && decide (i < @Nat.cast Int _ (List.length R)) => rB R i
-- SUB isJ [IntKind.i64] (List.drop (0) (List.getD R (Int.toNat i) [])) => rJ R i
-- SUB (decide (n ≤ List.length G) && (decide ((n + 1) * 32 ≤ 140737488355328) && decide (n + 1 ≤ 9223372036854775807))) => rN n G
-- SUB decide (n ≤ List.length G) && (decide ((n + 1) * 32 ≤ 140737488355328) && decide (n + 1 ≤ 9223372036854775807)) => rN n G
def rI (R : List (List D)) (i : Int) : Int := hdJ (List.drop 0 (List.getD R (Int.toNat i) []))
def rB (R : List (List D)) (i : Int) : Bool := decide (0 ≤ i) && decide (i < @Nat.cast Int _ (List.length R))
def rJ (R : List (List D)) (i : Int) : Bool := isJ [IntKind.i64] (List.drop 0 (List.getD R (Int.toNat i) []))
def rN (n : Nat) (G : List (List D)) : Bool := decide (n ≤ List.length G) && (decide ((n + 1) * 32 ≤ 140737488355328) && decide (n + 1 ≤ 9223372036854775807))
theorem rRA (an : Int → Int → Int) (h : Mh) (s s1 : SesD) (R : List (List D)) (k : Int) (i : Int) (n m : Nat) (G : List (List D)) (a b c d : Int) (L : Ls) (N : X → Prop) (E : Exit → X → Prop) : (Zb1 Tryz.prog { hkX an bor [] [] [] with spl := true, foc := true, split := true } Tryz.f13 0 [] [0, 2, 3, 4, 5, 6, 7] [17000, 17001, 17002, 17003, 17010, 102177155, 102177162, 102177163, 102177172, 102177179, 102177180, 17009, 4, 6, 7] (Zgg h s s1 R k L) (fun _ => Zgg h s s1 R k L) N E (stRA h s s1 R k i n m G a b c d L)) = (bif decide (i < k) then bif rB R i then bif rJ R i then bif an (rI R i) (3) == 0 then bif rB R i then bif rJ R i then bif an (Int.fdiv (rI R i) (4)) (3) == 0 then bif rB R i then bif rJ R i then bif rB R i then bif rJ R i then bif an (Int.fdiv (rI R i) (4096)) (1) == 1 then bif rN n G then stRA h s s1 R k (IntKind.wrap IntKind.i64 (i + 1)) (n + 1) (n + 1) (List.take n G ++ [[vN (1), vN (0), vN (0), vN (0)]]) (an (IntKind.wrap IntKind.i64 (a + a)) (255)) b c d L = stRA h s s1 R k (IntKind.wrap IntKind.i64 (i + 1)) (n + 1) (n + 1) (List.take n G ++ [[vN (1), vN (0), vN (0), vN (0)]]) (an (IntKind.wrap IntKind.i64 (a + a)) (255)) b c d L ∧ N (stRA h s s1 R k (IntKind.wrap IntKind.i64 (i + 1)) (n + 1) (n + 1) (List.take n G ++ [[vN (1), vN (0), vN (0), vN (0)]]) (an (IntKind.wrap IntKind.i64 (a + a)) (255)) b c d L) else False else bif rN n G then stRA h s s1 R k (IntKind.wrap IntKind.i64 (i + 1)) (n + 1) (n + 1) (List.take n G ++ [[vN (0), vN (0), vN (an (Int.fdiv (rI R i) (16)) (255)), vN (0)]]) (an (Int.fdiv (rI R i) (16)) (255)) b c d L = stRA h s s1 R k (IntKind.wrap IntKind.i64 (i + 1)) (n + 1) (n + 1) (List.take n G ++ [[vN (0), vN (0), vN (an (Int.fdiv (rI R i) (16)) (255)), vN (0)]]) (an (Int.fdiv (rI R i) (16)) (255)) b c d L ∧ N (stRA h s s1 R k (IntKind.wrap IntKind.i64 (i + 1)) (n + 1) (n + 1) (List.take n G ++ [[vN (0), vN (0), vN (an (Int.fdiv (rI R i) (16)) (255)), vN (0)]]) (an (Int.fdiv (rI R i) (16)) (255)) b c d L) else False else False else False else False else False else bif an (Int.fdiv (rI R i) (4)) (3) == 1 then bif rB R i then bif rJ R i then bif rB R i then bif rJ R i then bif an (Int.fdiv (rI R i) (4096)) (1) == 1 then bif rN n G then stRA h s s1 R k (IntKind.wrap IntKind.i64 (i + 1)) (n + 1) (n + 1) (List.take n G ++ [[vN (1), vN (0), vN (1), vN (0)]]) (an (IntKind.wrap IntKind.i64 (a + b)) (255)) b c d L = stRA h s s1 R k (IntKind.wrap IntKind.i64 (i + 1)) (n + 1) (n + 1) (List.take n G ++ [[vN (1), vN (0), vN (1), vN (0)]]) (an (IntKind.wrap IntKind.i64 (a + b)) (255)) b c d L ∧ N (stRA h s s1 R k (IntKind.wrap IntKind.i64 (i + 1)) (n + 1) (n + 1) (List.take n G ++ [[vN (1), vN (0), vN (1), vN (0)]]) (an (IntKind.wrap IntKind.i64 (a + b)) (255)) b c d L) else False else bif rN n G then stRA h s s1 R k (IntKind.wrap IntKind.i64 (i + 1)) (n + 1) (n + 1) (List.take n G ++ [[vN (0), vN (0), vN (an (Int.fdiv (rI R i) (16)) (255)), vN (0)]]) (an (Int.fdiv (rI R i) (16)) (255)) b c d L = stRA h s s1 R k (IntKind.wrap IntKind.i64 (i + 1)) (n + 1) (n + 1) (List.take n G ++ [[vN (0), vN (0), vN (an (Int.fdiv (rI R i) (16)) (255)), vN (0)]]) (an (Int.fdiv (rI R i) (16)) (255)) b c d L ∧ N (stRA h s s1 R k (IntKind.wrap IntKind.i64 (i + 1)) (n + 1) (n + 1) (List.take n G ++ [[vN (0), vN (0), vN (an (Int.fdiv (rI R i) (16)) (255)), vN (0)]]) (an (Int.fdiv (rI R i) (16)) (255)) b c d L) else False else False else False else False else False else bif an (Int.fdiv (rI R i) (4)) (3) == 2 then bif rB R i then bif rJ R i then bif rB R i then bif rJ R i then bif an (Int.fdiv (rI R i) (4096)) (1) == 1 then bif rN n G then stRA h s s1 R k (IntKind.wrap IntKind.i64 (i + 1)) (n + 1) (n + 1) (List.take n G ++ [[vN (1), vN (0), vN (2), vN (0)]]) (an (IntKind.wrap IntKind.i64 (a + c)) (255)) b c d L = stRA h s s1 R k (IntKind.wrap IntKind.i64 (i + 1)) (n + 1) (n + 1) (List.take n G ++ [[vN (1), vN (0), vN (2), vN (0)]]) (an (IntKind.wrap IntKind.i64 (a + c)) (255)) b c d L ∧ N (stRA h s s1 R k (IntKind.wrap IntKind.i64 (i + 1)) (n + 1) (n + 1) (List.take n G ++ [[vN (1), vN (0), vN (2), vN (0)]]) (an (IntKind.wrap IntKind.i64 (a + c)) (255)) b c d L) else False else bif rN n G then stRA h s s1 R k (IntKind.wrap IntKind.i64 (i + 1)) (n + 1) (n + 1) (List.take n G ++ [[vN (0), vN (0), vN (an (Int.fdiv (rI R i) (16)) (255)), vN (0)]]) (an (Int.fdiv (rI R i) (16)) (255)) b c d L = stRA h s s1 R k (IntKind.wrap IntKind.i64 (i + 1)) (n + 1) (n + 1) (List.take n G ++ [[vN (0), vN (0), vN (an (Int.fdiv (rI R i) (16)) (255)), vN (0)]]) (an (Int.fdiv (rI R i) (16)) (255)) b c d L ∧ N (stRA h s s1 R k (IntKind.wrap IntKind.i64 (i + 1)) (n + 1) (n + 1) (List.take n G ++ [[vN (0), vN (0), vN (an (Int.fdiv (rI R i) (16)) (255)), vN (0)]]) (an (Int.fdiv (rI R i) (16)) (255)) b c d L) else False else False else False else False else False else bif an (Int.fdiv (rI R i) (4)) (3) == 3 then bif rB R i then bif rJ R i then bif rB R i then bif rJ R i then bif an (Int.fdiv (rI R i) (4096)) (1) == 1 then bif rN n G then stRA h s s1 R k (IntKind.wrap IntKind.i64 (i + 1)) (n + 1) (n + 1) (List.take n G ++ [[vN (1), vN (0), vN (3), vN (0)]]) (an (IntKind.wrap IntKind.i64 (a + d)) (255)) b c d L = stRA h s s1 R k (IntKind.wrap IntKind.i64 (i + 1)) (n + 1) (n + 1) (List.take n G ++ [[vN (1), vN (0), vN (3), vN (0)]]) (an (IntKind.wrap IntKind.i64 (a + d)) (255)) b c d L ∧ N (stRA h s s1 R k (IntKind.wrap IntKind.i64 (i + 1)) (n + 1) (n + 1) (List.take n G ++ [[vN (1), vN (0), vN (3), vN (0)]]) (an (IntKind.wrap IntKind.i64 (a + d)) (255)) b c d L) else False else bif rN n G then stRA h s s1 R k (IntKind.wrap IntKind.i64 (i + 1)) (n + 1) (n + 1) (List.take n G ++ [[vN (0), vN (0), vN (an (Int.fdiv (rI R i) (16)) (255)), vN (0)]]) (an (Int.fdiv (rI R i) (16)) (255)) b c d L = stRA h s s1 R k (IntKind.wrap IntKind.i64 (i + 1)) (n + 1) (n + 1) (List.take n G ++ [[vN (0), vN (0), vN (an (Int.fdiv (rI R i) (16)) (255)), vN (0)]]) (an (Int.fdiv (rI R i) (16)) (255)) b c d L ∧ N (stRA h s s1 R k (IntKind.wrap IntKind.i64 (i + 1)) (n + 1) (n + 1) (List.take n G ++ [[vN (0), vN (0), vN (an (Int.fdiv (rI R i) (16)) (255)), vN (0)]]) (an (Int.fdiv (rI R i) (16)) (255)) b c d L) else False else False else False else False else False else False else False else False else bif an (rI R i) (3) == 1 then bif rB R i then bif rJ R i then bif an (Int.fdiv (rI R i) (4)) (3) == 0 then bif rB R i then bif rJ R i then bif rB R i then bif rJ R i then bif an (Int.fdiv (rI R i) (4096)) (1) == 1 then bif rN n G then stRA h s s1 R k (IntKind.wrap IntKind.i64 (i + 1)) (n + 1) (n + 1) (List.take n G ++ [[vN (1), vN (1), vN (0), vN (0)]]) a (an (IntKind.wrap IntKind.i64 (b + a)) (255)) c d L = stRA h s s1 R k (IntKind.wrap IntKind.i64 (i + 1)) (n + 1) (n + 1) (List.take n G ++ [[vN (1), vN (1), vN (0), vN (0)]]) a (an (IntKind.wrap IntKind.i64 (b + a)) (255)) c d L ∧ N (stRA h s s1 R k (IntKind.wrap IntKind.i64 (i + 1)) (n + 1) (n + 1) (List.take n G ++ [[vN (1), vN (1), vN (0), vN (0)]]) a (an (IntKind.wrap IntKind.i64 (b + a)) (255)) c d L) else False else bif rN n G then stRA h s s1 R k (IntKind.wrap IntKind.i64 (i + 1)) (n + 1) (n + 1) (List.take n G ++ [[vN (0), vN (1), vN (an (Int.fdiv (rI R i) (16)) (255)), vN (0)]]) a (an (Int.fdiv (rI R i) (16)) (255)) c d L = stRA h s s1 R k (IntKind.wrap IntKind.i64 (i + 1)) (n + 1) (n + 1) (List.take n G ++ [[vN (0), vN (1), vN (an (Int.fdiv (rI R i) (16)) (255)), vN (0)]]) a (an (Int.fdiv (rI R i) (16)) (255)) c d L ∧ N (stRA h s s1 R k (IntKind.wrap IntKind.i64 (i + 1)) (n + 1) (n + 1) (List.take n G ++ [[vN (0), vN (1), vN (an (Int.fdiv (rI R i) (16)) (255)), vN (0)]]) a (an (Int.fdiv (rI R i) (16)) (255)) c d L) else False else False else False else False else False else bif an (Int.fdiv (rI R i) (4)) (3) == 1 then bif rB R i then bif rJ R i then bif rB R i then bif rJ R i then bif an (Int.fdiv (rI R i) (4096)) (1) == 1 then bif rN n G then stRA h s s1 R k (IntKind.wrap IntKind.i64 (i + 1)) (n + 1) (n + 1) (List.take n G ++ [[vN (1), vN (1), vN (1), vN (0)]]) a (an (IntKind.wrap IntKind.i64 (b + b)) (255)) c d L = stRA h s s1 R k (IntKind.wrap IntKind.i64 (i + 1)) (n + 1) (n + 1) (List.take n G ++ [[vN (1), vN (1), vN (1), vN (0)]]) a (an (IntKind.wrap IntKind.i64 (b + b)) (255)) c d L ∧ N (stRA h s s1 R k (IntKind.wrap IntKind.i64 (i + 1)) (n + 1) (n + 1) (List.take n G ++ [[vN (1), vN (1), vN (1), vN (0)]]) a (an (IntKind.wrap IntKind.i64 (b + b)) (255)) c d L) else False else bif rN n G then stRA h s s1 R k (IntKind.wrap IntKind.i64 (i + 1)) (n + 1) (n + 1) (List.take n G ++ [[vN (0), vN (1), vN (an (Int.fdiv (rI R i) (16)) (255)), vN (0)]]) a (an (Int.fdiv (rI R i) (16)) (255)) c d L = stRA h s s1 R k (IntKind.wrap IntKind.i64 (i + 1)) (n + 1) (n + 1) (List.take n G ++ [[vN (0), vN (1), vN (an (Int.fdiv (rI R i) (16)) (255)), vN (0)]]) a (an (Int.fdiv (rI R i) (16)) (255)) c d L ∧ N (stRA h s s1 R k (IntKind.wrap IntKind.i64 (i + 1)) (n + 1) (n + 1) (List.take n G ++ [[vN (0), vN (1), vN (an (Int.fdiv (rI R i) (16)) (255)), vN (0)]]) a (an (Int.fdiv (rI R i) (16)) (255)) c d L) else False else False else False else False else False else bif an (Int.fdiv (rI R i) (4)) (3) == 2 then bif rB R i then bif rJ R i then bif rB R i then bif rJ R i then bif an (Int.fdiv (rI R i) (4096)) (1) == 1 then bif rN n G then stRA h s s1 R k (IntKind.wrap IntKind.i64 (i + 1)) (n + 1) (n + 1) (List.take n G ++ [[vN (1), vN (1), vN (2), vN (0)]]) a (an (IntKind.wrap IntKind.i64 (b + c)) (255)) c d L = stRA h s s1 R k (IntKind.wrap IntKind.i64 (i + 1)) (n + 1) (n + 1) (List.take n G ++ [[vN (1), vN (1), vN (2), vN (0)]]) a (an (IntKind.wrap IntKind.i64 (b + c)) (255)) c d L ∧ N (stRA h s s1 R k (IntKind.wrap IntKind.i64 (i + 1)) (n + 1) (n + 1) (List.take n G ++ [[vN (1), vN (1), vN (2), vN (0)]]) a (an (IntKind.wrap IntKind.i64 (b + c)) (255)) c d L) else False else bif rN n G then stRA h s s1 R k (IntKind.wrap IntKind.i64 (i + 1)) (n + 1) (n + 1) (List.take n G ++ [[vN (0), vN (1), vN (an (Int.fdiv (rI R i) (16)) (255)), vN (0)]]) a (an (Int.fdiv (rI R i) (16)) (255)) c d L = stRA h s s1 R k (IntKind.wrap IntKind.i64 (i + 1)) (n + 1) (n + 1) (List.take n G ++ [[vN (0), vN (1), vN (an (Int.fdiv (rI R i) (16)) (255)), vN (0)]]) a (an (Int.fdiv (rI R i) (16)) (255)) c d L ∧ N (stRA h s s1 R k (IntKind.wrap IntKind.i64 (i + 1)) (n + 1) (n + 1) (List.take n G ++ [[vN (0), vN (1), vN (an (Int.fdiv (rI R i) (16)) (255)), vN (0)]]) a (an (Int.fdiv (rI R i) (16)) (255)) c d L) else False else False else False else False else False else bif an (Int.fdiv (rI R i) (4)) (3) == 3 then bif rB R i then bif rJ R i then bif rB R i then bif rJ R i then bif an (Int.fdiv (rI R i) (4096)) (1) == 1 then bif rN n G then stRA h s s1 R k (IntKind.wrap IntKind.i64 (i + 1)) (n + 1) (n + 1) (List.take n G ++ [[vN (1), vN (1), vN (3), vN (0)]]) a (an (IntKind.wrap IntKind.i64 (b + d)) (255)) c d L = stRA h s s1 R k (IntKind.wrap IntKind.i64 (i + 1)) (n + 1) (n + 1) (List.take n G ++ [[vN (1), vN (1), vN (3), vN (0)]]) a (an (IntKind.wrap IntKind.i64 (b + d)) (255)) c d L ∧ N (stRA h s s1 R k (IntKind.wrap IntKind.i64 (i + 1)) (n + 1) (n + 1) (List.take n G ++ [[vN (1), vN (1), vN (3), vN (0)]]) a (an (IntKind.wrap IntKind.i64 (b + d)) (255)) c d L) else False else bif rN n G then stRA h s s1 R k (IntKind.wrap IntKind.i64 (i + 1)) (n + 1) (n + 1) (List.take n G ++ [[vN (0), vN (1), vN (an (Int.fdiv (rI R i) (16)) (255)), vN (0)]]) a (an (Int.fdiv (rI R i) (16)) (255)) c d L = stRA h s s1 R k (IntKind.wrap IntKind.i64 (i + 1)) (n + 1) (n + 1) (List.take n G ++ [[vN (0), vN (1), vN (an (Int.fdiv (rI R i) (16)) (255)), vN (0)]]) a (an (Int.fdiv (rI R i) (16)) (255)) c d L ∧ N (stRA h s s1 R k (IntKind.wrap IntKind.i64 (i + 1)) (n + 1) (n + 1) (List.take n G ++ [[vN (0), vN (1), vN (an (Int.fdiv (rI R i) (16)) (255)), vN (0)]]) a (an (Int.fdiv (rI R i) (16)) (255)) c d L) else False else False else False else False else False else False else False else False else bif an (rI R i) (3) == 2 then bif rB R i then bif rJ R i then bif an (Int.fdiv (rI R i) (4)) (3) == 0 then bif rB R i then bif rJ R i then bif rB R i then bif rJ R i then bif an (Int.fdiv (rI R i) (4096)) (1) == 1 then bif rN n G then stRA h s s1 R k (IntKind.wrap IntKind.i64 (i + 1)) (n + 1) (n + 1) (List.take n G ++ [[vN (1), vN (2), vN (0), vN (0)]]) a b (an (IntKind.wrap IntKind.i64 (c + a)) (255)) d L = stRA h s s1 R k (IntKind.wrap IntKind.i64 (i + 1)) (n + 1) (n + 1) (List.take n G ++ [[vN (1), vN (2), vN (0), vN (0)]]) a b (an (IntKind.wrap IntKind.i64 (c + a)) (255)) d L ∧ N (stRA h s s1 R k (IntKind.wrap IntKind.i64 (i + 1)) (n + 1) (n + 1) (List.take n G ++ [[vN (1), vN (2), vN (0), vN (0)]]) a b (an (IntKind.wrap IntKind.i64 (c + a)) (255)) d L) else False else bif rN n G then stRA h s s1 R k (IntKind.wrap IntKind.i64 (i + 1)) (n + 1) (n + 1) (List.take n G ++ [[vN (0), vN (2), vN (an (Int.fdiv (rI R i) (16)) (255)), vN (0)]]) a b (an (Int.fdiv (rI R i) (16)) (255)) d L = stRA h s s1 R k (IntKind.wrap IntKind.i64 (i + 1)) (n + 1) (n + 1) (List.take n G ++ [[vN (0), vN (2), vN (an (Int.fdiv (rI R i) (16)) (255)), vN (0)]]) a b (an (Int.fdiv (rI R i) (16)) (255)) d L ∧ N (stRA h s s1 R k (IntKind.wrap IntKind.i64 (i + 1)) (n + 1) (n + 1) (List.take n G ++ [[vN (0), vN (2), vN (an (Int.fdiv (rI R i) (16)) (255)), vN (0)]]) a b (an (Int.fdiv (rI R i) (16)) (255)) d L) else False else False else False else False else False else bif an (Int.fdiv (rI R i) (4)) (3) == 1 then bif rB R i then bif rJ R i then bif rB R i then bif rJ R i then bif an (Int.fdiv (rI R i) (4096)) (1) == 1 then bif rN n G then stRA h s s1 R k (IntKind.wrap IntKind.i64 (i + 1)) (n + 1) (n + 1) (List.take n G ++ [[vN (1), vN (2), vN (1), vN (0)]]) a b (an (IntKind.wrap IntKind.i64 (c + b)) (255)) d L = stRA h s s1 R k (IntKind.wrap IntKind.i64 (i + 1)) (n + 1) (n + 1) (List.take n G ++ [[vN (1), vN (2), vN (1), vN (0)]]) a b (an (IntKind.wrap IntKind.i64 (c + b)) (255)) d L ∧ N (stRA h s s1 R k (IntKind.wrap IntKind.i64 (i + 1)) (n + 1) (n + 1) (List.take n G ++ [[vN (1), vN (2), vN (1), vN (0)]]) a b (an (IntKind.wrap IntKind.i64 (c + b)) (255)) d L) else False else bif rN n G then stRA h s s1 R k (IntKind.wrap IntKind.i64 (i + 1)) (n + 1) (n + 1) (List.take n G ++ [[vN (0), vN (2), vN (an (Int.fdiv (rI R i) (16)) (255)), vN (0)]]) a b (an (Int.fdiv (rI R i) (16)) (255)) d L = stRA h s s1 R k (IntKind.wrap IntKind.i64 (i + 1)) (n + 1) (n + 1) (List.take n G ++ [[vN (0), vN (2), vN (an (Int.fdiv (rI R i) (16)) (255)), vN (0)]]) a b (an (Int.fdiv (rI R i) (16)) (255)) d L ∧ N (stRA h s s1 R k (IntKind.wrap IntKind.i64 (i + 1)) (n + 1) (n + 1) (List.take n G ++ [[vN (0), vN (2), vN (an (Int.fdiv (rI R i) (16)) (255)), vN (0)]]) a b (an (Int.fdiv (rI R i) (16)) (255)) d L) else False else False else False else False else False else bif an (Int.fdiv (rI R i) (4)) (3) == 2 then bif rB R i then bif rJ R i then bif rB R i then bif rJ R i then bif an (Int.fdiv (rI R i) (4096)) (1) == 1 then bif rN n G then stRA h s s1 R k (IntKind.wrap IntKind.i64 (i + 1)) (n + 1) (n + 1) (List.take n G ++ [[vN (1), vN (2), vN (2), vN (0)]]) a b (an (IntKind.wrap IntKind.i64 (c + c)) (255)) d L = stRA h s s1 R k (IntKind.wrap IntKind.i64 (i + 1)) (n + 1) (n + 1) (List.take n G ++ [[vN (1), vN (2), vN (2), vN (0)]]) a b (an (IntKind.wrap IntKind.i64 (c + c)) (255)) d L ∧ N (stRA h s s1 R k (IntKind.wrap IntKind.i64 (i + 1)) (n + 1) (n + 1) (List.take n G ++ [[vN (1), vN (2), vN (2), vN (0)]]) a b (an (IntKind.wrap IntKind.i64 (c + c)) (255)) d L) else False else bif rN n G then stRA h s s1 R k (IntKind.wrap IntKind.i64 (i + 1)) (n + 1) (n + 1) (List.take n G ++ [[vN (0), vN (2), vN (an (Int.fdiv (rI R i) (16)) (255)), vN (0)]]) a b (an (Int.fdiv (rI R i) (16)) (255)) d L = stRA h s s1 R k (IntKind.wrap IntKind.i64 (i + 1)) (n + 1) (n + 1) (List.take n G ++ [[vN (0), vN (2), vN (an (Int.fdiv (rI R i) (16)) (255)), vN (0)]]) a b (an (Int.fdiv (rI R i) (16)) (255)) d L ∧ N (stRA h s s1 R k (IntKind.wrap IntKind.i64 (i + 1)) (n + 1) (n + 1) (List.take n G ++ [[vN (0), vN (2), vN (an (Int.fdiv (rI R i) (16)) (255)), vN (0)]]) a b (an (Int.fdiv (rI R i) (16)) (255)) d L) else False else False else False else False else False else bif an (Int.fdiv (rI R i) (4)) (3) == 3 then bif rB R i then bif rJ R i then bif rB R i then bif rJ R i then bif an (Int.fdiv (rI R i) (4096)) (1) == 1 then bif rN n G then stRA h s s1 R k (IntKind.wrap IntKind.i64 (i + 1)) (n + 1) (n + 1) (List.take n G ++ [[vN (1), vN (2), vN (3), vN (0)]]) a b (an (IntKind.wrap IntKind.i64 (c + d)) (255)) d L = stRA h s s1 R k (IntKind.wrap IntKind.i64 (i + 1)) (n + 1) (n + 1) (List.take n G ++ [[vN (1), vN (2), vN (3), vN (0)]]) a b (an (IntKind.wrap IntKind.i64 (c + d)) (255)) d L ∧ N (stRA h s s1 R k (IntKind.wrap IntKind.i64 (i + 1)) (n + 1) (n + 1) (List.take n G ++ [[vN (1), vN (2), vN (3), vN (0)]]) a b (an (IntKind.wrap IntKind.i64 (c + d)) (255)) d L) else False else bif rN n G then stRA h s s1 R k (IntKind.wrap IntKind.i64 (i + 1)) (n + 1) (n + 1) (List.take n G ++ [[vN (0), vN (2), vN (an (Int.fdiv (rI R i) (16)) (255)), vN (0)]]) a b (an (Int.fdiv (rI R i) (16)) (255)) d L = stRA h s s1 R k (IntKind.wrap IntKind.i64 (i + 1)) (n + 1) (n + 1) (List.take n G ++ [[vN (0), vN (2), vN (an (Int.fdiv (rI R i) (16)) (255)), vN (0)]]) a b (an (Int.fdiv (rI R i) (16)) (255)) d L ∧ N (stRA h s s1 R k (IntKind.wrap IntKind.i64 (i + 1)) (n + 1) (n + 1) (List.take n G ++ [[vN (0), vN (2), vN (an (Int.fdiv (rI R i) (16)) (255)), vN (0)]]) a b (an (Int.fdiv (rI R i) (16)) (255)) d L) else False else False else False else False else False else False else False else False else bif an (rI R i) (3) == 3 then bif rB R i then bif rJ R i then bif an (Int.fdiv (rI R i) (4)) (3) == 0 then bif rB R i then bif rJ R i then bif rB R i then bif rJ R i then bif an (Int.fdiv (rI R i) (4096)) (1) == 1 then bif rN n G then stRA h s s1 R k (IntKind.wrap IntKind.i64 (i + 1)) (n + 1) (n + 1) (List.take n G ++ [[vN (1), vN (3), vN (0), vN (0)]]) a b c (an (IntKind.wrap IntKind.i64 (d + a)) (255)) L = stRA h s s1 R k (IntKind.wrap IntKind.i64 (i + 1)) (n + 1) (n + 1) (List.take n G ++ [[vN (1), vN (3), vN (0), vN (0)]]) a b c (an (IntKind.wrap IntKind.i64 (d + a)) (255)) L ∧ N (stRA h s s1 R k (IntKind.wrap IntKind.i64 (i + 1)) (n + 1) (n + 1) (List.take n G ++ [[vN (1), vN (3), vN (0), vN (0)]]) a b c (an (IntKind.wrap IntKind.i64 (d + a)) (255)) L) else False else bif rN n G then stRA h s s1 R k (IntKind.wrap IntKind.i64 (i + 1)) (n + 1) (n + 1) (List.take n G ++ [[vN (0), vN (3), vN (an (Int.fdiv (rI R i) (16)) (255)), vN (0)]]) a b c (an (Int.fdiv (rI R i) (16)) (255)) L = stRA h s s1 R k (IntKind.wrap IntKind.i64 (i + 1)) (n + 1) (n + 1) (List.take n G ++ [[vN (0), vN (3), vN (an (Int.fdiv (rI R i) (16)) (255)), vN (0)]]) a b c (an (Int.fdiv (rI R i) (16)) (255)) L ∧ N (stRA h s s1 R k (IntKind.wrap IntKind.i64 (i + 1)) (n + 1) (n + 1) (List.take n G ++ [[vN (0), vN (3), vN (an (Int.fdiv (rI R i) (16)) (255)), vN (0)]]) a b c (an (Int.fdiv (rI R i) (16)) (255)) L) else False else False else False else False else False else bif an (Int.fdiv (rI R i) (4)) (3) == 1 then bif rB R i then bif rJ R i then bif rB R i then bif rJ R i then bif an (Int.fdiv (rI R i) (4096)) (1) == 1 then bif rN n G then stRA h s s1 R k (IntKind.wrap IntKind.i64 (i + 1)) (n + 1) (n + 1) (List.take n G ++ [[vN (1), vN (3), vN (1), vN (0)]]) a b c (an (IntKind.wrap IntKind.i64 (d + b)) (255)) L = stRA h s s1 R k (IntKind.wrap IntKind.i64 (i + 1)) (n + 1) (n + 1) (List.take n G ++ [[vN (1), vN (3), vN (1), vN (0)]]) a b c (an (IntKind.wrap IntKind.i64 (d + b)) (255)) L ∧ N (stRA h s s1 R k (IntKind.wrap IntKind.i64 (i + 1)) (n + 1) (n + 1) (List.take n G ++ [[vN (1), vN (3), vN (1), vN (0)]]) a b c (an (IntKind.wrap IntKind.i64 (d + b)) (255)) L) else False else bif rN n G then stRA h s s1 R k (IntKind.wrap IntKind.i64 (i + 1)) (n + 1) (n + 1) (List.take n G ++ [[vN (0), vN (3), vN (an (Int.fdiv (rI R i) (16)) (255)), vN (0)]]) a b c (an (Int.fdiv (rI R i) (16)) (255)) L = stRA h s s1 R k (IntKind.wrap IntKind.i64 (i + 1)) (n + 1) (n + 1) (List.take n G ++ [[vN (0), vN (3), vN (an (Int.fdiv (rI R i) (16)) (255)), vN (0)]]) a b c (an (Int.fdiv (rI R i) (16)) (255)) L ∧ N (stRA h s s1 R k (IntKind.wrap IntKind.i64 (i + 1)) (n + 1) (n + 1) (List.take n G ++ [[vN (0), vN (3), vN (an (Int.fdiv (rI R i) (16)) (255)), vN (0)]]) a b c (an (Int.fdiv (rI R i) (16)) (255)) L) else False else False else False else False else False else bif an (Int.fdiv (rI R i) (4)) (3) == 2 then bif rB R i then bif rJ R i then bif rB R i then bif rJ R i then bif an (Int.fdiv (rI R i) (4096)) (1) == 1 then bif rN n G then stRA h s s1 R k (IntKind.wrap IntKind.i64 (i + 1)) (n + 1) (n + 1) (List.take n G ++ [[vN (1), vN (3), vN (2), vN (0)]]) a b c (an (IntKind.wrap IntKind.i64 (d + c)) (255)) L = stRA h s s1 R k (IntKind.wrap IntKind.i64 (i + 1)) (n + 1) (n + 1) (List.take n G ++ [[vN (1), vN (3), vN (2), vN (0)]]) a b c (an (IntKind.wrap IntKind.i64 (d + c)) (255)) L ∧ N (stRA h s s1 R k (IntKind.wrap IntKind.i64 (i + 1)) (n + 1) (n + 1) (List.take n G ++ [[vN (1), vN (3), vN (2), vN (0)]]) a b c (an (IntKind.wrap IntKind.i64 (d + c)) (255)) L) else False else bif rN n G then stRA h s s1 R k (IntKind.wrap IntKind.i64 (i + 1)) (n + 1) (n + 1) (List.take n G ++ [[vN (0), vN (3), vN (an (Int.fdiv (rI R i) (16)) (255)), vN (0)]]) a b c (an (Int.fdiv (rI R i) (16)) (255)) L = stRA h s s1 R k (IntKind.wrap IntKind.i64 (i + 1)) (n + 1) (n + 1) (List.take n G ++ [[vN (0), vN (3), vN (an (Int.fdiv (rI R i) (16)) (255)), vN (0)]]) a b c (an (Int.fdiv (rI R i) (16)) (255)) L ∧ N (stRA h s s1 R k (IntKind.wrap IntKind.i64 (i + 1)) (n + 1) (n + 1) (List.take n G ++ [[vN (0), vN (3), vN (an (Int.fdiv (rI R i) (16)) (255)), vN (0)]]) a b c (an (Int.fdiv (rI R i) (16)) (255)) L) else False else False else False else False else False else bif an (Int.fdiv (rI R i) (4)) (3) == 3 then bif rB R i then bif rJ R i then bif rB R i then bif rJ R i then bif an (Int.fdiv (rI R i) (4096)) (1) == 1 then bif rN n G then stRA h s s1 R k (IntKind.wrap IntKind.i64 (i + 1)) (n + 1) (n + 1) (List.take n G ++ [[vN (1), vN (3), vN (3), vN (0)]]) a b c (an (IntKind.wrap IntKind.i64 (d + d)) (255)) L = stRA h s s1 R k (IntKind.wrap IntKind.i64 (i + 1)) (n + 1) (n + 1) (List.take n G ++ [[vN (1), vN (3), vN (3), vN (0)]]) a b c (an (IntKind.wrap IntKind.i64 (d + d)) (255)) L ∧ N (stRA h s s1 R k (IntKind.wrap IntKind.i64 (i + 1)) (n + 1) (n + 1) (List.take n G ++ [[vN (1), vN (3), vN (3), vN (0)]]) a b c (an (IntKind.wrap IntKind.i64 (d + d)) (255)) L) else False else bif rN n G then stRA h s s1 R k (IntKind.wrap IntKind.i64 (i + 1)) (n + 1) (n + 1) (List.take n G ++ [[vN (0), vN (3), vN (an (Int.fdiv (rI R i) (16)) (255)), vN (0)]]) a b c (an (Int.fdiv (rI R i) (16)) (255)) L = stRA h s s1 R k (IntKind.wrap IntKind.i64 (i + 1)) (n + 1) (n + 1) (List.take n G ++ [[vN (0), vN (3), vN (an (Int.fdiv (rI R i) (16)) (255)), vN (0)]]) a b c (an (Int.fdiv (rI R i) (16)) (255)) L ∧ N (stRA h s s1 R k (IntKind.wrap IntKind.i64 (i + 1)) (n + 1) (n + 1) (List.take n G ++ [[vN (0), vN (3), vN (an (Int.fdiv (rI R i) (16)) (255)), vN (0)]]) a b c (an (Int.fdiv (rI R i) (16)) (255)) L) else False else False else False else False else False else False else False else False else False else False else False else stRA h s s1 R k i n m G a b c d L = stRA h s s1 R k i n m G a b c d L ∧ E (Exit.exit (0)) (stRA h s s1 R k i n m G a b c d L)) := by kernel_rfl
def stRB (h : Mh) (s s1 : SesD) (k i a b c d : Int) (L : Ls) : X := ⟨mkT 127 [(2, ab false), (3, .c (.rp 4 0 11 0 0)), (4, ai k), (6, .c (.rp 7 0 4 0 0)), (11, ai i)], [(17000, .sl 0 3 L.W0), (17001, .sl 0 3 L.W1), (17002, .sl 0 3 L.W2), (17003, .sl 0 3 L.W3), (17010, .sl 0 4 L.T), (6, .sl 0 4 L.P), (102177162, .sl 0 3 L.D0), (102177163, .sl 0 3 L.V0), (102177172, .sl 0 4 L.P1), (102177179, .sl 0 3 L.D1), (102177180, .sl 0 3 L.V1), (17009, .bx 0 34 [ci s.id, ci s.lb, ci s.cl, .rs 6 0 4 0 s.pg.length s.pg.length, ci s.st, ci s.pc, ci s.r0, ci s.r1, ci s.r2, ci s.r3, .rs 102177162 0 3 0 s.rd.length s.rd.length, .rs 102177163 0 3 0 s.wt.length s.wt.length, ci s.at', ci s.sp, ci s.tr, ci s.rs, ci s.to, ci s1.id, ci s1.lb, ci s1.cl, .rs 102177172 0 4 0 s1.pg.length s1.pg.length, ci s1.st, ci s1.pc, ci s1.r0, ci s1.r1, ci s1.r2, ci s1.r3, .rs 102177179 0 3 0 s1.rd.length s1.rd.length, .rs 102177180 0 3 0 s1.wt.length s1.wt.length, ci s1.at', ci s1.sp, ci s1.tr, ci s1.rs, ci s1.to]), (4, .bx 0 11 [.rs 17000 0 3 0 h.w0.length h.w0.length, .rs 17001 0 3 0 h.w1.length h.w1.length, .rs 17002 0 3 0 h.w2.length h.w2.length, .rs 17003 0 3 0 h.w3.length h.w3.length, ci h.c0, ci h.c1, ci h.c2, ci h.c3, ci h.ce, .rs 17009 0 17 0 2 2, .rs 17010 0 4 0 h.tr.length h.tr.length]), (7, .bx 0 4 [ci a, ci b, ci c, ci d])], [], []⟩
def Zf5 (h : Mh) (s s1 : SesD) (k a b c d : Int) (L : Ls) : Vw := fun y K => wI y 11 fun i => K (stRB h s s1 k i a b c d L)
theorem ZhZ (h : Mh) (s s1 : SesD) (k a b c d : Int) (L : Ls) : VwOK (Zf5 h s s1 k a b c d L) := fun y K q => by
  unfold Zf5 at q
  obtain ⟨i, q⟩ := ZbI q
  exact ⟨_, q⟩
def ZdS (h : Mh) (s s1 : SesD) (k a b c d : Int) : Vw := fun y K => wI y 11 fun i => wL y 17000 fun W0 => wL y 17001 fun W1 => wL y 17002 fun W2 => wL y 17003 fun W3 => wL y 17010 fun T => wL y 6 fun P => wL y 102177162 fun D0 => wL y 102177163 fun V0 => wL y 102177172 fun P1 => wL y 102177179 fun D1 => wL y 102177180 fun V1 => K (stRB h s s1 k i a b c d ⟨W0, W1, W2, W3, T, P, D0, V0, P1, D1, V1⟩)
theorem Zf9 (h : Mh) (s s1 : SesD) (k a b c d : Int) : VwOK (ZdS h s s1 k a b c d) := fun y K q => by
  unfold ZdS at q
  obtain ⟨i, q⟩ := ZbI q
  obtain ⟨W0, q⟩ := Zba q
  obtain ⟨W1, q⟩ := Zba q
  obtain ⟨W2, q⟩ := Zba q
  obtain ⟨W3, q⟩ := Zba q
  obtain ⟨T, q⟩ := Zba q
  obtain ⟨P, q⟩ := Zba q
  obtain ⟨D0, q⟩ := Zba q
  obtain ⟨V0, q⟩ := Zba q
  obtain ⟨P1, q⟩ := Zba q
  obtain ⟨D1, q⟩ := Zba q
  obtain ⟨V1, q⟩ := Zba q
  exact ⟨_, q⟩
theorem rRB (h : Mh) (s s' s1 : SesD) (k i a b c d : Int) (L : Ls) (N : X → Prop) (E : Exit → X → Prop) : (Zb1 Tryz.prog (hkF [(25, sI)] [] [(33, Zit Tryz.prog [34] (sAtL [.agg (macL 0 h [s, s1]), I 0] (.tup [.agg (macL 1 h [s', s1]), I 0])))]) Tryz.f13 1 [(87000, 17000), (87001, 17001), (87002, 17002), (87003, 17003), (87009, 17009), (87010, 17010), (111137155, 6), (111137162, 102177162), (111137163, 102177163), (111137172, 102177172), (111137179, 102177179), (111137180, 102177180)] [2, 3, 4, 6, 11] [17000, 17001, 17002, 17003, 17010, 6, 102177162, 102177163, 102177172, 102177179, 102177180, 17009, 4, 7] (ZdS h s' s1 k a b c d) (fun _ => Zf5 h s s1 k a b c d L) N E (stRB h s s1 k i a b c d L)) = (bif decide (i < k) then bif decide (0 + List.length h.w0 ≤ List.length L.W0) then bif decide (0 + List.length h.w1 ≤ List.length L.W1) then bif decide (0 + List.length h.w2 ≤ List.length L.W2) then bif decide (0 + List.length h.w3 ≤ List.length L.W3) then bif decide (0 + List.length s.pg ≤ List.length L.P) then bif decide (0 + List.length s.rd ≤ List.length L.D0) then bif decide (0 + List.length s.wt ≤ List.length L.V0) then bif decide (0 + List.length s1.pg ≤ List.length L.P1) then bif decide (0 + List.length s1.rd ≤ List.length L.D1) then bif decide (0 + List.length s1.wt ≤ List.length L.V1) then bif decide (0 + List.length h.tr ≤ List.length L.T) then Zrz [DV.agg [D.s (0) (3) (cut L.W0 (0) (List.length h.w0)) (cut L.W0 (0 + List.length h.w0) (List.length h.w0 - List.length h.w0)), D.s (0) (3) (cut L.W1 (0) (List.length h.w1)) (cut L.W1 (0 + List.length h.w1) (List.length h.w1 - List.length h.w1)), D.s (0) (3) (cut L.W2 (0) (List.length h.w2)) (cut L.W2 (0 + List.length h.w2) (List.length h.w2 - List.length h.w2)), D.s (0) (3) (cut L.W3 (0) (List.length h.w3)) (cut L.W3 (0 + List.length h.w3) (List.length h.w3 - List.length h.w3)), vN h.c0, vN h.c1, vN h.c2, vN h.c3, vN h.ce, D.s (0) (17) [[vN s.id, vN s.lb, vN s.cl, D.s (0) (4) (cut L.P (0) (List.length s.pg)) (cut L.P (0 + List.length s.pg) (List.length s.pg - List.length s.pg)), vN s.st, vN s.pc, vN s.r0, vN s.r1, vN s.r2, vN s.r3, D.s (0) (3) (cut L.D0 (0) (List.length s.rd)) (cut L.D0 (0 + List.length s.rd) (List.length s.rd - List.length s.rd)), D.s (0) (3) (cut L.V0 (0) (List.length s.wt)) (cut L.V0 (0 + List.length s.wt) (List.length s.wt - List.length s.wt)), vN s.at', vN s.sp, vN s.tr, vN s.rs, vN s.to], [vN s1.id, vN s1.lb, vN s1.cl, D.s (0) (4) (cut L.P1 (0) (List.length s1.pg)) (cut L.P1 (0 + List.length s1.pg) (List.length s1.pg - List.length s1.pg)), vN s1.st, vN s1.pc, vN s1.r0, vN s1.r1, vN s1.r2, vN s1.r3, D.s (0) (3) (cut L.D1 (0) (List.length s1.rd)) (cut L.D1 (0 + List.length s1.rd) (List.length s1.rd - List.length s1.rd)), D.s (0) (3) (cut L.V1 (0) (List.length s1.wt)) (cut L.V1 (0 + List.length s1.wt) (List.length s1.wt - List.length s1.wt)), vN s1.at', vN s1.sp, vN s1.tr, vN s1.rs, vN s1.to]] [], D.s (0) (4) (cut L.T (0) (List.length h.tr)) (cut L.T (0 + List.length h.tr) (List.length h.tr - List.length h.tr))], I (0)] [DV.agg (ZcB (0) h [(sesL (0) s), (sesL (0) s1)]), I (0)] ∧ stRB h s' s1 k (IntKind.wrap IntKind.i64 (i + 1)) a b c d { W0 := h.w0 ++ [], W1 := h.w1 ++ [], W2 := h.w2 ++ [], W3 := h.w3 ++ [], T := h.tr ++ [], P := s'.pg ++ [], D0 := s'.rd ++ [], V0 := s'.wt ++ [], P1 := s1.pg ++ [], D1 := s1.rd ++ [], V1 := s1.wt ++ [] } = stRB h s' s1 k (IntKind.wrap IntKind.i64 (i + 1)) a b c d { W0 := h.w0 ++ [], W1 := h.w1 ++ [], W2 := h.w2 ++ [], W3 := h.w3 ++ [], T := h.tr ++ [], P := s'.pg ++ [], D0 := s'.rd ++ [], V0 := s'.wt ++ [], P1 := s1.pg ++ [], D1 := s1.rd ++ [], V1 := s1.wt ++ [] } ∧ N (stRB h s' s1 k (IntKind.wrap IntKind.i64 (i + 1)) a b c d { W0 := h.w0 ++ [], W1 := h.w1 ++ [], W2 := h.w2 ++ [], W3 := h.w3 ++ [], T := h.tr ++ [], P := s'.pg ++ [], D0 := s'.rd ++ [], V0 := s'.wt ++ [], P1 := s1.pg ++ [], D1 := s1.rd ++ [], V1 := s1.wt ++ [] }) else False else False else False else False else False else False else False else False else False else False else False else stRB h s s1 k i a b c d L = stRB h s s1 k i a b c d L ∧ E (Exit.exit (2)) (stRB h s s1 k i a b c d L)) := by kernel_rfl
theorem rRBe (h : Mh) (s s1 : SesD) (k i a b c d : Int) (L : Ls) (N : X → Prop) (E : Exit → X → Prop) : (Zb1 Tryz.prog (hkF [(25, sI)] [] []) Tryz.f13 1 [(87000, 17000), (87001, 17001), (87002, 17002), (87003, 17003), (87009, 17009), (87010, 17010), (111137155, 6), (111137162, 102177162), (111137163, 102177163), (111137172, 102177172), (111137179, 102177179), (111137180, 102177180)] [2, 3, 4, 6, 11] [17000, 17001, 17002, 17003, 17010, 6, 102177162, 102177163, 102177172, 102177179, 102177180, 17009, 4, 7] (ZdS h s s1 k a b c d) (fun _ => Zf5 h s s1 k a b c d L) N E (stRB h s s1 k i a b c d L)) = (bif decide (i < k) then bif decide (0 + List.length h.w0 ≤ List.length L.W0) then bif decide (0 + List.length h.w1 ≤ List.length L.W1) then bif decide (0 + List.length h.w2 ≤ List.length L.W2) then bif decide (0 + List.length h.w3 ≤ List.length L.W3) then bif decide (0 + List.length s.pg ≤ List.length L.P) then bif decide (0 + List.length s.rd ≤ List.length L.D0) then bif decide (0 + List.length s.wt ≤ List.length L.V0) then bif decide (0 + List.length s1.pg ≤ List.length L.P1) then bif decide (0 + List.length s1.rd ≤ List.length L.D1) then bif decide (0 + List.length s1.wt ≤ List.length L.V1) then bif decide (0 + List.length h.tr ≤ List.length L.T) then False else False else False else False else False else False else False else False else False else False else False else False else stRB h s s1 k i a b c d L = stRB h s s1 k i a b c d L ∧ E (Exit.exit (2)) (stRB h s s1 k i a b c d L)) := by kernel_rfl
def lsOf (h : Mh) (s s1 : SesD) : Ls := ⟨h.w0, h.w1, h.w2, h.w3, h.tr, s.pg, s.rd, s.wt, s1.pg, s1.rd, s1.wt⟩
def fRA (h : Mh) (s s1 : SesD) (R : List (List D)) (G : List (List D)) (a b c d : Int) : LSum := fun Q x => wI x 4 fun k => wL x 17000 fun W0 => wL x 17001 fun W1 => wL x 17002 fun W2 => wL x 17003 fun W3 => wL x 17010 fun T => wL x 102177155 fun P => wL x 102177162 fun D0 => wL x 102177163 fun V0 => wL x 102177172 fun P1 => wL x 102177179 fun D1 => wL x 102177180 fun V1 => k = (G.length : Nat) ∧ W0 = h.w0 ∧ W1 = h.w1 ∧ W2 = h.w2 ∧ W3 = h.w3 ∧ T = h.tr ∧ P = s.pg ∧ D0 = s.rd ∧ V0 = s.wt ∧ P1 = s1.pg ∧ D1 = s1.rd ∧ V1 = s1.wt ∧ x.arr [0, 2, 3, 4, 5, 6, 7] [17000, 17001, 17002, 17003, 17010, 102177155, 102177162, 102177163, 102177172, 102177179, 102177180, 17009, 4, 6, 7] = stRA h s s1 R k 0 0 0 [] 0 0 0 0 ⟨W0, W1, W2, W3, T, P, D0, V0, P1, D1, V1⟩ ∧ Q (.exit 0) (stRA h s s1 R k k G.length G.length G a b c d (lsOf h s s1))
def fRB (h : Mh) (s s' s1 : SesD) (n : Nat) : LSum := fun Q x => wI x 4 fun k => w4I x 7 fun a b c d => wL x 17000 fun W0 => wL x 17001 fun W1 => wL x 17002 fun W2 => wL x 17003 fun W3 => wL x 17010 fun T => wL x 6 fun P => wL x 102177162 fun D0 => wL x 102177163 fun V0 => wL x 102177172 fun P1 => wL x 102177179 fun D1 => wL x 102177180 fun V1 => k = (n : Nat) ∧ W0 = h.w0 ∧ W1 = h.w1 ∧ W2 = h.w2 ∧ W3 = h.w3 ∧ T = h.tr ∧ P = s.pg ∧ D0 = s.rd ∧ V0 = s.wt ∧ P1 = s1.pg ∧ D1 = s1.rd ∧ V1 = s1.wt ∧ x.arr [2, 3, 4, 6, 11] [17000, 17001, 17002, 17003, 17010, 6, 102177162, 102177163, 102177172, 102177179, 102177180, 17009, 4, 7] = stRB h s s1 k 0 a b c d ⟨W0, W1, W2, W3, T, P, D0, V0, P1, D1, V1⟩ ∧ Q (.exit 2) (stRB h s' s1 k k a b c d (lsOf h s' s1))
theorem eCR (h : Mh) (s s' s1 : SesD) (R : List (List D)) (G : List (List D)) (a b c d : Int) (K : DV → Prop) : (askW Tryz.prog (hkFL [(35, sAtD [] (B true)), (25, sI), (37, sAtD [I 0, I 0] (.agg (macL 0 h [s, s1])))] [] [(36, Zit Tryz.prog [] (sAtD [] (.agg (macL 1 h [s, s1]))))] [(8, fRA h s s1 R G a b c d), (18, fRB h { s with pg := G } s' s1 G.length)]) Tryz.f13 [.c (.s 0 1 R [])] K) = (([] : List DV) = [] ∧ ([] : List DV) = [] ∧ Decidable.rec (fun h => (fun x => @Nat.cast Int _ (List.length R)) h) (fun h => (fun x => 16) h) (Int.decLt (16) (@Nat.cast Int _ (List.length R))) = @Nat.cast Int _ (List.length G) ∧ h.w0 ++ [] = h.w0 ∧ h.w1 ++ [] = h.w1 ∧ h.w2 ++ [] = h.w2 ∧ h.w3 ++ [] = h.w3 ∧ h.tr ++ [] = h.tr ∧ s.pg ++ [] = s.pg ∧ s.rd ++ [] = s.rd ∧ s.wt ++ [] = s.wt ∧ s1.pg ++ [] = s1.pg ∧ s1.rd ++ [] = s1.rd ∧ s1.wt ++ [] = s1.wt ∧ stRA h s s1 R (Decidable.rec (fun h => (fun x => @Nat.cast Int _ (List.length R)) h) (fun h => (fun x => 16) h) (Int.decLt (16) (@Nat.cast Int _ (List.length R)))) (0) (0) (0) [] (0) (0) (0) (0) { W0 := h.w0 ++ [], W1 := h.w1 ++ [], W2 := h.w2 ++ [], W3 := h.w3 ++ [], T := h.tr ++ [], P := s.pg ++ [], D0 := s.rd ++ [], V0 := s.wt ++ [], P1 := s1.pg ++ [], D1 := s1.rd ++ [], V1 := s1.wt ++ [] } = stRA h s s1 R (Decidable.rec (fun h => (fun x => @Nat.cast Int _ (List.length R)) h) (fun h => (fun x => 16) h) (Int.decLt (16) (@Nat.cast Int _ (List.length R)))) (0) (0) (0) [] (0) (0) (0) (0) { W0 := h.w0 ++ [], W1 := h.w1 ++ [], W2 := h.w2 ++ [], W3 := h.w3 ++ [], T := h.tr ++ [], P := s.pg ++ [], D0 := s.rd ++ [], V0 := s.wt ++ [], P1 := s1.pg ++ [], D1 := s1.rd ++ [], V1 := s1.wt ++ [] } ∧ Decidable.rec (fun h => (fun x => @Nat.cast Int _ (List.length R)) h) (fun h => (fun x => 16) h) (Int.decLt (16) (@Nat.cast Int _ (List.length R))) = @Nat.cast Int _ (List.length G) ∧ h.w0 = h.w0 ∧ h.w1 = h.w1 ∧ h.w2 = h.w2 ∧ h.w3 = h.w3 ∧ h.tr = h.tr ∧ G = G ∧ s.rd = s.rd ∧ s.wt = s.wt ∧ s1.pg = s1.pg ∧ s1.rd = s1.rd ∧ s1.wt = s1.wt ∧ stRB h { id := s.id, lb := s.lb, cl := s.cl, pg := G, st := s.st, pc := s.pc, r0 := s.r0, r1 := s.r1, r2 := s.r2, r3 := s.r3, rd := s.rd, wt := s.wt, at' := s.at', sp := s.sp, tr := s.tr, rs := s.rs, to := s.to } s1 (Decidable.rec (fun h => (fun x => @Nat.cast Int _ (List.length R)) h) (fun h => (fun x => 16) h) (Int.decLt (16) (@Nat.cast Int _ (List.length R)))) (0) a b c d { W0 := h.w0, W1 := h.w1, W2 := h.w2, W3 := h.w3, T := h.tr, P := G, D0 := s.rd, V0 := s.wt, P1 := s1.pg, D1 := s1.rd, V1 := s1.wt } = stRB h { id := s.id, lb := s.lb, cl := s.cl, pg := G, st := s.st, pc := s.pc, r0 := s.r0, r1 := s.r1, r2 := s.r2, r3 := s.r3, rd := s.rd, wt := s.wt, at' := s.at', sp := s.sp, tr := s.tr, rs := s.rs, to := s.to } s1 (Decidable.rec (fun h => (fun x => @Nat.cast Int _ (List.length R)) h) (fun h => (fun x => 16) h) (Int.decLt (16) (@Nat.cast Int _ (List.length R)))) (0) a b c d { W0 := h.w0, W1 := h.w1, W2 := h.w2, W3 := h.w3, T := h.tr, P := G, D0 := s.rd, V0 := s.wt, P1 := s1.pg, D1 := s1.rd, V1 := s1.wt } ∧ bif eqI [s'.r0, s'.r1, s'.r2, s'.r3] [a, b, c, d] then bif s'.pc == Decidable.rec (fun h => (fun x => @Nat.cast Int _ (List.length R)) h) (fun h => (fun x => 16) h) (Int.decLt (16) (@Nat.cast Int _ (List.length R))) then bif @Nat.cast Int _ (List.length h.tr) == 0 then [I (0), I (0)] = [I (0), I (0)] ∧ K (B (@Nat.cast Int _ (2) == 2)) else K (B false) else K (B false) else K (B false)) := by kernel_rfl
def insx (x : Int) : List Int := bif band (Int.fdiv x 4096) 1 == 1 then [1, band x 3, band (Int.fdiv x 4) 3, 0] else [0, band x 3, band (Int.fdiv x 16) 255, 0]
def gI (R : List (List D)) : Nat → List (List Int)
  | 0 => []
  | k + 1 => gI R k ++ [insx (rI R k)]
def upR (n : N5) (r : List Int) : N5 := bif r.getD 0 0 == 1 then addR n.a n.b n.c n.d (r.getD 1 0) (r.getD 2 0) else setR n.a n.b n.c n.d (r.getD 1 0) (r.getD 2 0)
def rg (R : List (List D)) : Nat → N5
  | 0 => ⟨0, 0, 0, 0, 0⟩
  | k + 1 => upR (rg R k) (insx (rI R k))
theorem Zpb (x : Int) : lab (band x 3) = true := by
  rw [ZqT]
  unfold lab upto
  simp only [Bool.and_eq_true, decide_eq_true_eq]
  omega
theorem Zq6 (x : Int) : val8 (band x 255) = true := by rw [Zq3]; exact ZlP (by omega)
theorem Zch (x : Int) : (∃ a b, insx x = [1, a, b, 0] ∧ lab a = true ∧ lab b = true) ∨ ∃ a v, insx x = [0, a, v, 0] ∧ lab a = true ∧ val8 v = true := by
  unfold insx
  cases band (Int.fdiv x 4096) 1 == 1
  · exact .inr ⟨_, _, rfl, Zpb _, Zq6 _⟩
  · exact .inl ⟨_, _, rfl, Zpb _, Zpb _⟩
theorem Zby (R : List (List D)) : ∀ k, (gI R k).length = k
  | 0 => rfl
  | k + 1 => by rw [gI, List.length_append, Zby R k]; rfl
theorem Zm6 (R : List (List D)) : ∀ {n k : Nat}, k < n → (gI R n).getD k [] = insx (rI R k)
  | 0, _, h => by omega
  | n + 1, k, h => by
    rw [gI]
    by_cases hk : k < n
    · rw [List.getD_eq_getElem?_getD, List.getElem?_append_left (by rw [Zby]; exact hk), ← List.getD_eq_getElem?_getD]
      exact Zm6 R hk
    · have : k = n := by omega
      subst this
      rw [List.getD_eq_getElem?_getD, List.getElem?_append_right (by rw [Zby]; exact Nat.le_refl _), Zby, Nat.sub_self]; rfl
theorem ZrM (R : List (List D)) (k : Nat) : wid 4 (gI R k) := by
  induction k with
  | zero => intro r hr; cases hr
  | succ k ih =>
    intro r hr
    rw [gI] at hr
    rcases List.mem_append.1 hr with h | h
    · exact ih r h
    · rw [List.mem_singleton] at h
      subst h
      rcases Zch (rI R k) with ⟨a, b, e, _⟩ | ⟨a, b, e, _⟩ <;> rw [e] <;> rfl
theorem ZoN {a b c d i v : Int} (h : v4 a b c d = true) (hv : val8 v = true) : v4 (ZcH a b c d i v).a (ZcH a b c d i v).b (ZcH a b c d i v).c (ZcH a b c d i v).d = true := by
  obtain ⟨ha, hb, hc, hd⟩ := Zqd h
  unfold ZcH
  split
  · simp [v4, *]
  · split
    · simp [v4, *]
    · split <;> simp [v4, *]
theorem Zs4 {n : N5} {x : Int} (h : v4 n.a n.b n.c n.d = true) : v4 (upR n (insx x)).a (upR n (insx x)).b (upR n (insx x)).c (upR n (insx x)).d = true := by
  rcases Zch x with ⟨a, b, e, la, lb⟩ | ⟨a, v, e, la, hv⟩
  · rw [e]
    have e2 : upR n [1, a, b, 0] = ZcH n.a n.b n.c n.d a ((ZhV n.a n.b n.c n.d a + ZhV n.a n.b n.c n.d b) % 256) := by
      show addR n.a n.b n.c n.d a b = _
      unfold addR
      rw [h, la, lb]; rfl
    rw [e2]
    exact ZoN h (mod8 _ _)
  · rw [e]
    have e2 : upR n [0, a, v, 0] = ZcH n.a n.b n.c n.d a v := by
      show setR n.a n.b n.c n.d a v = _
      unfold setR
      rw [h, la, hv]; rfl
    rw [e2]
    exact ZoN h hv
theorem ZpN (R : List (List D)) : ∀ k, v4 (rg R k).a (rg R k).b (rg R k).c (rg R k).d = true
  | 0 => rfl
  | k + 1 => Zs4 (ZpN R k)
theorem addm {p q : Int} (hp : val8 p = true) (hq : val8 q = true) : band (IntKind.wrap .i64 (p + q)) 255 = (p + q) % 256 := by
  have h1 := Zfr hp
  have h2 := Zfr hq
  rw [ZjL (by omega) (by omega), Zq3]
theorem Zr6 (x : Int) : band x 3 = 0 ∨ band x 3 = 1 ∨ band x 3 = 2 ∨ band x 3 = 3 := by
  rw [ZqT]; omega
def sBk (R : List (List D)) (n k : Nat) : SesD := { bA0 with pg := mZ (gI R n), pc := k, r0 := (rg R k).a, r1 := (rg R k).b, r2 := (rg R k).c, r3 := (rg R k).d }
theorem ZoP (R : List (List D)) {n k : Nat} (hk : k < n) : List.getD (sBk R n k).pg (Int.toNat (sBk R n k).pc) [] = (insx (rI R k)).map vI := by
  show List.getD (mZ (gI R n)) (Int.toNat (k : Int)) [] = _
  rw [Int.toNat_natCast, ZjG, Zm6 R hk]
theorem ZpZ (R : List (List D)) {n k : Nat} (hk : k < n) : ZfZ (sBk R n k) = sBk R n (k + 1) := by
  have hi := ZoP R hk
  unfold ZfZ iC iA iB
  rw [hi]
  have er : rg R (k + 1) = upR (rg R k) (insx (rI R k)) := rfl
  rcases Zch (rI R k) with ⟨a, b, e, la, lb⟩ | ⟨a, v, e, la, hv⟩
  · rw [e] at er ⊢
    have e2 : upR (rg R k) [1, a, b, 0] = addR (rg R k).a (rg R k).b (rg R k).c (rg R k).d a b := rfl
    rw [e2] at er
    show (sBk R n k).regs (addR (rg R k).a (rg R k).b (rg R k).c (rg R k).d a b) ((k : Int) + 1) = _
    rw [← er]
    rfl
  · rw [e] at er ⊢
    have e2 : upR (rg R k) [0, a, v, 0] = setR (rg R k).a (rg R k).b (rg R k).c (rg R k).d a v := rfl
    rw [e2] at er
    show (sBk R n k).regs (setR (rg R k).a (rg R k).b (rg R k).c (rg R k).d a v) ((k : Int) + 1) = _
    rw [← er]
    rfl
theorem Znr {h : Mh} {s s' : SesD} {l : List SesD} (e : s'.id = s.id) (hm : mmay h (s :: l) = true) (hs : Zaj h.w0 h.w1 h.w2 h.w3 s' = true) : mmay h (s' :: l) = true := by
  have ei : Zcf (s' :: l) = Zcf (s :: l) := by cases l <;> simp [Zcf, e]
  unfold mmay at *
  rw [ei]
  simp only [Bool.and_eq_true, List.all_cons, List.length_cons] at *
  exact ⟨hm.1, hm.2.1, hm.2.2.1, hm.2.2.2.1, hm.2.2.2.2.1, hm.2.2.2.2.2.1, ⟨hs, hm.2.2.2.2.2.2.1.2⟩, hm.2.2.2.2.2.2.2⟩
theorem mm_b : mmay bH0 [bA0, bB] = true := by decide +kernel
theorem ZoJ (R : List (List D)) {n k : Nat} (hk : k < n) (m : Nat) : pI m k ((gI R n).getD k []) = true ∧ ((gI R n).getD k []).getD 0 0 ≠ 2 ∧ ((gI R n).getD k []).getD 0 0 ≠ 3 := by
  rw [Zm6 R hk]
  rcases Zch (rI R k) with ⟨a, b, e, la, lb⟩ | ⟨a, v, e, la, hv⟩ <;> rw [e]
  · refine ⟨?_, by show (1 : Int) ≠ 2; decide, by show (1 : Int) ≠ 3; decide⟩
    show (imay 1 a b 0 && !((1 : Int) == 4 && _)) = true
    unfold imay
    rw [la, lb]; rfl
  · refine ⟨?_, by show (0 : Int) ≠ 2; decide, by show (0 : Int) ≠ 3; decide⟩
    show (imay 0 a v 0 && !((0 : Int) == 4 && _)) = true
    unfold imay
    rw [la, hv]; rfl
theorem ZoM (R : List (List D)) {n k : Nat} (hk : k ≤ n) (hn : n ≤ 16) : Zaj bH0.w0 bH0.w1 bH0.w2 bH0.w3 (sBk R n k) = true := by
  unfold Zaj
  have hp : pmay (toZ (sBk R n k).pg) = true := by
    show pmay (toZ (mZ (gI R n))) = true
    rw [Zc5]
    unfold pmay ZbE
    rw [Zby, decide_eq_true hn, Bool.and_true, List.all_eq_true]
    intro i hi
    exact (ZoJ R (List.mem_range.1 hi) n).1
  have hw : ((toZ (sBk R n k).pg).any (noIn bH0.w0 bH0.w1 bH0.w2 bH0.w3)) = false := by
    show ((toZ (mZ (gI R n))).any _) = false
    rw [Zc5, List.any_eq_false]
    intro r hr
    obtain ⟨i, hi, rfl⟩ := List.mem_iff_getElem.1 hr
    rw [Zby] at hi
    obtain ⟨_, h2, h3⟩ := ZoJ R hi n
    have e : (gI R n).getD i [] = (gI R n)[i]'(by rw [Zby]; exact hi) := by
      rw [List.getD_eq_getElem?_getD, List.getElem?_eq_getElem (by rw [Zby]; exact hi)]; rfl
    rw [e] at h2 h3
    have a : isRW (((gI R n)[i]'(by rw [Zby]; exact hi)).getD 0 0) = false := by
      generalize ((gI R n)[i]'(by rw [Zby]; exact hi)).getD 0 0 = c at h2 h3
      have a1 : (c == 2) = false := by simp [h2]
      have a2 : (c == 3) = false := by simp [h3]
      unfold isRW
      rw [a1, a2]; rfl
    unfold noIn
    rw [a]; simp
  have e1 : smay (sBk R n k).id (sBk R n k).lb (sBk R n k).cl (toZ (sBk R n k).pg) = true := by
    unfold smay
    rw [hp]
    show (idm 3 && (lab 0 && (lab 3 && (und 0 3 && true)))) = true
    decide +kernel
  have e2 : Zij bH0.w0 bH0.w1 bH0.w2 bH0.w3 (sBk R n k) = true := by
    unfold Zij
    rw [hw]; rfl
  have e3 : farB (sBk R n k) = true := by
    have hl : (sBk R n k).pg.length = n := by show (mZ (gI R n)).length = n; rw [Zaf, Zby]
    unfold farB
    rw [hl]
    have : upto (sBk R n k).pc 0 n = true := by
      show upto (k : Int) 0 n = true
      unfold upto
      simp; omega
    rw [this]; rfl
  have e4 : ZiU (sBk R n k) = true := by
    unfold ZiU
    have := ZpN R k
    show (v4 (rg R k).a (rg R k).b (rg R k).c (rg R k).d && _) = true
    rw [this]; rfl
  rw [e1, e2, e3, e4]; rfl
theorem Zsb (R : List (List D)) {n k : Nat} (hn : n ≤ 16) : okM bH0 [sBk R n k, bB] = true := by
  have : Zay (sBk R n k) = true := by
    unfold Zay
    show (okZ 4 (mZ (gI R n)) && _) = true
    rw [Zkp (ZrM R n) (by rw [Zby]; omega)]; rfl
  unfold okM okSS
  rw [List.all_cons, this]; rfl
theorem ZtS (R : List (List D)) {n k : Nat} (hk : k < n) (hn : n ≤ 16) : mAt (has3 0 1 4) bH0 [sBk R n k, bB] 0 = true := by
  unfold mAt Zca
  rw [Znr (s := bA0) (s' := sBk R n k) rfl mm_b (ZoM R (Nat.le_of_lt hk) hn)]
  show atS (has3 0 1 4) (sBk R n k) = true
  have hl : (sBk R n k).pg.length = n := by show (mZ (gI R n)).length = n; rw [Zaf, Zby]
  unfold atS Zka
  rw [ZoP R hk, hl]
  have : decide ((sBk R n k).pc < (n : Int)) = true := by show decide ((k : Int) < n) = true; simp; omega
  rw [this]
  rcases Zch (rI R k) with ⟨a, b, e, la, lb⟩ | ⟨a, v, e, la, hv⟩ <;> rw [e] <;> rfl
theorem Zsm (R : List (List D)) {n k : Nat} (hk : k ≤ n) (hn : n ≤ 16) : smM bH0 [sBk R n k, bB] = true := Zi4 (Zsb R hn) (Znr (s := bA0) (s' := sBk R n k) rfl mm_b (ZoM R hk hn))
theorem Zta (R : List (List D)) {n k : Nat} (hk : k < n) (hn : n ≤ 16) : CT Tryz.prog 33 [.agg (macL 0 bH0 [sBk R n k, bB]), I 0] (.tup [.agg (macL 1 bH0 [sBk R n (k + 1), bB]), I 0]) := by
  have h := Zrl bH0 [sBk R n k, bB] 0 (Zsb R hn)
  rw [ZtS R hk hn] at h
  have e : ([sBk R n k, bB].set (Int.toNat 0) (ZfZ ([sBk R n k, bB].getD (Int.toNat 0) default))) = [sBk R n (k + 1), bB] := by
    show [ZfZ (sBk R n k), bB] = _
    rw [ZpZ R hk]
  rw [e] at h
  exact h
theorem kRA {R : List (List D)} {n : Nat} (hR : okZ 1 R = true) (hn : n ≤ 16) (hl : n ≤ R.length) (s s1 : SesD) (h : Mh) (Q : Exit → X → Prop) (x : X) (hq : fRA h s s1 R (mZ (gI R n)) (rg R n).a (rg R n).b (rg R n).c (rg R n).d Q x) : XWP Tryz.prog (.loop (Zap Tryz.f13 0)) Q x := by
  unfold fRA at hq
  obtain ⟨k, hq⟩ := ZbI hq
  obtain ⟨W0, hq⟩ := Zba hq
  obtain ⟨W1, hq⟩ := Zba hq
  obtain ⟨W2, hq⟩ := Zba hq
  obtain ⟨W3, hq⟩ := Zba hq
  obtain ⟨T, hq⟩ := Zba hq
  obtain ⟨P, hq⟩ := Zba hq
  obtain ⟨D0, hq⟩ := Zba hq
  obtain ⟨V0, hq⟩ := Zba hq
  obtain ⟨P1, hq⟩ := Zba hq
  obtain ⟨D1, hq⟩ := Zba hq
  obtain ⟨V1, hq⟩ := Zba hq
  obtain ⟨rfl, rfl, rfl, rfl, rfl, rfl, rfl, rfl, rfl, rfl, rfl, rfl, hx, hq⟩ := hq
  rw [Zaf, Zby] at hx hq
  have hH : Zao Tryz.prog { hkX band bor [] [] [] with spl := true, foc := true, split := true } := (ZhK .nil .nil .nil : Zao Tryz.prog (hkX band bor [] [] []))
  refine Zck (sw := []) (V := Zgg h s s1 R n (lsOf h s s1)) (VE := fun _ => Zgg h s s1 R n (lsOf h s s1)) mixed (Zh9 h s s1 R n _) (fun _ => Zh9 h s s1 R n _) (fun i => stRA h s s1 R n i i i (mZ (gI R i)) (rg R i).a (rg R i).b (rg R i).c (rg R i).d (lsOf h s s1)) (fun i => stRA h s s1 R n i i i (mZ (gI R i)) (rg R i).a (rg R i).b (rg R i).c (rg R i).d (lsOf h s s1)) n (fun _ => false) .ret (.exit 0) (fun i hi => ⟨_, hH, Zag rfl, fun N E _ q => ?_⟩) ⟨_, hH, Zag rfl, fun N E q => ?_⟩ Q x ⟨hx, fun i hf => by have := hf.2.1; simp at this, fun _ => hq⟩
  · have q := q rfl
    rw [rRA]
    have d0 : decide ((i : Int) < (n : Int)) = true := by simp; omega
    have d1 : rB R i = true := by unfold rB; simp; omega
    have d2 : rJ R i = true := by
      unfold rJ
      rw [Int.toNat_natCast]
      have e := (Zai hR).1
      rw [e]
      exact ZcS (Zai hR).2.1 (by rw [Zav]; omega) (by omega)
    have d3 : rN i (mZ (gI R i)) = true := by
      unfold rN
      rw [Zaf, Zby]
      simp; omega
    have wi : IntKind.wrap IntKind.i64 ((i : Int) + 1) = ((i + 1 : Nat) : Int) := Zas (n := 1) (by omega)
    have tk : List.take i (mZ (gI R i)) = mZ (gI R i) := List.take_of_length_le (by rw [Zaf, Zby]; exact Nat.le_refl _)
    simp only [d0, d1, d2, d3, cond_true, tk]
    have fin : ∀ (r0 r1 r2 r3 a' b' c' d' : Int), insx (rI R i) = [r0, r1, r2, r3] → upR (rg R i) [r0, r1, r2, r3] = ⟨a', b', c', d', 0⟩ → N (stRA h s s1 R n (IntKind.wrap IntKind.i64 ((i : Int) + 1)) (i + 1) (i + 1) (mZ (gI R i) ++ [[vN r0, vN r1, vN r2, vN r3]]) a' b' c' d' (lsOf h s s1)) := by
      intro r0 r1 r2 r3 a' b' c' d' e1 e2
      have q' : N (stRA h s s1 R n ((i + 1 : Nat) : Int) (i + 1) (i + 1) (mZ (gI R i ++ [insx (rI R i)])) (upR (rg R i) (insx (rI R i))).a (upR (rg R i) (insx (rI R i))).b (upR (rg R i) (insx (rI R i))).c (upR (rg R i) (insx (rI R i))).d (lsOf h s s1)) := q
      rw [e1, e2] at q'
      rw [wi]
      have e3 : mZ (gI R i ++ [[r0, r1, r2, r3]]) = mZ (gI R i) ++ [[vN r0, vN r1, vN r2, vN r3]] := by simp [mZ]
      rw [e3] at q'
      exact q'
    have hv := ZpN R i
    obtain ⟨va, vb, vc, vd⟩ := Zqd hv
    have upA : ∀ a b, lab a = true → lab b = true → upR (rg R i) [1, a, b, 0] = ZcH (rg R i).a (rg R i).b (rg R i).c (rg R i).d a ((ZhV (rg R i).a (rg R i).b (rg R i).c (rg R i).d a + ZhV (rg R i).a (rg R i).b (rg R i).c (rg R i).d b) % 256) := fun a b la lb => by
      show addR (rg R i).a (rg R i).b (rg R i).c (rg R i).d a b = _
      unfold addR
      rw [hv, la, lb]; rfl
    have upS : ∀ a v, lab a = true → val8 v = true → upR (rg R i) [0, a, v, 0] = ZcH (rg R i).a (rg R i).b (rg R i).c (rg R i).d a v := fun a v la lv => by
      show setR (rg R i).a (rg R i).b (rg R i).c (rg R i).d a v = _
      unfold setR
      rw [hv, la, lv]; rfl
    have hins : insx (rI R i) = bif band (Int.fdiv (rI R i) 4096) 1 == 1 then [1, band (rI R i) 3, band (Int.fdiv (rI R i) 4) 3, 0] else [0, band (rI R i) 3, band (Int.fdiv (rI R i) 16) 255, 0] := rfl
    have hvm := Zq6 (Int.fdiv (rI R i) 16)
    generalize rI R i = y at *
    generalize band (Int.fdiv y 16) 255 = v at *
    rcases Zr6 y with ha | ha | ha | ha <;> rcases Zr6 (Int.fdiv y 4) with hb | hb | hb | hb <;> cases ho : (band (Int.fdiv y 4096) 1 == 1) <;> simp only [ha, hb, ho, cond_true, cond_false, Int.reduceBEq] at hins ⊢ <;>
      refine ⟨trivial, fin _ _ _ _ _ _ _ _ hins ?_⟩ <;> first
        | (rw [upS _ _ (by decide) hvm]; rfl)
        | (rw [upA _ _ (by decide) (by decide)]; simp [ZcH, ZhV, addm, va, vb, vc, vd])
  · rw [rRA]
    have d0 : decide ((n : Int) < (n : Int)) = false := by simp
    simp only [d0, cond_false, true_and]
    exact q
theorem kRB {R : List (List D)} {n : Nat} (hn : n ≤ 16) (Q : Exit → X → Prop) (x : X) (hq : fRB bH0 (sBk R n 0) (sBk R n n) bB n Q x) : XWP Tryz.prog (.loop (Zap Tryz.f13 1)) Q x := by
  unfold fRB at hq
  obtain ⟨k, hq⟩ := ZbI hq
  obtain ⟨a, b, c, d, hq⟩ := Zo5 hq
  obtain ⟨W0, hq⟩ := Zba hq
  obtain ⟨W1, hq⟩ := Zba hq
  obtain ⟨W2, hq⟩ := Zba hq
  obtain ⟨W3, hq⟩ := Zba hq
  obtain ⟨T, hq⟩ := Zba hq
  obtain ⟨P, hq⟩ := Zba hq
  obtain ⟨D0, hq⟩ := Zba hq
  obtain ⟨V0, hq⟩ := Zba hq
  obtain ⟨P1, hq⟩ := Zba hq
  obtain ⟨D1, hq⟩ := Zba hq
  obtain ⟨V1, hq⟩ := Zba hq
  obtain ⟨rfl, rfl, rfl, rfl, rfl, rfl, rfl, rfl, rfl, rfl, rfl, rfl, hx, hq⟩ := hq
  refine ZlI (sw := [(87000, 17000), (87001, 17001), (87002, 17002), (87003, 17003), (87009, 17009), (87010, 17010), (111137155, 6), (111137162, 102177162), (111137163, 102177163), (111137172, 102177172), (111137179, 102177179), (111137180, 102177180)]) mixed (fun i => stRB bH0 (sBk R n i) bB n i a b c d (lsOf bH0 (sBk R n i) bB)) (fun i => stRB bH0 (sBk R n i) bB n i a b c d (lsOf bH0 (sBk R n i) bB)) n (fun _ => false) .ret (.exit 2) (fun i hi _ => ⟨_, ZdS bH0 (sBk R n (i + 1)) bB n a b c d, fun _ => Zf5 bH0 (sBk R n i) bB n a b c d (lsOf bH0 (sBk R n i) bB), Zif (.cons oNum .nil) .nil (.cons (Zcs (tys := [34]) (oAtL Tryz.func33 (by kernel_rfl) rfl (Zta R hi hn) (Zkc (Zsm R (by omega) hn) 0) rfl)) .nil), Zag rfl, Zf9 _ _ _ _ _ _ _ _, fun _ => ZhZ _ _ _ _ _ _ _ _ _, fun N E _ q => ?_⟩) (fun _ => ⟨hkF [(25, sI)] [] [], ZdS bH0 (sBk R n n) bB n a b c d, fun _ => Zf5 bH0 (sBk R n n) bB n a b c d (lsOf bH0 (sBk R n n) bB), Zif (.cons oNum .nil) .nil .nil, Zag rfl, Zf9 _ _ _ _ _ _ _ _, fun _ => ZhZ _ _ _ _ _ _ _ _ _, fun N E q => ?_⟩) Q x ⟨hx, fun i hf => by have := hf.2.1; simp at this, fun _ => hq⟩
  · have q := q rfl
    rw [rRB]
    have d0 : decide ((i : Int) < (n : Int)) = true := by simp; omega
    have wi : IntKind.wrap IntKind.i64 ((i : Int) + 1) = ((i + 1 : Nat) : Int) := Zas (n := 1) (by omega)
    simp only [d0, cond_true, lsOf, Nat.zero_add, Nat.le_refl, decide_true, Nat.sub_self, Zth, Ztz, List.append_nil, wi]
    exact ⟨.cons (.refl _) (.cons (.refl _) .nil), trivial, q⟩
  · rw [rRBe]
    have d0 : decide ((n : Int) < (n : Int)) = false := by simp
    simp only [d0, cond_false, true_and]
    exact q
theorem cCR (R : List (List D)) (hR : okZ 1 R = true) : CT Tryz.prog 13 [.c (.s 0 1 R [])] (B true) := by
  obtain ⟨n, hn, hl, hnk⟩ : ∃ n : Nat, n ≤ 16 ∧ n ≤ R.length ∧ (if (16 : Int) < (R.length : Int) then 16 else (R.length : Int)) = (n : Int) := by
    by_cases h : (16 : Int) < (R.length : Int)
    · exact ⟨16, by omega, by omega, by rw [if_pos h]; rfl⟩
    · exact ⟨R.length, by omega, by omega, by rw [if_neg h]⟩
  have hG : (mZ (gI R n)).length = n := by rw [Zaf, Zby]
  have e0 : ({ bA0 with pg := mZ (gI R n) } : SesD) = sBk R n 0 := rfl
  have hL : Zms Tryz.prog Tryz.f13 [(8, fRA bH0 bA0 bB R (mZ (gI R n)) (rg R n).a (rg R n).b (rg R n).c (rg R n).d), (18, fRB bH0 { bA0 with pg := mZ (gI R n) } (sBk R n n) bB (mZ (gI R n)).length)] := fun j hj s' hs' Q x hq => by
    have hj2 : j < 2 := hj
    have : j = 0 ∨ j = 1 := by omega
    rcases this with rfl | rfl
    · cases hs'; exact kRA hR hn hl _ _ _ Q x hq
    · cases hs'; rw [hG, e0] at hq; exact kRB hn Q x hq
  have hst : Zad Tryz.prog 37 (sAtD [I 0, I 0] (.agg (macL 0 bH0 [bA0, bB]))) := oAtZ (Zan Tryz.func37 (by kernel_rfl) rfl) Zol rfl (Zqi (Zrf _ _) rfl) rfl
  refine Ztb (.cons ZsR (.cons oNum (.cons hst .nil))) .nil (.cons (Zcs (tys := []) (oAtD (Zan Tryz.func36 (by kernel_rfl) rfl) ZoT rfl rfl)) .nil) mixed hL Tryz.func13 rfl rfl rfl ?_
  rw [eCR]
  have hnk : (Decidable.rec (fun h => (fun x => @Nat.cast Int _ (List.length R)) h) (fun h => (fun x => 16) h) (Int.decLt 16 (@Nat.cast Int _ (List.length R))) : Int) = (n : Int) := hnk
  refine ⟨?_⟩
  rw [hnk, hG]
  have c1 : eqI [(sBk R n n).r0, (sBk R n n).r1, (sBk R n n).r2, (sBk R n n).r3] [(rg R n).a, (rg R n).b, (rg R n).c, (rg R n).d] = true := by simp [eqI, sBk]
  have c2 : ((sBk R n n).pc == (n : Int)) = true := by simp [sBk]
  rw [c1, c2]
  refine ⟨rfl, rfl, rfl, by simp, by simp, by simp, by simp, by simp, by simp, by simp, by simp, by simp, by simp, by simp, ?_, rfl, rfl, rfl, rfl, rfl, rfl, rfl, rfl, rfl, rfl, rfl, rfl, rfl, rfl, AL.refl _⟩
  rfl
theorem cCRg (rows : List (List Int)) (hw : ∀ r ∈ rows, r.length = 1 ∧ ∀ n ∈ r, (Lit.int .i64 n).wf = true) (hl : rows.length * 8 ≤ 140737488351232) : CT Tryz.prog 13 [.c (.s 0 1 (rows.map fun r => r.map vi) [])] (B true) :=
  cCR (mZ rows) (Zkp (fun r hr => (hw r hr).1) (by omega))
end

end Vm
