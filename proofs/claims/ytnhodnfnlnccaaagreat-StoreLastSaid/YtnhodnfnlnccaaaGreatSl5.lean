/- An interpreter for Go's texts over plain data, its proof, and what it says of the functions that the law reaches. My own work. -/
import Derived.Test.YtnhodnfnlnccaaaGreatSl4
set_option linter.unusedSimpArgs false
set_option linter.unusedVariables false
set_option maxRecDepth 100000
set_option maxHeartbeats 2000000
namespace Vm
section
open Go Go.Proofs
def sLS : Spec := fun ds Q => match ds with
  | [.agg [p], e] => Zla p fun R0 R1 R2 R3 => sesA e fun s => cond (Zaz s) (Q (B (Zai R0 R1 R2 R3 s))) False
  | _ => False
theorem oLS : Zad Tryz.prog 66 sLS := o_al Tryz.func66 (by kernel_rfl) rfl fun ds Q h => by
  unfold sLS at h; split at h
  · obtain ⟨R0, R1, R2, R3, h, r1, e1⟩ := Zfk h
    obtain ⟨s, h, r2⟩ := Zcw h
    obtain ⟨h1, h2⟩ := Zae h
    exact ⟨_, _, .cons (.agg (.cons r1 .nil) (by simp [e1]) rfl) (.cons r2 .nil), cLS R0 R1 R2 R3 s h1, rfl, rfl, h2⟩
  · exact h.elim
theorem eA1S (R0 R1 R2 R3 : List (List D)) (s : SesD) (K : DV → Prop) : (ask Tryz.prog [(66, sLS)] Tryz.f104 [.agg (sesL 0 s), .c (.p 0 [.f 66 [.f AG [] [.p 0 (wsL R0 R1 R2 R3) 0]] []] 0)] K) = (bif Zaz s then K (DV.c (D.v (Value.bool !Zai R0 R1 R2 R3 s))) else False) := by kernel_rfl
def sA1S : Spec := fun ds Q => match ds with
  | [e, .c (.p _ [c] 0)] => sesA e fun s => Zfj 66 c fun R0 R1 R2 R3 => cond (Zaz s) (Q (B (!Zai R0 R1 R2 R3 s))) False
  | _ => False
theorem oA1S : Zad Tryz.prog 104 sA1S := o_al Tryz.func104 (by kernel_rfl) rfl fun ds Q h => by
  unfold sA1S at h; split at h
  · obtain ⟨s, h, r2⟩ := Zcw h
    obtain ⟨R0, R1, R2, R3, h, r1, e1⟩ := Zb4 (by decide) h
    obtain ⟨h1, h2⟩ := Zae h
    exact ⟨_, _, .cons r2 (.cons (.c (RD.cells (t' := 0) (.cons r1 .nil)) rfl rfl) .nil), Zaj (.cons oLS .nil) mixed Tryz.func104 rfl rfl rfl (by rw [eA1S, h1]; rfl), rfl, rfl, h2⟩
  · exact h.elim
def iIxS : Inl := inlB Tryz.prog band bor [(104, sA1S)] [] [] Tryz.f152
def iCoS : Inl := inlB Tryz.prog band bor [] [] [(152, iIxS)] Tryz.f103
theorem Zqj : Zbf Tryz.prog 152 iIxS := ZmX (.cons oA1S .nil) .nil .nil mixed Tryz.func152 rfl (Zar Tryz.func152 (by kernel_rfl) rfl)
theorem Zf2 : Zbf Tryz.prog 103 iCoS := ZmX .nil .nil (.cons Zqj .nil) mixed Tryz.func103 rfl (Zar Tryz.func103 (by kernel_rfl) rfl)
theorem bifN (p q : Bool) (x : DV) : (bif !p then (DV.c (.v (.bool false)) = x) else (DV.c (.v (.bool q)) = x)) = (DV.c (.v (.bool (p && q))) = x) := by cases p <;> rfl
theorem ZsI (R0 R1 R2 R3 : List (List D)) (K : DV → Prop) : (askX Tryz.prog band bor [] [] [(103, iCoS)] Tryz.f65 [.c (.s 0 17 ([].map (sesL 0)) []), .c (.f 66 [.f AG [] [.p 0 (wsL R0 R1 R2 R3) 0]] [])] K) = (K (DV.c (D.v (Value.bool true)))) := by kernel_rfl
theorem Zsd (R0 R1 R2 R3 : List (List D)) (s0 : SesD) (K : DV → Prop) : (askX Tryz.prog band bor [] [] [(103, iCoS)] Tryz.f65 [.c (.s 0 17 ([s0].map (sesL 0)) []), .c (.f 66 [.f AG [] [.p 0 (wsL R0 R1 R2 R3) 0]] [])] K) = (bif Zaz s0 then bif !Zai R0 R1 R2 R3 s0 then K (DV.c (D.v (Value.bool false))) else K (DV.c (D.v (Value.bool true))) else False) := by kernel_rfl
theorem ZrS (R0 R1 R2 R3 : List (List D)) (s0 s1 : SesD) (K : DV → Prop) : (askX Tryz.prog band bor [] [] [(103, iCoS)] Tryz.f65 [.c (.s 0 17 ([s0, s1].map (sesL 0)) []), .c (.f 66 [.f AG [] [.p 0 (wsL R0 R1 R2 R3) 0]] [])] K) = (bif Zaz s0 then bif !Zai R0 R1 R2 R3 s0 then K (DV.c (D.v (Value.bool false))) else bif Zaz s1 then bif !Zai R0 R1 R2 R3 s1 then K (DV.c (D.v (Value.bool false))) else K (DV.c (D.v (Value.bool true))) else False else False) := by kernel_rfl
theorem Zsa (R0 R1 R2 R3 : List (List D)) (s0 s1 s2 : SesD) (K : DV → Prop) : (askX Tryz.prog band bor [] [] [(103, iCoS)] Tryz.f65 [.c (.s 0 17 ([s0, s1, s2].map (sesL 0)) []), .c (.f 66 [.f AG [] [.p 0 (wsL R0 R1 R2 R3) 0]] [])] K) = (bif Zaz s0 then bif !Zai R0 R1 R2 R3 s0 then K (DV.c (D.v (Value.bool false))) else bif Zaz s1 then bif !Zai R0 R1 R2 R3 s1 then K (DV.c (D.v (Value.bool false))) else bif Zaz s2 then bif !Zai R0 R1 R2 R3 s2 then K (DV.c (D.v (Value.bool false))) else K (DV.c (D.v (Value.bool true))) else False else False else False) := by kernel_rfl
theorem ZrU (R0 R1 R2 R3 : List (List D)) (s0 s1 s2 s3 : SesD) (K : DV → Prop) : (askX Tryz.prog band bor [] [] [(103, iCoS)] Tryz.f65 [.c (.s 0 17 ([s0, s1, s2, s3].map (sesL 0)) []), .c (.f 66 [.f AG [] [.p 0 (wsL R0 R1 R2 R3) 0]] [])] K) = (bif Zaz s0 then bif !Zai R0 R1 R2 R3 s0 then K (DV.c (D.v (Value.bool false))) else bif Zaz s1 then bif !Zai R0 R1 R2 R3 s1 then K (DV.c (D.v (Value.bool false))) else bif Zaz s2 then bif !Zai R0 R1 R2 R3 s2 then K (DV.c (D.v (Value.bool false))) else bif Zaz s3 then bif !Zai R0 R1 R2 R3 s3 then K (DV.c (D.v (Value.bool false))) else K (DV.c (D.v (Value.bool true))) else False else False else False else False) := by kernel_rfl
def okSS (ss : List SesD) : Bool := ss.all Zaz
theorem Zu1 (R0 R1 R2 R3 : List (List D)) : ∀ (ss : List SesD), ss.length ≤ 4 → okSS ss = true → CT Tryz.prog 65 [.c (.s 0 17 (ss.map (sesL 0)) []), .c (.f 66 [.f AG [] [.p 0 (wsL R0 R1 R2 R3) 0]] [])] (B (ss.all (Zai R0 R1 R2 R3))) := by
  intro ss hl hok
  unfold okSS at hok
  rcases ss with _ | ⟨s0, _ | ⟨s1, _ | ⟨s2, _ | ⟨s3, _ | ⟨s4, l⟩⟩⟩⟩⟩
  · refine ct_x .nil .nil (.cons Zf2 .nil) mixed Tryz.func65 rfl rfl rfl ?_
    rw [ZsI]
    refine ⟨?_⟩
    simp only [List.all_cons, List.all_nil, Bool.and_eq_true, Bool.and_true] at hok
    simp only [hok, cond_true, List.all_cons, List.all_nil, bifN, Bool.and_true, Bool.and_assoc]
  · refine ct_x .nil .nil (.cons Zf2 .nil) mixed Tryz.func65 rfl rfl rfl ?_
    rw [Zsd]
    refine ⟨?_⟩
    simp only [List.all_cons, List.all_nil, Bool.and_eq_true, Bool.and_true] at hok
    simp only [hok, cond_true, List.all_cons, List.all_nil, bifN, Bool.and_true, Bool.and_assoc]
  · refine ct_x .nil .nil (.cons Zf2 .nil) mixed Tryz.func65 rfl rfl rfl ?_
    rw [ZrS]
    refine ⟨?_⟩
    simp only [List.all_cons, List.all_nil, Bool.and_eq_true, Bool.and_true] at hok
    simp only [hok, cond_true, List.all_cons, List.all_nil, bifN, Bool.and_true, Bool.and_assoc]
  · refine ct_x .nil .nil (.cons Zf2 .nil) mixed Tryz.func65 rfl rfl rfl ?_
    rw [Zsa]
    refine ⟨?_⟩
    simp only [List.all_cons, List.all_nil, Bool.and_eq_true, Bool.and_true] at hok
    simp only [hok, cond_true, List.all_cons, List.all_nil, bifN, Bool.and_true, Bool.and_assoc]
  · refine ct_x .nil .nil (.cons Zf2 .nil) mixed Tryz.func65 rfl rfl rfl ?_
    rw [ZrU]
    refine ⟨?_⟩
    simp only [List.all_cons, List.all_nil, Bool.and_eq_true, Bool.and_true] at hok
    simp only [hok, cond_true, List.all_cons, List.all_nil, bifN, Bool.and_true, Bool.and_assoc]
  · simp at hl
def Zko : Spec := fun ds Q => match ds with
  | [.c d, .c e] => cond d.isOwn False (Zk6 d fun ss => Zfj 66 e fun R0 R1 R2 R3 => cond (Nat.ble ss.length 4 && okSS ss) (Q (B (ss.all (Zai R0 R1 R2 R3)))) False)
  | _ => False
theorem Zm9 : Zad Tryz.prog 65 Zko := o_al Tryz.func65 (by kernel_rfl) rfl fun ds Q h => by
  unfold Zko at h; split at h
  · rename_i d e
    cases hd : d.isOwn with
    | true => rw [hd] at h; exact h.elim
    | false =>
      rw [hd] at h
      obtain ⟨ss, h, r1⟩ := ZdE h
      obtain ⟨R0, R1, R2, R3, h, r2, e2⟩ := Zb4 (by decide) h
      obtain ⟨h1, h2⟩ := Zae h
      rw [Bool.and_eq_true] at h1
      exact ⟨_, _, .cons (.c r1 hd rfl) (.cons (.c r2 e2 rfl) .nil), Zu1 R0 R1 R2 R3 ss (Nat.le_of_ble_eq_true h1.1) h1.2, rfl, rfl, h2⟩
  · exact h.elim
def Zcs : List SesD → Bool
  | a :: b :: l => !decide (a.id ≥ b.id) && Zcs (b :: l)
  | _ => true
def clkB (h : Mh) : Bool := ck4 h.c0 h.c1 h.c2 h.c3 && clk h.ce
def mmay (h : Mh) (ss : List SesD) : Bool := amay (toZ h.w0) (toZ h.w1) (toZ h.w2) (toZ h.w3) && (clkB h && (!decide (mx4 h.c0 h.c1 h.c2 h.c3 > h.ce) && (!decide ((ss.length : Int) > 4) && (!decide ((h.tr.length : Int) > 512) && (Zcs ss && (ss.all (Zai h.w0 h.w1 h.w2 h.w3) && !(toZ h.tr).any noEv))))))
def okM (h : Mh) (ss : List SesD) : Bool := okA h.w0 h.w1 h.w2 h.w3 && (okZ 4 h.tr && okSS ss)
theorem eMM0 (h : Mh) (K : DV → Prop) : (ask Tryz.prog [(60, Zcp), (61, sCkM), (62, sMx), (65, Zko), (67, Zfy)] Tryz.f26 [.agg (macL 0 h [])] K) = (bif okA h.w0 h.w1 h.w2 h.w3 then bif !amay (toZ h.w0) (toZ h.w1) (toZ h.w2) (toZ h.w3) then K (DV.c (D.v (Value.bool false))) else bif !(ck4 h.c0 h.c1 h.c2 h.c3 && clk h.ce) then K (DV.c (D.v (Value.bool false))) else bif decide (mx4 h.c0 h.c1 h.c2 h.c3 > h.ce) then K (DV.c (D.v (Value.bool false))) else bif decide (@Nat.cast Int _ (List.length h.tr) > 512) then K (DV.c (D.v (Value.bool false))) else bif okZ (4) h.tr then K (DV.c (D.v (Value.bool !List.any (toZ h.tr) noEv))) else False else False) := by kernel_rfl
theorem eMM1 (h : Mh) (s0 : SesD) (K : DV → Prop) : (ask Tryz.prog [(60, Zcp), (61, sCkM), (62, sMx), (65, Zko), (67, Zfy)] Tryz.f26 [.agg (macL 0 h [s0])] K) = (bif okA h.w0 h.w1 h.w2 h.w3 then bif !amay (toZ h.w0) (toZ h.w1) (toZ h.w2) (toZ h.w3) then K (DV.c (D.v (Value.bool false))) else bif !(ck4 h.c0 h.c1 h.c2 h.c3 && clk h.ce) then K (DV.c (D.v (Value.bool false))) else bif decide (mx4 h.c0 h.c1 h.c2 h.c3 > h.ce) then K (DV.c (D.v (Value.bool false))) else bif decide (@Nat.cast Int _ (List.length h.tr) > 512) then K (DV.c (D.v (Value.bool false))) else bif Nat.ble (1) (OfNat.ofNat (4)) && okSS [s0] then bif List.all [s0] (Zai h.w0 h.w1 h.w2 h.w3) then bif okZ (4) h.tr then K (DV.c (D.v (Value.bool !List.any (toZ h.tr) noEv))) else False else K (DV.c (D.v (Value.bool false))) else False else False) := by kernel_rfl
theorem eMM2 (h : Mh) (s0 s1 : SesD) (K : DV → Prop) : (ask Tryz.prog [(60, Zcp), (61, sCkM), (62, sMx), (65, Zko), (67, Zfy)] Tryz.f26 [.agg (macL 0 h [s0, s1])] K) = (bif okA h.w0 h.w1 h.w2 h.w3 then bif !amay (toZ h.w0) (toZ h.w1) (toZ h.w2) (toZ h.w3) then K (DV.c (D.v (Value.bool false))) else bif !(ck4 h.c0 h.c1 h.c2 h.c3 && clk h.ce) then K (DV.c (D.v (Value.bool false))) else bif decide (mx4 h.c0 h.c1 h.c2 h.c3 > h.ce) then K (DV.c (D.v (Value.bool false))) else bif decide (@Nat.cast Int _ (List.length h.tr) > 512) then K (DV.c (D.v (Value.bool false))) else bif decide (s0.id ≥ s1.id) then K (DV.c (D.v (Value.bool false))) else bif Nat.ble (2) (OfNat.ofNat (4)) && okSS [s0, s1] then bif List.all [s0, s1] (Zai h.w0 h.w1 h.w2 h.w3) then bif okZ (4) h.tr then K (DV.c (D.v (Value.bool !List.any (toZ h.tr) noEv))) else False else K (DV.c (D.v (Value.bool false))) else False else False) := by kernel_rfl
theorem eMM3 (h : Mh) (s0 s1 s2 : SesD) (K : DV → Prop) : (ask Tryz.prog [(60, Zcp), (61, sCkM), (62, sMx), (65, Zko), (67, Zfy)] Tryz.f26 [.agg (macL 0 h [s0, s1, s2])] K) = (bif okA h.w0 h.w1 h.w2 h.w3 then bif !amay (toZ h.w0) (toZ h.w1) (toZ h.w2) (toZ h.w3) then K (DV.c (D.v (Value.bool false))) else bif !(ck4 h.c0 h.c1 h.c2 h.c3 && clk h.ce) then K (DV.c (D.v (Value.bool false))) else bif decide (mx4 h.c0 h.c1 h.c2 h.c3 > h.ce) then K (DV.c (D.v (Value.bool false))) else bif decide (@Nat.cast Int _ (List.length h.tr) > 512) then K (DV.c (D.v (Value.bool false))) else bif decide (s0.id ≥ s1.id) then K (DV.c (D.v (Value.bool false))) else bif decide (s1.id ≥ s2.id) then K (DV.c (D.v (Value.bool false))) else bif Nat.ble (3) (OfNat.ofNat (4)) && okSS [s0, s1, s2] then bif List.all [s0, s1, s2] (Zai h.w0 h.w1 h.w2 h.w3) then bif okZ (4) h.tr then K (DV.c (D.v (Value.bool !List.any (toZ h.tr) noEv))) else False else K (DV.c (D.v (Value.bool false))) else False else False) := by kernel_rfl
theorem eMM4 (h : Mh) (s0 s1 s2 s3 : SesD) (K : DV → Prop) : (ask Tryz.prog [(60, Zcp), (61, sCkM), (62, sMx), (65, Zko), (67, Zfy)] Tryz.f26 [.agg (macL 0 h [s0, s1, s2, s3])] K) = (bif okA h.w0 h.w1 h.w2 h.w3 then bif !amay (toZ h.w0) (toZ h.w1) (toZ h.w2) (toZ h.w3) then K (DV.c (D.v (Value.bool false))) else bif !(ck4 h.c0 h.c1 h.c2 h.c3 && clk h.ce) then K (DV.c (D.v (Value.bool false))) else bif decide (mx4 h.c0 h.c1 h.c2 h.c3 > h.ce) then K (DV.c (D.v (Value.bool false))) else bif decide (@Nat.cast Int _ (List.length h.tr) > 512) then K (DV.c (D.v (Value.bool false))) else bif decide (s0.id ≥ s1.id) then K (DV.c (D.v (Value.bool false))) else bif decide (s1.id ≥ s2.id) then K (DV.c (D.v (Value.bool false))) else bif decide (s2.id ≥ s3.id) then K (DV.c (D.v (Value.bool false))) else bif Nat.ble (4) (OfNat.ofNat (4)) && okSS [s0, s1, s2, s3] then bif List.all [s0, s1, s2, s3] (Zai h.w0 h.w1 h.w2 h.w3) then bif okZ (4) h.tr then K (DV.c (D.v (Value.bool !List.any (toZ h.tr) noEv))) else False else K (DV.c (D.v (Value.bool false))) else False else False) := by kernel_rfl
theorem eMMB (h : Mh) (R sp : List (List D)) (K : DV → Prop) : (askL Tryz.prog [(60, Zcp), (61, sCkM), (62, sMx)] [(4, fun _ _ => False)] Tryz.f26 [.agg [.s 0 3 h.w0 [], .s 0 3 h.w1 [], .s 0 3 h.w2 [], .s 0 3 h.w3 [], vN h.c0, vN h.c1, vN h.c2, vN h.c3, vN h.ce, .s 0 17 R sp, .s 0 4 h.tr []]] K) = (bif okA h.w0 h.w1 h.w2 h.w3 then bif !amay (toZ h.w0) (toZ h.w1) (toZ h.w2) (toZ h.w3) then K (DV.c (D.v (Value.bool false))) else bif !(ck4 h.c0 h.c1 h.c2 h.c3 && clk h.ce) then K (DV.c (D.v (Value.bool false))) else bif decide (mx4 h.c0 h.c1 h.c2 h.c3 > h.ce) then K (DV.c (D.v (Value.bool false))) else bif decide (@Nat.cast Int _ (List.length R) > 4) then K (DV.c (D.v (Value.bool false))) else bif decide (@Nat.cast Int _ (List.length h.tr) > 512) then K (DV.c (D.v (Value.bool false))) else False else False) := by kernel_rfl
theorem bifP (p q : Bool) (x : DV) : (bif p then (DV.c (.v (.bool false)) = x) else (DV.c (.v (.bool q)) = x)) = (DV.c (.v (.bool (!p && q))) = x) := by cases p <;> rfl
theorem Zlw {P : Program} {l : List (FuncId × Spec)} {k : Nat} {c : Code} : Zas P (hkl l [(k, fun _ _ => False)]) c := fun b hb s hs Q x hq => by
  have hs' : ZcX [(k, fun _ _ => False)] (Zbw b) = some s := hs
  unfold ZcX at hs'
  split at hs'
  · cases hs'; exact hq.elim
  · cases hs'
theorem Ze6 {h : Mh} {ss : List SesD} (hm : okM h ss = true) : okA h.w0 h.w1 h.w2 h.w3 = true ∧ okZ 4 h.tr = true ∧ okSS ss = true := by
  unfold okM at hm; simpa [Bool.and_eq_true] using hm
theorem Zub (h : Mh) (ss : List SesD) (hok : okM h ss = true) : CT Tryz.prog 26 [.agg (macL 0 h ss)] (B (mmay h ss)) := by
  obtain ⟨h1, h2, h3⟩ := Ze6 hok
  rcases ss with _ | ⟨s0, _ | ⟨s1, _ | ⟨s2, _ | ⟨s3, _ | ⟨s4, l⟩⟩⟩⟩⟩
  · refine ct_s (.cons Zl9 (.cons oCkM (.cons oMx (.cons Zm9 (.cons ZiQ .nil))))) mixed Tryz.func26 rfl rfl rfl ?_
    rw [eMM0]
    refine ⟨?_⟩
    simp only [h1, h2, h3, cond_true, bifN, bifP, bifK, Bool.and_true, (by decide : Nat.ble 0 4 = true), Bool.true_and]
    unfold mmay clkB
    simp [Zcs, Bool.and_assoc]
  · refine ct_s (.cons Zl9 (.cons oCkM (.cons oMx (.cons Zm9 (.cons ZiQ .nil))))) mixed Tryz.func26 rfl rfl rfl ?_
    rw [eMM1]
    refine ⟨?_⟩
    simp only [h1, h2, h3, cond_true, bifN, bifP, bifK, Bool.and_true, (by decide : Nat.ble 1 4 = true), Bool.true_and]
    unfold mmay clkB
    simp [Zcs, Bool.and_assoc]
  · refine ct_s (.cons Zl9 (.cons oCkM (.cons oMx (.cons Zm9 (.cons ZiQ .nil))))) mixed Tryz.func26 rfl rfl rfl ?_
    rw [eMM2]
    refine ⟨?_⟩
    simp only [h1, h2, h3, cond_true, bifN, bifP, bifK, Bool.and_true, (by decide : Nat.ble 2 4 = true), Bool.true_and]
    unfold mmay clkB
    simp [Zcs, Bool.and_assoc]
  · refine ct_s (.cons Zl9 (.cons oCkM (.cons oMx (.cons Zm9 (.cons ZiQ .nil))))) mixed Tryz.func26 rfl rfl rfl ?_
    rw [eMM3]
    refine ⟨?_⟩
    simp only [h1, h2, h3, cond_true, bifN, bifP, bifK, Bool.and_true, (by decide : Nat.ble 3 4 = true), Bool.true_and]
    unfold mmay clkB
    simp [Zcs, Bool.and_assoc]
  · refine ct_s (.cons Zl9 (.cons oCkM (.cons oMx (.cons Zm9 (.cons ZiQ .nil))))) mixed Tryz.func26 rfl rfl rfl ?_
    rw [eMM4]
    refine ⟨?_⟩
    simp only [h1, h2, h3, cond_true, bifN, bifP, bifK, Bool.and_true, (by decide : Nat.ble 4 4 = true), Bool.true_and]
    unfold mmay clkB
    simp [Zcs, Bool.and_assoc]
  · refine Zjf (l := [(60, Zcp), (61, sCkM), (62, sMx)]) (m := [(4, fun _ _ => False)]) (.cons Zl9 (.cons oCkM (.cons oMx .nil))) mixed Zlw Tryz.func26 rfl rfl rfl ?_
    unfold macL
    rw [eMMB]
    refine ⟨?_⟩
    have h5 : decide (((List.map (sesL 0) (s0 :: s1 :: s2 :: s3 :: s4 :: l)).length : Int) > 4) = true := by simp; omega
    have h6 : decide (((s0 :: s1 :: s2 :: s3 :: s4 :: l).length : Int) > 4) = true := by simp; omega
    unfold mmay clkB
    simp only [h1, h5, h6, cond_true, bifN, bifP, Bool.not_true, Bool.false_and, Bool.not_not]
theorem eThe (h : Mh) (ss : List SesD) (at' : Int) (K : DV → Prop) : (ask Tryz.prog [(26, sAtD [.agg (macL 0 h ss)] (B (mmay h ss)))] Tryz.f52 [.c (.p 0 (macL 0 h ss) 0), I at'] K) = ([DV.agg (macL (0) h ss)] = [DV.agg (macL (0) h ss)] ∧ bif mmay h ss then bif decide (at' ≥ 0) then K (DV.c (D.v (Value.bool (decide (at' < @Nat.cast Int _ (List.length (List.map (sesL (0)) ss))))))) else K (DV.c (D.v (Value.bool false))) else K (DV.c (D.v (Value.bool false)))) := by kernel_rfl
def Zcr (h : Mh) (ss : List SesD) (i : Int) : Bool := mmay h ss && (decide (i ≥ 0) && decide (i < ss.length))
theorem Zuv : Goes Tryz.prog 26 := Zar Tryz.func26 (by kernel_rfl) rfl
theorem cThe (h : Mh) (ss : List SesD) (i : Int) (hok : okM h ss = true) : CT Tryz.prog 52 [.c (.p 0 (macL 0 h ss) 0), I i] (B (Zcr h ss i)) := by
  refine ct_s (.cons (oAtD Zuv (Zub h ss hok) rfl rfl) .nil) mixed Tryz.func52 rfl rfl rfl ?_
  rw [eThe]
  refine ⟨rfl, ?_⟩
  unfold Zcr
  rw [List.length_map]
  simp only [bifK]
end

section
open Go Go.Proofs
def iIxI : Inl := inlM Tryz.prog [] [] [] Tryz.f179
theorem Zn4 : Zbf Tryz.prog 179 iIxI := Za6 .nil .nil .nil mixed Tryz.func179 rfl (Zar Tryz.func179 (by kernel_rfl) rfl)
theorem ZtN (a x : Int) (K : DV → Prop) : (askH Tryz.prog (hkM [] [] [(179, iIxI)]) Tryz.f134 [.c (.s 0 1 [[vi a]] []), I x] K) = (bif x == a then K (DV.c (D.v (Value.bool true))) else K (DV.c (D.v (Value.bool false)))) := by kernel_rfl
theorem Zul (a b c x : Int) (K : DV → Prop) : (askH Tryz.prog (hkM [] [] [(179, iIxI)]) Tryz.f134 [.c (.s 0 1 [[vi a], [vi b], [vi c]] []), I x] K) = (bif x == a then K (DV.c (D.v (Value.bool true))) else bif x == b then K (DV.c (D.v (Value.bool true))) else bif x == c then K (DV.c (D.v (Value.bool true))) else K (DV.c (D.v (Value.bool false)))) := by kernel_rfl
def has1 (a x : Int) : Bool := bif x == a then true else false
def has3 (a b c x : Int) : Bool := bif x == a then true else bif x == b then true else bif x == c then true else false
def sHas : Spec := fun ds Q => match ds with
  | [.c (.s 0 1 [[.v (.int .i64 a)]] []), .c (.v (.int .i64 x))] => Q (B (has1 a x))
  | [.c (.s 0 1 [[.v (.int .i64 a)], [.v (.int .i64 b)], [.v (.int .i64 c)]] []), .c (.v (.int .i64 x))] => Q (B (has3 a b c x))
  | _ => False
theorem oHas : Zad Tryz.prog 134 sHas := o_of Tryz.func134 (by kernel_rfl) rfl fun ds Q h => by
  unfold sHas at h; split at h
  · rename_i a x
    refine ⟨_, ct_m .nil .nil (.cons Zn4 .nil) mixed Tryz.func134 rfl rfl rfl ?_, rfl, rfl, h⟩
    rw [ZtN]
    refine ⟨?_⟩
    unfold has1; cases x == a <;> rfl
  · rename_i a b c x
    refine ⟨_, ct_m .nil .nil (.cons Zn4 .nil) mixed Tryz.func134 rfl rfl rfl ?_, rfl, rfl, h⟩
    rw [Zul]
    refine ⟨?_⟩
    unfold has3; cases x == a <;> cases x == b <;> cases x == c <;> rfl
  · exact h.elim
def ZkV (s : SesD) : Int := hdJ (s.pg.getD s.pc.toNat [])
def atS (p : Int → Bool) (s : SesD) : Bool := (s.st == 0) && (decide (s.pc < s.pg.length) && p (ZkV s))
def mAt (p : Int → Bool) (h : Mh) (ss : List SesD) (i : Int) : Bool := Zcr h ss i && (match ss[i.toNat]? with | some s => atS p s | none => false)
theorem ZqE {z : Nat} {R : List (List D)} (h : okZ (z + 1) R = true) {k : Nat} (hk : k < R.length) : isJ [IntKind.i64] (R.getD k []) = true := by
  obtain ⟨e, w, _⟩ := Zag h
  rw [e] at hk ⊢
  rw [Zaf] at hk
  exact Zav (j := 0) (n := 1) w hk (by omega)
theorem Zri {s : SesD} (hs : Zaz s = true) (h0 : 0 ≤ s.pc) (p : Int → Bool) (K : DV → Prop) :
    (bif s.st == 0 then bif decide (s.pc < @Nat.cast Int _ (List.length s.pg)) then bif decide (0 ≤ s.pc) && decide (s.pc < @Nat.cast Int _ (List.length s.pg)) then bif isJ [IntKind.i64] (List.drop 0 (List.getD s.pg (Int.toNat s.pc) [])) then K (DV.c (D.v (Value.bool (p (hdJ (List.drop 0 (List.getD s.pg (Int.toNat s.pc) []))))))) else False else False else K (DV.c (D.v (Value.bool false))) else K (DV.c (D.v (Value.bool false)))) = K (.c (.v (.bool (atS p s)))) := by
  unfold atS ZkV
  rw [List.drop_zero]
  cases hst : s.st == 0
  · simp only [cond_false, Bool.false_and]
  · cases hl : decide (s.pc < @Nat.cast Int _ (List.length s.pg))
    · simp only [cond_true, cond_false, Bool.true_and, Bool.false_and]
    · have hl' := of_decide_eq_true hl
      have hj := ZqE (z := 3) (by unfold Zaz at hs; simp only [Bool.and_eq_true] at hs; exact hs.1) (show s.pc.toNat < s.pg.length by omega)
      simp only [cond_true, Bool.true_and, decide_eq_true h0, hj]
theorem ZcH {h : Mh} {ss : List SesD} {i : Int} (hm : Zcr h ss i = true) : mmay h ss = true ∧ 0 ≤ i ∧ i < ss.length := by
  unfold Zcr at hm; simpa [Bool.and_eq_true] using hm
theorem Ze7 {h : Mh} {ss : List SesD} (hm : mmay h ss = true) : ss.length ≤ 4 ∧ ∀ s ∈ ss, Zai h.w0 h.w1 h.w2 h.w3 s = true := by
  unfold mmay at hm
  simp only [Bool.and_eq_true, Bool.not_eq_true', decide_eq_false_iff_not, List.all_eq_true] at hm
  exact ⟨by omega, hm.2.2.2.2.2.2.1⟩
theorem Zfp {R0 R1 R2 R3 : List (List D)} {s : SesD} (h : Zai R0 R1 R2 R3 s = true) : 0 ≤ s.pc ∧ s.pc ≤ s.pg.length := by
  unfold Zai farB upto at h
  simp only [Bool.and_eq_true, decide_eq_true_eq] at h
  omega
theorem ZiR {h : Mh} {ss : List SesD} {i : Int} (hok : okM h ss = true) (hm : Zcr h ss i = true) : ∃ s, ss[i.toNat]? = some s ∧ Zaz s = true ∧ Zai h.w0 h.w1 h.w2 h.w3 s = true := by
  obtain ⟨g0, g1, g2⟩ := ZcH hm
  have hl : i.toNat < ss.length := by omega
  have hmem : ss[i.toNat] ∈ ss := List.getElem_mem hl
  exact ⟨ss[i.toNat], List.getElem?_eq_getElem hl, List.all_eq_true.1 (Ze6 hok).2.2 _ hmem, (Ze7 g0).2 _ hmem⟩
theorem eAt1 (h : Mh) (ss : List SesD) (i : Int) (a : Int) (t : Bool) (K : DV → Prop) : (askH Tryz.prog (hkF [(52, sAtD [.c (.p 0 (macL 0 h ss) 0), I i] (B t)), (134, sHas)] [] []) Tryz.f80 [.c (.p 0 (macL 0 h ss) 0), I i, .c (.s 0 1 [[vi a]] [])] K) = ([DV.c (D.p (0) (macL (0) h ss) (0)), I i] = [DV.c (D.p (0) (macL (0) h ss) (0)), I i] ∧ bif !t then K (DV.c (D.v (Value.bool false))) else bif decide (0 ≤ i) && decide (i < @Nat.cast Int _ (List.length (List.map (sesL (0)) ss))) then ∃ s, Zjo (List.map (sesL (0)) ss) (Int.toNat i) (0) s ∧ bif s.st == 0 then bif decide (s.pc < @Nat.cast Int _ (List.length s.pg)) then bif decide (0 ≤ s.pc) && decide (s.pc < @Nat.cast Int _ (List.length s.pg)) then bif isJ [IntKind.i64] (List.drop (0) (List.getD s.pg (Int.toNat s.pc) [])) then K (DV.c (D.v (Value.bool (has1 a (hdJ (List.drop (0) (List.getD s.pg (Int.toNat s.pc) []))))))) else False else False else K (DV.c (D.v (Value.bool false))) else K (DV.c (D.v (Value.bool false))) else False) := by kernel_rfl
theorem cAt1 (h : Mh) (ss : List SesD) (i : Int) (a : Int) (hok : okM h ss = true) : CT Tryz.prog 80 [.c (.p 0 (macL 0 h ss) 0), I i, .c (.s 0 1 [[vi a]] [])] (B (mAt (has1 a) h ss i)) := by
  refine Ztl (ZnU (.cons (oAtD (Zar Tryz.func52 (by kernel_rfl) rfl) (cThe h ss i hok) rfl rfl) (.cons oHas .nil)) .nil .nil) mixed Zh2 Tryz.func80 rfl rfl rfl ?_
  rw [eAt1]
  refine ⟨⟨rfl, ?_⟩⟩
  unfold mAt
  cases hm : Zcr h ss i with
  | false => exact AL.refl _
  | true =>
    obtain ⟨g0, g1, g2⟩ := ZcH hm
    obtain ⟨s, hs, ho, hy⟩ := ZiR hok hm
    simp only [Bool.not_true, cond_false, cond_true, decide_eq_true g1, List.length_map, decide_eq_true g2, Bool.and_self, hs, Bool.true_and]
    refine ⟨s, Ziz hs, ?_⟩
    have e := Zri ho (Zfp hy).1 (has1 a) (fun r => AL r (B (atS (has1 a) s)))
    simp only [e]
    exact AL.refl _
end

section
open Go Go.Proofs
def kX (R : List (List D)) : Bool := decide (List.length R ≤ List.length (R ++ [])) && List.all (R ++ []) fun r => List.all r D.keeps
def tC (R : List (List D)) : List (List D) := List.take (List.length R) (R ++ [])
def tD (R : List (List D)) : List (List D) := List.take (List.length R + 0 - List.length R) (List.drop (List.length R) (R ++ []))
def sTt (s : SesD) : List D := [vN s.id, vN s.lb, vN s.cl, .s 1 4 (tC s.pg) (tD s.pg), vN s.st, vN s.pc, vN s.r0, vN s.r1, vN s.r2, vN s.r3, .s 1 3 (tC s.rd) (tD s.rd), .s 1 3 (tC s.wt) (tD s.wt), vN s.at', vN s.sp, vN s.tr, vN s.rs, vN s.to]
theorem Zts (s : SesD) (K : DV → Prop) : (ask Tryz.prog [(90, ZdG), (149, Zdq), (137, ZbH)] Tryz.f96 [.agg (sesL 0 s)] K) = (bif allV s.pg && decide (List.length s.pg ≤ 4398046510977) then bif allV s.rd && decide (List.length s.rd ≤ 5864062014635) then bif allV s.wt && decide (List.length s.wt ≤ 5864062014635) then bif kX s.pg then bif kX s.rd then bif kX s.wt then K (DV.agg (sTt s)) else False else False else False else False else False else False) := by kernel_rfl
def smR (n : Nat) (R : List (List D)) : Bool := allV R && decide (R.length ≤ n)
def smS (s : SesD) : Bool := smR 4398046510977 s.pg && (smR 5864062014635 s.rd && smR 5864062014635 s.wt)
def smM (h : Mh) (ss : List SesD) : Bool := okC4 h.w0 h.w1 h.w2 h.w3 && (smR 4398046510977 h.tr && ss.all smS)
theorem Zab {n : Nat} {R : List (List D)} (h : smR n R = true) : allV R = true ∧ R.length ≤ n ∧ (R.all fun r => r.all D.keeps) = true := by
  unfold smR at h
  simp only [Bool.and_eq_true, decide_eq_true_eq] at h
  exact ⟨h.1, h.2, ZaD h.1⟩
theorem ZcW {n z m : Nat} {R : List (List D)} (h : okZ z R = true) (hl : R.length ≤ m) (hm : m ≤ n) : smR n R = true := by
  unfold smR
  rw [Zbk h, decide_eq_true (by omega : R.length ≤ n)]; rfl
theorem Zay {s : SesD} (h : smS s = true) : smR 4398046510977 s.pg = true ∧ smR 5864062014635 s.rd = true ∧ smR 5864062014635 s.wt = true := by
  unfold smS at h; simpa [Bool.and_eq_true] using h
theorem ZbO (R : List (List D)) : List.take R.length R = R := List.take_length
theorem Zhf {s : SesD} (h : smS s = true) : ownL (sesL 1 s) = true := by
  obtain ⟨h1, h2, h3⟩ := Zay h
  simp only [sesL, ownL, D.pureOwn, ZaA (Zab h1).1, ZaA (Zab h2).1, ZaA (Zab h3).1, Zd8]; rfl
theorem ZuM (s : SesD) (hs : smS s = true) : CT Tryz.prog 96 [.agg (sesL 0 s)] (.agg (sesL 1 s)) := by
  obtain ⟨h1, h2, h3⟩ := Zay hs
  obtain ⟨a1, a2, a3⟩ := Zab h1
  obtain ⟨b1, b2, b3⟩ := Zab h2
  obtain ⟨c1, c2, c3⟩ := Zab h3
  refine ct_s (.cons Zkl (.cons ZjQ (.cons ZeI .nil))) mixed Tryz.func96 rfl rfl rfl ?_
  rw [Zts]
  refine ⟨?_⟩
  simp only [kX, tC, tD, sTt]
  simp only [a1, a2, a3, b1, b2, b3, c1, c2, c3, List.append_nil, Nat.le_refl, decide_true, Bool.and_self, cond_true, ZbO, Nat.add_zero, Nat.sub_self, List.take_zero]
  rfl
def ZdS : Spec := fun ds Q => match ds with
  | [d] => sesA d fun s => cond (smS s) (Q (.agg (sesL 1 s))) False
  | _ => False
theorem Znb : Zad Tryz.prog 96 ZdS := o_al Tryz.func96 (by kernel_rfl) rfl fun ds Q h => by
  unfold ZdS at h; split at h
  · obtain ⟨s, h, r⟩ := Zcw h
    obtain ⟨h1, h2⟩ := Zae h
    exact ⟨_, _, .cons r .nil, ZuM s h1, Zhf h1, rfl, h2⟩
  · exact h.elim
theorem Zvb (K : DV → Prop) : (ask Tryz.prog [] Tryz.f94 [.c (.s 0 17 ([].map (sesL 0)) [])] K) = (K (DV.c (D.s (1) (17) [] [])) ∧ K (DV.c (D.s (1) (17) [] []))) := by kernel_rfl
theorem ZuB (s0 : SesD) (K : DV → Prop) : (ask Tryz.prog [] Tryz.f94 [.c (.s 0 17 ([s0].map (sesL 0)) [])] K) = (True ∧ K (DV.c (D.s (1) (17) [(sesL (0) s0)] []))) := by kernel_rfl
theorem ZtW (s0 s1 : SesD) (K : DV → Prop) : (ask Tryz.prog [] Tryz.f94 [.c (.s 0 17 ([s0, s1].map (sesL 0)) [])] K) = (True ∧ K (DV.c (D.s (1) (17) [(sesL (0) s0), (sesL (0) s1)] []))) := by kernel_rfl
theorem ZuF (s0 s1 s2 : SesD) (K : DV → Prop) : (ask Tryz.prog [] Tryz.f94 [.c (.s 0 17 ([s0, s1, s2].map (sesL 0)) [])] K) = (True ∧ K (DV.c (D.s (1) (17) [(sesL (0) s0), (sesL (0) s1), (sesL (0) s2)] []))) := by kernel_rfl
theorem ZuQ (s0 s1 s2 s3 : SesD) (K : DV → Prop) : (ask Tryz.prog [] Tryz.f94 [.c (.s 0 17 ([s0, s1, s2, s3].map (sesL 0)) [])] K) = (True ∧ K (DV.c (D.s (1) (17) [(sesL (0) s0), (sesL (0) s1), (sesL (0) s2), (sesL (0) s3)] []))) := by kernel_rfl
theorem cClS (ss : List SesD) (hl : ss.length ≤ 4) : CT Tryz.prog 94 [.c (.s 0 17 (ss.map (sesL 0)) [])] (.c (.s 1 17 (ss.map (sesL 0)) [])) := by
  rcases ss with _ | ⟨s0, _ | ⟨s1, _ | ⟨s2, _ | ⟨s3, _ | ⟨s4, l⟩⟩⟩⟩⟩
  · refine ct_s .nil mixed Tryz.func94 rfl rfl rfl ?_
    rw [Zvb]
    exact ⟨⟨rfl, rfl⟩⟩
  · refine ct_s .nil mixed Tryz.func94 rfl rfl rfl ?_
    rw [ZuB]
    exact ⟨⟨trivial, rfl⟩⟩
  · refine ct_s .nil mixed Tryz.func94 rfl rfl rfl ?_
    rw [ZtW]
    exact ⟨⟨trivial, rfl⟩⟩
  · refine ct_s .nil mixed Tryz.func94 rfl rfl rfl ?_
    rw [ZuF]
    exact ⟨⟨trivial, rfl⟩⟩
  · refine ct_s .nil mixed Tryz.func94 rfl rfl rfl ?_
    rw [ZuQ]
    exact ⟨⟨trivial, rfl⟩⟩
  · simp at hl
def sClS : Spec := fun ds Q => match ds with
  | [.c d] => cond d.isOwn False (Zk6 d fun ss => cond (Nat.ble ss.length 4) (Q (.c (.s 1 17 (ss.map (sesL 0)) []))) False)
  | _ => False
theorem oClS : Zjn Tryz.prog 94 sClS := fun ds Q h => by
  refine ⟨Zar Tryz.func94 (by kernel_rfl) rfl, ?_⟩
  unfold sClS at h; split at h
  · rename_i d
    cases hd : d.isOwn with
    | true => rw [hd] at h; exact h.elim
    | false =>
      rw [hd] at h
      obtain ⟨ss, h, r⟩ := ZdE h
      obtain ⟨h1, h2⟩ := Zae h
      exact ⟨_, (cClS ss (Nat.le_of_ble_eq_true h1)).args (.cons (.c r hd rfl) .nil), rfl, h2⟩
  · exact h.elim
theorem Zt3 (h : Mh) (K : DV → Prop) : (askH Tryz.prog (hkM [(93, Zca), (95, Zbc), (96, ZdS)] [(94, sClS)] []) Tryz.f53 [.agg (macL 0 h [])] K) = (bif okC4 h.w0 h.w1 h.w2 h.w3 then bif allV h.tr && decide (List.length h.tr ≤ 4398046510977) then bif kX h.w0 then bif kX h.w1 then bif kX h.w2 then bif kX h.w3 then bif kX h.tr then K (DV.agg [D.s (1) (3) (tC h.w0) (tD h.w0), D.s (1) (3) (tC h.w1) (tD h.w1), D.s (1) (3) (tC h.w2) (tD h.w2), D.s (1) (3) (tC h.w3) (tD h.w3), vN h.c0, vN h.c1, vN h.c2, vN h.c3, vN h.ce, D.s (1) (17) [] [], D.s (1) (4) (tC h.tr) (tD h.tr)]) else False else False else False else False else False else False else False) := by kernel_rfl
theorem Zue (h : Mh) (s0 : SesD) (K : DV → Prop) : (askH Tryz.prog (hkM [(93, Zca), (95, Zbc), (96, ZdS)] [(94, sClS)] []) Tryz.f53 [.agg (macL 0 h [s0])] K) = (bif okC4 h.w0 h.w1 h.w2 h.w3 then bif allV h.tr && decide (List.length h.tr ≤ 4398046510977) then bif smS s0 then bif kX h.w0 then bif kX h.w1 then bif kX h.w2 then bif kX h.w3 then bif kX s0.pg then bif kX s0.rd then bif kX s0.wt then bif kX h.tr then K (DV.agg [D.s (1) (3) (tC h.w0) (tD h.w0), D.s (1) (3) (tC h.w1) (tD h.w1), D.s (1) (3) (tC h.w2) (tD h.w2), D.s (1) (3) (tC h.w3) (tD h.w3), vN h.c0, vN h.c1, vN h.c2, vN h.c3, vN h.ce, D.s (1) (17) [(sTt s0)] [], D.s (1) (4) (tC h.tr) (tD h.tr)]) else False else False else False else False else False else False else False else False else False else False else False) := by kernel_rfl
theorem ZuG (h : Mh) (s0 s1 : SesD) (K : DV → Prop) : (askH Tryz.prog (hkM [(93, Zca), (95, Zbc), (96, ZdS)] [(94, sClS)] []) Tryz.f53 [.agg (macL 0 h [s0, s1])] K) = (bif okC4 h.w0 h.w1 h.w2 h.w3 then bif allV h.tr && decide (List.length h.tr ≤ 4398046510977) then bif smS s0 then bif smS s1 then bif kX h.w0 then bif kX h.w1 then bif kX h.w2 then bif kX h.w3 then bif kX s0.pg then bif kX s0.rd then bif kX s0.wt then bif kX s1.pg then bif kX s1.rd then bif kX s1.wt then bif kX h.tr then K (DV.agg [D.s (1) (3) (tC h.w0) (tD h.w0), D.s (1) (3) (tC h.w1) (tD h.w1), D.s (1) (3) (tC h.w2) (tD h.w2), D.s (1) (3) (tC h.w3) (tD h.w3), vN h.c0, vN h.c1, vN h.c2, vN h.c3, vN h.ce, D.s (1) (17) [(sTt s0), (sTt s1)] [], D.s (1) (4) (tC h.tr) (tD h.tr)]) else False else False else False else False else False else False else False else False else False else False else False else False else False else False else False) := by kernel_rfl
theorem ZtE (h : Mh) (s0 s1 s2 : SesD) (K : DV → Prop) : (askH Tryz.prog (hkM [(93, Zca), (95, Zbc), (96, ZdS)] [(94, sClS)] []) Tryz.f53 [.agg (macL 0 h [s0, s1, s2])] K) = (bif okC4 h.w0 h.w1 h.w2 h.w3 then bif allV h.tr && decide (List.length h.tr ≤ 4398046510977) then bif smS s0 then bif smS s1 then bif smS s2 then bif kX h.w0 then bif kX h.w1 then bif kX h.w2 then bif kX h.w3 then bif kX s0.pg then bif kX s0.rd then bif kX s0.wt then bif kX s1.pg then bif kX s1.rd then bif kX s1.wt then bif kX s2.pg then bif kX s2.rd then bif kX s2.wt then bif kX h.tr then K (DV.agg [D.s (1) (3) (tC h.w0) (tD h.w0), D.s (1) (3) (tC h.w1) (tD h.w1), D.s (1) (3) (tC h.w2) (tD h.w2), D.s (1) (3) (tC h.w3) (tD h.w3), vN h.c0, vN h.c1, vN h.c2, vN h.c3, vN h.ce, D.s (1) (17) [(sTt s0), (sTt s1), (sTt s2)] [], D.s (1) (4) (tC h.tr) (tD h.tr)]) else False else False else False else False else False else False else False else False else False else False else False else False else False else False else False else False else False else False else False) := by kernel_rfl
theorem Zu2 (h : Mh) (s0 s1 s2 s3 : SesD) (K : DV → Prop) : (askH Tryz.prog (hkM [(93, Zca), (95, Zbc), (96, ZdS)] [(94, sClS)] []) Tryz.f53 [.agg (macL 0 h [s0, s1, s2, s3])] K) = (bif okC4 h.w0 h.w1 h.w2 h.w3 then bif allV h.tr && decide (List.length h.tr ≤ 4398046510977) then bif smS s0 then bif smS s1 then bif smS s2 then bif smS s3 then bif kX h.w0 then bif kX h.w1 then bif kX h.w2 then bif kX h.w3 then bif kX s0.pg then bif kX s0.rd then bif kX s0.wt then bif kX s1.pg then bif kX s1.rd then bif kX s1.wt then bif kX s2.pg then bif kX s2.rd then bif kX s2.wt then bif kX s3.pg then bif kX s3.rd then bif kX s3.wt then bif kX h.tr then K (DV.agg [D.s (1) (3) (tC h.w0) (tD h.w0), D.s (1) (3) (tC h.w1) (tD h.w1), D.s (1) (3) (tC h.w2) (tD h.w2), D.s (1) (3) (tC h.w3) (tD h.w3), vN h.c0, vN h.c1, vN h.c2, vN h.c3, vN h.ce, D.s (1) (17) [(sTt s0), (sTt s1), (sTt s2), (sTt s3)] [], D.s (1) (4) (tC h.tr) (tD h.tr)]) else False else False else False else False else False else False else False else False else False else False else False else False else False else False else False else False else False else False else False else False else False else False else False) := by kernel_rfl
theorem ZdX {h : Mh} {ss : List SesD} (hm : smM h ss = true) : (smR 5864062014635 h.w0 = true ∧ smR 5864062014635 h.w1 = true ∧ smR 5864062014635 h.w2 = true ∧ smR 5864062014635 h.w3 = true) ∧ smR 4398046510977 h.tr = true ∧ ∀ s ∈ ss, smS s = true := by
  unfold smM okC4 okC at hm
  simp only [Bool.and_eq_true, List.all_eq_true] at hm
  unfold smR
  simp only [Bool.and_eq_true]
  refine ⟨⟨hm.1.1, hm.1.2.1, hm.1.2.2.1, hm.1.2.2.2⟩, ?_, hm.2.2⟩
  have := hm.2.1
  unfold smR at this
  rw [Bool.and_eq_true] at this
  exact this
theorem ZpQ {h : Mh} {ss : List SesD} (hm : smM h ss = true) : okC4 h.w0 h.w1 h.w2 h.w3 = true := by unfold smM at hm; rw [Bool.and_eq_true] at hm; exact hm.1
theorem ZhJ {h : Mh} {ss : List SesD} (hm : smM h ss = true) : ownL (macL 1 h ss) = true := by
  obtain ⟨⟨a0, a1, a2, a3⟩, a4, a5⟩ := ZdX hm
  have h6 : Zd8 (ss.map (sesL 1)) = true := by
    clear hm
    induction ss with
    | nil => rfl
    | cons s l ih => simp only [List.map_cons, Zd8, Zhf (a5 s (by simp)), ih fun q hq => a5 q (by simp [hq])]; rfl
  simp only [macL, ownL, D.pureOwn, ZaA (Zab a0).1, ZaA (Zab a1).1, ZaA (Zab a2).1, ZaA (Zab a3).1, ZaA (Zab a4).1, h6, Zd8]; rfl
theorem cCop (h : Mh) (ss : List SesD) (hl : ss.length ≤ 4) (hm : smM h ss = true) : CT Tryz.prog 53 [.agg (macL 0 h ss)] (.agg (macL 1 h ss)) := by
  have h4 := ZpQ hm
  obtain ⟨⟨a0, a1, a2, a3⟩, a4, a5⟩ := ZdX hm
  obtain ⟨_, _, b0⟩ := Zab a0
  obtain ⟨_, _, b1⟩ := Zab a1
  obtain ⟨_, _, b2⟩ := Zab a2
  obtain ⟨_, _, b3⟩ := Zab a3
  obtain ⟨t1, t2, t3⟩ := Zab a4
  rcases ss with _ | ⟨s0, _ | ⟨s1, _ | ⟨s2, _ | ⟨s3, _ | ⟨s4, l⟩⟩⟩⟩⟩
  · refine ct_m (.cons ZiF (.cons ZbM (.cons Znb .nil))) (.cons oClS .nil) .nil mixed Tryz.func53 rfl rfl rfl ?_
    rw [Zt3]
    refine ⟨?_⟩
    simp only [kX, tC, tD, sTt]
    simp only [h4, b0, b1, b2, b3, t1, t2, t3, List.append_nil, Nat.le_refl, decide_true, Bool.and_self, cond_true, ZbO, Nat.add_zero, Nat.sub_self, List.take_zero]
    rfl
  · have q0 := a5 s0 (by simp)
    obtain ⟨p0, r0, w0⟩ := Zay q0
    obtain ⟨_, _, x0⟩ := Zab p0
    obtain ⟨_, _, y0⟩ := Zab r0
    obtain ⟨_, _, z0⟩ := Zab w0
    refine ct_m (.cons ZiF (.cons ZbM (.cons Znb .nil))) (.cons oClS .nil) .nil mixed Tryz.func53 rfl rfl rfl ?_
    rw [Zue]
    refine ⟨?_⟩
    simp only [kX, tC, tD, sTt]
    simp only [h4, b0, b1, b2, b3, t1, t2, t3, q0, x0, y0, z0, List.append_nil, Nat.le_refl, decide_true, Bool.and_self, cond_true, ZbO, Nat.add_zero, Nat.sub_self, List.take_zero]
    rfl
  · have q0 := a5 s0 (by simp)
    obtain ⟨p0, r0, w0⟩ := Zay q0
    obtain ⟨_, _, x0⟩ := Zab p0
    obtain ⟨_, _, y0⟩ := Zab r0
    obtain ⟨_, _, z0⟩ := Zab w0
    have q1 := a5 s1 (by simp)
    obtain ⟨p1, r1, w1⟩ := Zay q1
    obtain ⟨_, _, x1⟩ := Zab p1
    obtain ⟨_, _, y1⟩ := Zab r1
    obtain ⟨_, _, z1⟩ := Zab w1
    refine ct_m (.cons ZiF (.cons ZbM (.cons Znb .nil))) (.cons oClS .nil) .nil mixed Tryz.func53 rfl rfl rfl ?_
    rw [ZuG]
    refine ⟨?_⟩
    simp only [kX, tC, tD, sTt]
    simp only [h4, b0, b1, b2, b3, t1, t2, t3, q0, x0, y0, z0, q1, x1, y1, z1, List.append_nil, Nat.le_refl, decide_true, Bool.and_self, cond_true, ZbO, Nat.add_zero, Nat.sub_self, List.take_zero]
    rfl
  · have q0 := a5 s0 (by simp)
    obtain ⟨p0, r0, w0⟩ := Zay q0
    obtain ⟨_, _, x0⟩ := Zab p0
    obtain ⟨_, _, y0⟩ := Zab r0
    obtain ⟨_, _, z0⟩ := Zab w0
    have q1 := a5 s1 (by simp)
    obtain ⟨p1, r1, w1⟩ := Zay q1
    obtain ⟨_, _, x1⟩ := Zab p1
    obtain ⟨_, _, y1⟩ := Zab r1
    obtain ⟨_, _, z1⟩ := Zab w1
    have q2 := a5 s2 (by simp)
    obtain ⟨p2, r2, w2⟩ := Zay q2
    obtain ⟨_, _, x2⟩ := Zab p2
    obtain ⟨_, _, y2⟩ := Zab r2
    obtain ⟨_, _, z2⟩ := Zab w2
    refine ct_m (.cons ZiF (.cons ZbM (.cons Znb .nil))) (.cons oClS .nil) .nil mixed Tryz.func53 rfl rfl rfl ?_
    rw [ZtE]
    refine ⟨?_⟩
    simp only [kX, tC, tD, sTt]
    simp only [h4, b0, b1, b2, b3, t1, t2, t3, q0, x0, y0, z0, q1, x1, y1, z1, q2, x2, y2, z2, List.append_nil, Nat.le_refl, decide_true, Bool.and_self, cond_true, ZbO, Nat.add_zero, Nat.sub_self, List.take_zero]
    rfl
  · have q0 := a5 s0 (by simp)
    obtain ⟨p0, r0, w0⟩ := Zay q0
    obtain ⟨_, _, x0⟩ := Zab p0
    obtain ⟨_, _, y0⟩ := Zab r0
    obtain ⟨_, _, z0⟩ := Zab w0
    have q1 := a5 s1 (by simp)
    obtain ⟨p1, r1, w1⟩ := Zay q1
    obtain ⟨_, _, x1⟩ := Zab p1
    obtain ⟨_, _, y1⟩ := Zab r1
    obtain ⟨_, _, z1⟩ := Zab w1
    have q2 := a5 s2 (by simp)
    obtain ⟨p2, r2, w2⟩ := Zay q2
    obtain ⟨_, _, x2⟩ := Zab p2
    obtain ⟨_, _, y2⟩ := Zab r2
    obtain ⟨_, _, z2⟩ := Zab w2
    have q3 := a5 s3 (by simp)
    obtain ⟨p3, r3, w3⟩ := Zay q3
    obtain ⟨_, _, x3⟩ := Zab p3
    obtain ⟨_, _, y3⟩ := Zab r3
    obtain ⟨_, _, z3⟩ := Zab w3
    refine ct_m (.cons ZiF (.cons ZbM (.cons Znb .nil))) (.cons oClS .nil) .nil mixed Tryz.func53 rfl rfl rfl ?_
    rw [Zu2]
    refine ⟨?_⟩
    simp only [kX, tC, tD, sTt]
    simp only [h4, b0, b1, b2, b3, t1, t2, t3, q0, x0, y0, z0, q1, x1, y1, z1, q2, x2, y2, z2, q3, x3, y3, z3, List.append_nil, Nat.le_refl, decide_true, Bool.and_self, cond_true, ZbO, Nat.add_zero, Nat.sub_self, List.take_zero]
    rfl
  · simp at hl
def sCop : Spec := fun ds Q => match ds with
  | [d] => macA d fun h ss => cond (Nat.ble ss.length 4 && smM h ss) (Q (.agg (macL 1 h ss))) False
  | _ => False
def ZsA : Inl := inlM Tryz.prog [] [] [] Tryz.f54
theorem Zpy : Zbf Tryz.prog 54 ZsA := Za6 .nil .nil .nil mixed Tryz.func54 rfl (Zar Tryz.func54 (by kernel_rfl) rfl)
end

section
open Go Go.Proofs
instance : Inhabited SesD := ⟨⟨0, 0, 0, [], 0, 0, 0, 0, 0, 0, [], [], 0, 0, 0, 0, 0⟩⟩
theorem Zk5 {l : List (List Int)} (h : pmay l = true) : l.length ≤ 16 := by unfold pmay at h; simp only [Bool.and_eq_true, decide_eq_true_eq] at h; exact h.2
theorem Zpk {l : List (List Int)} (h : rmay l = true) : l.length ≤ 16 := by unfold rmay at h; simp only [Bool.and_eq_true, decide_eq_true_eq] at h; exact h.1
theorem Zio {l : List (List Int)} (h : ZbQ l = true) : l.length ≤ 16 := by unfold ZbQ at h; simp only [Bool.and_eq_true, decide_eq_true_eq] at h; exact h.1
theorem Zde {l : List (List Int)} (h : Zax l = true) : l.length ≤ 4 := by
  unfold Zax at h
  simp only [Bool.not_eq_true', Bool.or_eq_false_iff, decide_eq_false_iff_not] at h
  omega
theorem Znx {R0 R1 R2 R3 : List (List D)} {s : SesD} (hs : Zaz s = true) (h : Zai R0 R1 R2 R3 s = true) : smS s = true := by
  unfold Zai Zhe smay at h
  simp only [Bool.and_eq_true] at h
  unfold Zaz at hs
  simp only [Bool.and_eq_true] at hs
  have a1 := Zk5 h.1.2.2.2.2
  have a2 := Zpk h.2.1.1
  have a3 := Zio h.2.1.2.1
  rw [Zau] at a1 a2 a3
  unfold smS
  rw [ZcW hs.1 a1 (by omega), ZcW hs.2.1 a2 (by omega), ZcW hs.2.2 a3 (by omega)]; rfl
theorem Zns {h : Mh} {ss : List SesD} (ho : okM h ss = true) (hm : mmay h ss = true) : smM h ss = true := by
  obtain ⟨h1, h2, h3⟩ := Ze6 ho
  obtain ⟨_, g5⟩ := Ze7 hm
  unfold mmay amay at hm
  simp only [Bool.and_eq_true, Bool.not_eq_true', decide_eq_false_iff_not] at hm
  obtain ⟨⟨a0, a1, a2, a3⟩, _, _, _, htr, _⟩ := hm
  unfold okA at h1
  simp only [Bool.and_eq_true] at h1
  have l0 := Zde a0
  have l1 := Zde a1
  have l2 := Zde a2
  have l3 := Zde a3
  rw [Zau] at l0 l1 l2 l3
  have e0 : okC h.w0 = true := ZcW (n := 5864062014635) h1.1 l0 (by omega)
  have e1 : okC h.w1 = true := ZcW (n := 5864062014635) h1.2.1 l1 (by omega)
  have e2 : okC h.w2 = true := ZcW (n := 5864062014635) h1.2.2.1 l2 (by omega)
  have e3 : okC h.w3 = true := ZcW (n := 5864062014635) h1.2.2.2 l3 (by omega)
  unfold smM okC4
  rw [e0, e1, e2, e3, ZcW (n := 4398046510977) (m := 512) h2 (by omega) (by omega)]
  simp only [Bool.and_self, Bool.true_and, List.all_eq_true]
  intro s hs
  exact Znx (List.all_eq_true.1 h3 s hs) (g5 s hs)
abbrev macE (e : Int) : DV := .tup [.agg (macL 1 h0 []), I e]
abbrev macR (h : Mh) (ss : List SesD) (e : Int) : DV := .tup [.agg (macL 1 h ss), I e]
theorem Zpw {h : Mh} {ss : List SesD} (hm : smM h ss = true) : ((h.w0.all fun r => r.all D.keeps) = true ∧ (h.w1.all fun r => r.all D.keeps) = true ∧ (h.w2.all fun r => r.all D.keeps) = true ∧ (h.w3.all fun r => r.all D.keeps) = true) ∧ (h.tr.all fun r => r.all D.keeps) = true ∧ ∀ s ∈ ss, (s.pg.all fun r => r.all D.keeps) = true ∧ (s.rd.all fun r => r.all D.keeps) = true ∧ (s.wt.all fun r => r.all D.keeps) = true := by
  obtain ⟨⟨a0, a1, a2, a3⟩, a4, a5⟩ := ZdX hm
  exact ⟨⟨(Zab a0).2.2, (Zab a1).2.2, (Zab a2).2.2, (Zab a3).2.2⟩, (Zab a4).2.2, fun s hs => by
    obtain ⟨p, r, w⟩ := Zay (a5 s hs)
    exact ⟨(Zab p).2.2, (Zab r).2.2, (Zab w).2.2⟩⟩
structure Foc (h : Mh) (ss : List SesD) (i : Int) (s : SesD) : Prop where
  at' : ss[i.toNat]? = some s
  ok : Zaz s = true
  may : Zai h.w0 h.w1 h.w2 h.w3 s = true
  lt : i.toNat < ss.length
  i0 : 0 ≤ i
  i1 : i < ss.length
  sm : smM h ss = true
  len : ss.length ≤ 4
  mm : mmay h ss = true
  w0 : allK h.w0 = true
  w1 : allK h.w1 = true
  w2 : allK h.w2 = true
  w3 : allK h.w3 = true
  tr : allK h.tr = true
  tl : h.tr.length ≤ 512
theorem foc {h : Mh} {ss : List SesD} {i : Int} (hok : okM h ss = true) (hm : Zcr h ss i = true) : ∃ s, Foc h ss i s := by
  obtain ⟨s, h1, h2, h3⟩ := ZiR hok hm
  obtain ⟨g0, g1, g2⟩ := ZcH hm
  have hsm := Zns hok g0
  obtain ⟨⟨b0, b1, b2, b3⟩, t3, _⟩ := Zpw hsm
  refine ⟨s, h1, h2, h3, by omega, g1, g2, hsm, (Ze7 g0).1, g0, b0, b1, b2, b3, t3, ?_⟩
  unfold mmay at g0
  simp only [Bool.and_eq_true, Bool.not_eq_true', decide_eq_false_iff_not] at g0
  omega
theorem Foc.getD {h : Mh} {ss : List SesD} {i : Int} {s : SesD} (f : Foc h ss i s) : ss.getD i.toNat default = s := by
  rw [List.getD_eq_getElem?_getD, f.at']; rfl
theorem Foc.foAt {h : Mh} {ss : List SesD} {i : Int} {s : SesD} (f : Foc h ss i s) : Vm.foAt (addN 0 i.toNat) i.toNat (List.length (List.map (sesL 1) ss)) := Zpp.2 ⟨rfl, by rw [List.length_map]; exact f.lt⟩
theorem Foc.ix {h : Mh} {ss : List SesD} {i : Int} {s : SesD} (f : Foc h ss i s) : (decide (0 ≤ i) && decide (i < @Nat.cast Int _ (List.length (List.map (sesL 1) ss)))) = true := by
  rw [List.length_map, decide_eq_true f.i0, decide_eq_true f.i1]; rfl
theorem Foc.row {h : Mh} {ss : List SesD} {i : Int} {s : SesD} (f : Foc h ss i s) : Zjo (List.map (sesL 1) ss) (Int.toNat i) 1 s := Ziz f.at'
theorem Foc.ow0 {h : Mh} {ss : List SesD} {i : Int} {s : SesD} (f : Foc h ss i s) : whole h.w0.length h.w0 := Zct f.w0
theorem Foc.ow1 {h : Mh} {ss : List SesD} {i : Int} {s : SesD} (f : Foc h ss i s) : whole h.w1.length h.w1 := Zct f.w1
theorem Foc.ow2 {h : Mh} {ss : List SesD} {i : Int} {s : SesD} (f : Foc h ss i s) : whole h.w2.length h.w2 := Zct f.w2
theorem Foc.ow3 {h : Mh} {ss : List SesD} {i : Int} {s : SesD} (f : Foc h ss i s) : whole h.w3.length h.w3 := Zct f.w3
theorem Foc.otr {h : Mh} {ss : List SesD} {i : Int} {s : SesD} (f : Foc h ss i s) : whole h.tr.length h.tr := Zct f.tr
theorem Foc.oss {h : Mh} {ss : List SesD} {i : Int} {s : SesD} (f : Foc h ss i s) (j : Nat) (s' : SesD) : whole (List.length (List.map (sesL 1) ss)) (List.set (List.map (sesL 1) ss) j (sesL 1 s')) := Zny (List.length_map _)
theorem Znw {R : List (List D)} {r : List D} (h : allK R = true) (hr : r.all D.keeps = true) : whole (R.length + 1) (List.take R.length R ++ [r]) := by
  rw [List.take_length]
  refine ⟨by simp, ?_⟩
  unfold allK at *
  rw [List.all_append, h]; simp [hr]
theorem Znd (h : Mh) (ss : List SesD) (j : Nat) (s : SesD) (e : Int) : AL (.tup [.agg (Zck 1 h (List.set (List.map (sesL 1) ss) j (sesL 1 s))), I e]) (macR h (ss.set j s) e) := by
  rw [ZmL, ZoR]; exact AL.refl _
theorem ZuN (e : Int) : AL (.tup [.agg mac0, I e]) (macE e) := Zsv e
theorem gCop : Goes Tryz.prog 53 := Zar Tryz.func53 (by kernel_rfl) rfl
theorem gAt : Goes Tryz.prog 80 := Zar Tryz.func80 (by kernel_rfl) rfl
def iCpF (t : Bool) (h : Mh) (ss : List SesD) (i : Int) (s : SesD) : Inl := ZoG Tryz.prog [34] (sIf t (sAtD [.agg (macL 0 h ss)] (.agg (macL 1 h ss)))) (matF i.toNat s)
theorem Zrc {h : Mh} {ss : List SesD} (hm : smM h ss = true) : (DV.agg (macL 1 h ss)).pureOwn = true := ZhJ hm
theorem Zqy {t : Bool} {h : Mh} {ss : List SesD} (i : Int) (s : SesD) (hl : t = true → smM h ss = true ∧ ss.length ≤ 4) : Zbf Tryz.prog 53 (iCpF t h ss i s) :=
  Zlf (ZrD _ _) (oIf fun ht => oAtD gCop (cCop h ss (hl ht).2 (hl ht).1) (Zrc (hl ht).1) rfl)
theorem ZmN {h : Mh} {ss : List SesD} (i : Int) (hok : okM h ss = true) : Zcr h ss i = true → smM h ss = true ∧ ss.length ≤ 4 := fun hm => by
  obtain ⟨g0, _, _⟩ := ZcH hm
  exact ⟨Zns hok g0, (Ze7 g0).1⟩
theorem Zo4 {R : List (List D)} {r : List D} (h : allV R = true) (hr : allV [r] = true) : allV (R ++ [r]) = true := by
  unfold allV at *
  rw [List.all_append, h, hr]; rfl
theorem Zk2 {h : Mh} {ss : List SesD} (hm : smM h ss = true) (e : Int) : (macR h ss e).pureOwn = true := by
  have := ZhJ hm
  simp only [macR, DV.pureOwn, DV.pureOwn.go, this]
  rfl
end

section
open Go Go.Proofs
def wdsB (R0 R1 R2 R3 : List (List D)) (s : SesD) : Bool := !(toZ s.pg).any (noIn R0 R1 R2 R3) && (!(toZ s.wt).any (noWr R0 R1 R2 R3) && !(toZ s.rd).any (noRd R0 R1 R2 R3))
theorem Zpm (a b c d : List (List Int)) (l : List (List Int)) : l.all (thv a b c d) = !l.any (noRd (mZ a) (mZ b) (mZ c) (mZ d)) := by
  rw [List.all_eq_not_any_not]
  congr 2
  funext r
  unfold thv noRd thW
  rw [Zaf, Zaf, Zaf, Zaf]
theorem cWds (R0 R1 R2 R3 : List (List D)) (s : SesD) (hA : okA R0 R1 R2 R3 = true) (hs : Zaz s = true) : CT Tryz.prog 120 [.agg (wsL R0 R1 R2 R3), .agg (sesL 0 s)] (B (wdsB R0 R1 R2 R3 s)) := by
  obtain ⟨q0, q1, q2, q3⟩ := Zdb hA
  obtain ⟨a1, a2, _⟩ := Zag q0
  obtain ⟨b1, b2, _⟩ := Zag q1
  obtain ⟨c1, c2, _⟩ := Zag q2
  obtain ⟨d1, d2, _⟩ := Zag q3
  obtain ⟨e, ⟨hp, hpl⟩, ⟨hr, hrl⟩, ⟨hw, hwl⟩⟩ := ZlL hs
  have hz : okZ 3 s.rd = true := by unfold Zaz at hs; simp only [Bool.and_eq_true] at hs; exact hs.2.1
  rw [a1, b1, c1, d1] at hA ⊢
  have hz2 : okZ 3 (mZ (toZ s.rd)) = true := by rw [← (Zag hz).1]; exact hz
  rw [e]
  generalize toZ R0 = a at *
  generalize toZ R1 = b at *
  generalize toZ R2 = c at *
  generalize toZ R3 = d at *
  generalize toZ s.pg = p at *
  generalize toZ s.rd = r at *
  generalize toZ s.wt = w at *
  refine Zjf (m := [(2, fWd1 a b c d s p r w), (8, fWd2 a b c d s p r w)]) (.cons Ziy (.cons oRT .nil)) mixed (Zp7 rfl (by kernel_rfl) (by kernel_rfl) rfl (kWd1 hp hpl) (kWd2 hw hwl)) Tryz.func120 rfl rfl rfl ?_
  rw [eWds]
  unfold wdsB SesD.on
  simp only [ZbY]
  refine ⟨⟨trivial, fun i hi => ?_, fun hn => ⟨trivial, fun i hi => ?_, fun hn2 => ?_⟩⟩⟩
  · rw [hi.any]; rfl
  · rw [hn.any, hi.any]; rfl
  · rw [hn.any, hn2.any, hA, hz2, Zpm]; rfl
def sWds : Spec := fun ds Q => match ds with
  | [.agg cs, e] => cond (Zjx cs && Nat.beq cs.length 4) (ZgU cs fun R0 R1 R2 R3 => sesA e fun s => cond (okA R0 R1 R2 R3 && Zaz s) (Q (B (wdsB R0 R1 R2 R3 s))) False) False
  | _ => False
theorem oWds : Zad Tryz.prog 120 sWds := o_al Tryz.func120 (by kernel_rfl) rfl fun ds Q h => by
  unfold sWds at h; split at h
  · obtain ⟨h0, h⟩ := Zae h
    rw [Bool.and_eq_true] at h0
    have hl := Zaa h0.2
    obtain ⟨R0, R1, R2, R3, h, r1⟩ := ZcF h
    obtain ⟨s, h, r2⟩ := Zcw h
    obtain ⟨h1, h2⟩ := Zae h
    rw [Bool.and_eq_true] at h1
    rw [List.take_of_length_le (Nat.le_of_eq hl)] at r1
    exact ⟨_, _, .cons (.agg r1 h0.1 rfl) (.cons r2 .nil), cWds R0 R1 R2 R3 s h1.1 h1.2, rfl, rfl, h2⟩
  · exact h.elim
theorem eUp2 (x l m : Int) (K : DV → Prop) : (ask Tryz.prog [] Tryz.f56 [I x, I l, I m] K) = (bif decide (x ≥ l) then K (DV.c (D.v (Value.bool (decide (x ≤ m))))) else K (DV.c (D.v (Value.bool false)))) := by kernel_rfl
theorem oUp2 : Zad Tryz.prog 56 sUp := o_of Tryz.func56 (by kernel_rfl) rfl fun ds Q h => by
  unfold sUp at h; split at h
  · refine ⟨_, Zaj .nil mixed Tryz.func56 rfl rfl rfl ?_, rfl, rfl, h⟩
    rw [eUp2]; rename_i x l m; unfold upto; cases decide (x ≥ l) <;> rfl
  · exact h.elim
theorem Zt6 (h : Mh) (ss : List SesD) (s : SesD) (K : DV → Prop) : (ask Tryz.prog [(92, Zj9), (120, sWds), (56, sUp), (121, ZoX), (122, sRM), (123, sWMy), (69, sB clk), (91, sB val8)] Tryz.f70 [.agg (macL 0 h ss), .agg (sesL 0 s)] K) = (bif okZ (4) s.pg then bif !smay s.id s.lb s.cl (toZ s.pg) then K (DV.c (D.v (Value.bool false))) else bif okA h.w0 h.w1 h.w2 h.w3 && Zaz s then bif !wdsB h.w0 h.w1 h.w2 h.w3 s then K (DV.c (D.v (Value.bool false))) else bif !upto s.st (0) (6) then K (DV.c (D.v (Value.bool false))) else bif !upto s.pc (0) (@Nat.cast Int _ (List.length s.pg)) then K (DV.c (D.v (Value.bool false))) else bif !v4 s.r0 s.r1 s.r2 s.r3 then K (DV.c (D.v (Value.bool false))) else bif okZ (3) s.rd then bif !rmay (toZ s.rd) then K (DV.c (D.v (Value.bool false))) else bif okZ (3) s.wt then bif !ZbQ (toZ s.wt) then K (DV.c (D.v (Value.bool false))) else bif upto s.at' (0) (@Nat.cast Int _ (List.length s.wt)) then bif clk s.sp then bif clk s.tr then bif upto s.rs (0) (5) then K (DV.c (D.v (Value.bool (val8 s.to)))) else K (DV.c (D.v (Value.bool false))) else K (DV.c (D.v (Value.bool false))) else K (DV.c (D.v (Value.bool false))) else K (DV.c (D.v (Value.bool false))) else False else False else False else False) := by kernel_rfl
theorem Zuj (h : Mh) (ss : List SesD) (s : SesD) (hA : okA h.w0 h.w1 h.w2 h.w3 = true) (hs : Zaz s = true) : CT Tryz.prog 70 [.agg (macL 0 h ss), .agg (sesL 0 s)] (B (Zai h.w0 h.w1 h.w2 h.w3 s)) := by
  refine ct_s (.cons ZmQ (.cons oWds (.cons oUp2 (.cons ZsN (.cons oQM (.cons oWPy (.cons Zgm (.cons Zfn .nil)))))))) mixed Tryz.func70 rfl rfl rfl ?_
  rw [Zt6]
  refine ⟨?_⟩
  have hz := hs
  unfold Zaz at hz
  simp only [Bool.and_eq_true] at hz
  simp only [hz.1, hz.2.1, hz.2.2, hA, hs, Bool.and_self, cond_true, bifN, bifK]
  unfold Zai Zhe farB Zkr wdsB
  congr 3
  ac_rfl
def Zid : Spec := fun ds Q => match ds with
  | [d, e] => macA d fun h _ => sesA e fun s => cond (okA h.w0 h.w1 h.w2 h.w3 && Zaz s) (Q (B (Zai h.w0 h.w1 h.w2 h.w3 s))) False
  | _ => False
theorem ZnV : Zad Tryz.prog 70 Zid := o_al Tryz.func70 (by kernel_rfl) rfl fun ds Q hq => by
  unfold Zid at hq; split at hq
  · obtain ⟨h, ss, hq, r1⟩ := Zcu hq
    obtain ⟨s, hq, r⟩ := Zcw hq
    obtain ⟨h1, h2⟩ := Zae hq
    rw [Bool.and_eq_true] at h1
    exact ⟨_, _, .cons r1 (.cons r .nil), Zuj h ss s h1.1 h1.2, rfl, rfl, h2⟩
  · exact hq.elim
def stTr (h : Mh) (ss : List SesD) (v : Bool) (i : Int) : X := ⟨mkT 90 [(1, .c (.rp 2 0 11 0 0)), (2, ab v), (5, ai i)], [(2, .bx 0 11 ((macL 0 h ss).map C.d))], [], []⟩
def Zg4 (h : Mh) (ss : List SesD) : Vw := fun y K => wB y 2 fun v => wI y 5 fun i => K (stTr h ss v i)
theorem Zil (h : Mh) (ss : List SesD) : VwOK (Zg4 h ss) := fun y K h => by
  unfold Zg4 at h
  obtain ⟨v, h⟩ := Zdj h
  obtain ⟨i, h⟩ := Zby h
  exact ⟨_, h⟩
theorem rTr (h : Mh) (ss : List SesD) (v : Bool) (i : Int) (N : X → Prop) (E : Exit → X → Prop) : (Zcc Tryz.prog (hkA band bor [(71, sB lab)] []) Tryz.f27 2 [] [1, 2, 5] [2] (Zg4 h ss) (fun _ => Zg4 h ss) N E (stTr h ss v i)) = (bif decide (i < @Nat.cast Int _ (List.length h.tr)) then bif decide (0 ≤ i) && decide (i < @Nat.cast Int _ (List.length h.tr)) then bif isJ [IntKind.i64] (List.drop (1) (List.getD h.tr (Int.toNat i) [])) then bif !lab (hdJ (List.drop (1) (List.getD h.tr (Int.toNat i) []))) then stTr h ss false i = stTr h ss false i ∧ E Exit.ret (stTr h ss false i) else stTr h ss v (IntKind.wrap IntKind.i64 (i + 1)) = stTr h ss v (IntKind.wrap IntKind.i64 (i + 1)) ∧ N (stTr h ss v (IntKind.wrap IntKind.i64 (i + 1))) else False else False else stTr h ss v i = stTr h ss v i ∧ E (Exit.exit (4)) (stTr h ss v i)) := by kernel_rfl
def Mh.on (h : Mh) (t : List (List Int)) : Mh := { h with tr := mZ t }
def fTr (h : Mh) (ss : List SesD) (t : List (List Int)) : LSum := ZcU [1, 2, 5] [2] (fun i => stTr (h.on t) ss false i) (fun i => stTr (h.on t) ss false i) t.length (fun i => noEv (t.getD i [])) .ret (.exit 4)
theorem kTr {h : Mh} {ss : List SesD} {t : List (List Int)} (hw : wid 4 t) (hn : t.length ≤ 9223372036854775807) (Q : Exit → X → Prop) (x : X) (hq : fTr h ss t Q x) : XWP Tryz.prog (.loop (Zan Tryz.f27 2)) Q x := by
  refine Zcm (sw := []) (V := Zg4 (h.on t) ss) (VE := fun _ => Zg4 (h.on t) ss) mixed (Zil (h.on t) ss) (fun _ => Zil (h.on t) ss) _ _ _ _ _ _ (fun i hl => ⟨hkA band bor [(71, sB lab)] [], ZaI (.cons Zl2 .nil), Zah rfl, fun N E h1 h2 => ?_⟩) ⟨hkA band bor [(71, sB lab)] [], ZaI (.cons Zl2 .nil), Zah rfl, fun N E h1 => ?_⟩ Q x hq
  · rw [rTr]
    have wi : IntKind.wrap .i64 ((i : Int) + 1) = ((i + 1 : Nat) : Int) := Zat (n := 1) (by omega)
    have a1 : isJ [IntKind.i64] (List.drop 1 ((mZ t).getD i [])) = true := Zav (j := 1) (n := 1) hw hl (by omega)
    simp only [Mh.on, Zaf, Int.ofNat_lt, hl, decide_true, cond_true, Int.natCast_nonneg, Bool.and_self, Int.toNat_natCast, a1, Zci, true_and, wi] at h1 h2 ⊢
    unfold noEv at h1 h2
    generalize lab ((t.getD i []).getD 1 0) = u at h1 h2 ⊢
    cases u <;> simp only [cond_true, cond_false, Bool.not_true, Bool.not_false, forall_const, reduceCtorEq, false_implies] at h1 h2 ⊢ <;> first | exact h1 | exact h2 | exact h1 trivial | exact h2 trivial
  · rw [rTr]
    simp only [Mh.on, Zaf, Int.ofNat_lt, Nat.lt_irrefl, decide_false, cond_false, true_and]
    exact h1
theorem ZuE (h : Mh) (t : List (List Int)) (K : DV → Prop) : (askL Tryz.prog [(68, Zcp), (69, sB clk), (56, sUp), (70, Zid)] [(14, fTr h [] t)] Tryz.f27 [.agg (macL 0 (h.on t) [])] K) = (bif okA h.w0 h.w1 h.w2 h.w3 then bif !amay (toZ h.w0) (toZ h.w1) (toZ h.w2) (toZ h.w3) then K (DV.c (D.v (Value.bool false))) else bif !clk h.ce then K (DV.c (D.v (Value.bool false))) else bif decide (@Nat.cast Int _ (List.length (mZ t)) > 512) then K (DV.c (D.v (Value.bool false))) else bif !upto h.c0 (0) h.ce then K (DV.c (D.v (Value.bool false))) else bif !upto h.c1 (0) h.ce then K (DV.c (D.v (Value.bool false))) else bif !upto h.c2 (0) h.ce then K (DV.c (D.v (Value.bool false))) else bif !upto h.c3 (0) h.ce then K (DV.c (D.v (Value.bool false))) else stTr { w0 := h.w0, w1 := h.w1, w2 := h.w2, w3 := h.w3, c0 := h.c0, c1 := h.c1, c2 := h.c2, c3 := h.c3, ce := h.ce, tr := mZ t } [] false (0) = stTr { w0 := h.w0, w1 := h.w1, w2 := h.w2, w3 := h.w3, c0 := h.c0, c1 := h.c1, c2 := h.c2, c3 := h.c3, ce := h.ce, tr := mZ t } [] false (0) ∧ (∀ (i : Nat), firstAt (fun i => noEv (List.getD t i [])) (List.length t) i → K (DV.c (D.v (Value.bool false)))) ∧ (noneTo (fun i => noEv (List.getD t i [])) (List.length t) → K (DV.c (D.v (Value.bool true)))) else False) := by kernel_rfl
theorem ZtS (h : Mh) (s0 : SesD) (t : List (List Int)) (K : DV → Prop) : (askL Tryz.prog [(68, Zcp), (69, sB clk), (56, sUp), (70, Zid)] [(14, fTr h [s0] t)] Tryz.f27 [.agg (macL 0 (h.on t) [s0])] K) = (bif okA h.w0 h.w1 h.w2 h.w3 then bif !amay (toZ h.w0) (toZ h.w1) (toZ h.w2) (toZ h.w3) then K (DV.c (D.v (Value.bool false))) else bif !clk h.ce then K (DV.c (D.v (Value.bool false))) else bif decide (@Nat.cast Int _ (List.length (mZ t)) > 512) then K (DV.c (D.v (Value.bool false))) else bif !upto h.c0 (0) h.ce then K (DV.c (D.v (Value.bool false))) else bif !upto h.c1 (0) h.ce then K (DV.c (D.v (Value.bool false))) else bif !upto h.c2 (0) h.ce then K (DV.c (D.v (Value.bool false))) else bif !upto h.c3 (0) h.ce then K (DV.c (D.v (Value.bool false))) else bif okA h.w0 h.w1 h.w2 h.w3 && Zaz s0 then bif !Zai h.w0 h.w1 h.w2 h.w3 s0 then K (DV.c (D.v (Value.bool false))) else stTr { w0 := h.w0, w1 := h.w1, w2 := h.w2, w3 := h.w3, c0 := h.c0, c1 := h.c1, c2 := h.c2, c3 := h.c3, ce := h.ce, tr := mZ t } [s0] false (0) = stTr { w0 := h.w0, w1 := h.w1, w2 := h.w2, w3 := h.w3, c0 := h.c0, c1 := h.c1, c2 := h.c2, c3 := h.c3, ce := h.ce, tr := mZ t } [s0] false (0) ∧ (∀ (i : Nat), firstAt (fun i => noEv (List.getD t i [])) (List.length t) i → K (DV.c (D.v (Value.bool false)))) ∧ (noneTo (fun i => noEv (List.getD t i [])) (List.length t) → K (DV.c (D.v (Value.bool true)))) else False else False) := by kernel_rfl
theorem Ztt (h : Mh) (s0 s1 : SesD) (t : List (List Int)) (K : DV → Prop) : (askL Tryz.prog [(68, Zcp), (69, sB clk), (56, sUp), (70, Zid)] [(14, fTr h [s0, s1] t)] Tryz.f27 [.agg (macL 0 (h.on t) [s0, s1])] K) = (bif okA h.w0 h.w1 h.w2 h.w3 then bif !amay (toZ h.w0) (toZ h.w1) (toZ h.w2) (toZ h.w3) then K (DV.c (D.v (Value.bool false))) else bif !clk h.ce then K (DV.c (D.v (Value.bool false))) else bif decide (@Nat.cast Int _ (List.length (mZ t)) > 512) then K (DV.c (D.v (Value.bool false))) else bif !upto h.c0 (0) h.ce then K (DV.c (D.v (Value.bool false))) else bif !upto h.c1 (0) h.ce then K (DV.c (D.v (Value.bool false))) else bif !upto h.c2 (0) h.ce then K (DV.c (D.v (Value.bool false))) else bif !upto h.c3 (0) h.ce then K (DV.c (D.v (Value.bool false))) else bif okA h.w0 h.w1 h.w2 h.w3 && Zaz s0 then bif !Zai h.w0 h.w1 h.w2 h.w3 s0 then K (DV.c (D.v (Value.bool false))) else bif okA h.w0 h.w1 h.w2 h.w3 && Zaz s1 then bif !Zai h.w0 h.w1 h.w2 h.w3 s1 then K (DV.c (D.v (Value.bool false))) else bif decide (s1.id ≤ s0.id) then K (DV.c (D.v (Value.bool false))) else stTr { w0 := h.w0, w1 := h.w1, w2 := h.w2, w3 := h.w3, c0 := h.c0, c1 := h.c1, c2 := h.c2, c3 := h.c3, ce := h.ce, tr := mZ t } [s0, s1] false (0) = stTr { w0 := h.w0, w1 := h.w1, w2 := h.w2, w3 := h.w3, c0 := h.c0, c1 := h.c1, c2 := h.c2, c3 := h.c3, ce := h.ce, tr := mZ t } [s0, s1] false (0) ∧ (∀ (i : Nat), firstAt (fun i => noEv (List.getD t i [])) (List.length t) i → K (DV.c (D.v (Value.bool false)))) ∧ (noneTo (fun i => noEv (List.getD t i [])) (List.length t) → K (DV.c (D.v (Value.bool true)))) else False else False else False) := by kernel_rfl
theorem ZtU (h : Mh) (s0 s1 s2 : SesD) (t : List (List Int)) (K : DV → Prop) : (askL Tryz.prog [(68, Zcp), (69, sB clk), (56, sUp), (70, Zid)] [(14, fTr h [s0, s1, s2] t)] Tryz.f27 [.agg (macL 0 (h.on t) [s0, s1, s2])] K) = (bif okA h.w0 h.w1 h.w2 h.w3 then bif !amay (toZ h.w0) (toZ h.w1) (toZ h.w2) (toZ h.w3) then K (DV.c (D.v (Value.bool false))) else bif !clk h.ce then K (DV.c (D.v (Value.bool false))) else bif decide (@Nat.cast Int _ (List.length (mZ t)) > 512) then K (DV.c (D.v (Value.bool false))) else bif !upto h.c0 (0) h.ce then K (DV.c (D.v (Value.bool false))) else bif !upto h.c1 (0) h.ce then K (DV.c (D.v (Value.bool false))) else bif !upto h.c2 (0) h.ce then K (DV.c (D.v (Value.bool false))) else bif !upto h.c3 (0) h.ce then K (DV.c (D.v (Value.bool false))) else bif okA h.w0 h.w1 h.w2 h.w3 && Zaz s0 then bif !Zai h.w0 h.w1 h.w2 h.w3 s0 then K (DV.c (D.v (Value.bool false))) else bif okA h.w0 h.w1 h.w2 h.w3 && Zaz s1 then bif !Zai h.w0 h.w1 h.w2 h.w3 s1 then K (DV.c (D.v (Value.bool false))) else bif decide (s1.id ≤ s0.id) then K (DV.c (D.v (Value.bool false))) else bif okA h.w0 h.w1 h.w2 h.w3 && Zaz s2 then bif !Zai h.w0 h.w1 h.w2 h.w3 s2 then K (DV.c (D.v (Value.bool false))) else bif decide (s2.id ≤ s1.id) then K (DV.c (D.v (Value.bool false))) else stTr { w0 := h.w0, w1 := h.w1, w2 := h.w2, w3 := h.w3, c0 := h.c0, c1 := h.c1, c2 := h.c2, c3 := h.c3, ce := h.ce, tr := mZ t } [s0, s1, s2] false (0) = stTr { w0 := h.w0, w1 := h.w1, w2 := h.w2, w3 := h.w3, c0 := h.c0, c1 := h.c1, c2 := h.c2, c3 := h.c3, ce := h.ce, tr := mZ t } [s0, s1, s2] false (0) ∧ (∀ (i : Nat), firstAt (fun i => noEv (List.getD t i [])) (List.length t) i → K (DV.c (D.v (Value.bool false)))) ∧ (noneTo (fun i => noEv (List.getD t i [])) (List.length t) → K (DV.c (D.v (Value.bool true)))) else False else False else False else False) := by kernel_rfl
theorem ZuX (h : Mh) (s0 s1 s2 s3 : SesD) (t : List (List Int)) (K : DV → Prop) : (askL Tryz.prog [(68, Zcp), (69, sB clk), (56, sUp), (70, Zid)] [(14, fTr h [s0, s1, s2, s3] t)] Tryz.f27 [.agg (macL 0 (h.on t) [s0, s1, s2, s3])] K) = (bif okA h.w0 h.w1 h.w2 h.w3 then bif !amay (toZ h.w0) (toZ h.w1) (toZ h.w2) (toZ h.w3) then K (DV.c (D.v (Value.bool false))) else bif !clk h.ce then K (DV.c (D.v (Value.bool false))) else bif decide (@Nat.cast Int _ (List.length (mZ t)) > 512) then K (DV.c (D.v (Value.bool false))) else bif !upto h.c0 (0) h.ce then K (DV.c (D.v (Value.bool false))) else bif !upto h.c1 (0) h.ce then K (DV.c (D.v (Value.bool false))) else bif !upto h.c2 (0) h.ce then K (DV.c (D.v (Value.bool false))) else bif !upto h.c3 (0) h.ce then K (DV.c (D.v (Value.bool false))) else bif okA h.w0 h.w1 h.w2 h.w3 && Zaz s0 then bif !Zai h.w0 h.w1 h.w2 h.w3 s0 then K (DV.c (D.v (Value.bool false))) else bif okA h.w0 h.w1 h.w2 h.w3 && Zaz s1 then bif !Zai h.w0 h.w1 h.w2 h.w3 s1 then K (DV.c (D.v (Value.bool false))) else bif decide (s1.id ≤ s0.id) then K (DV.c (D.v (Value.bool false))) else bif okA h.w0 h.w1 h.w2 h.w3 && Zaz s2 then bif !Zai h.w0 h.w1 h.w2 h.w3 s2 then K (DV.c (D.v (Value.bool false))) else bif decide (s2.id ≤ s1.id) then K (DV.c (D.v (Value.bool false))) else bif okA h.w0 h.w1 h.w2 h.w3 && Zaz s3 then bif !Zai h.w0 h.w1 h.w2 h.w3 s3 then K (DV.c (D.v (Value.bool false))) else bif decide (s3.id ≤ s2.id) then K (DV.c (D.v (Value.bool false))) else stTr { w0 := h.w0, w1 := h.w1, w2 := h.w2, w3 := h.w3, c0 := h.c0, c1 := h.c1, c2 := h.c2, c3 := h.c3, ce := h.ce, tr := mZ t } [s0, s1, s2, s3] false (0) = stTr { w0 := h.w0, w1 := h.w1, w2 := h.w2, w3 := h.w3, c0 := h.c0, c1 := h.c1, c2 := h.c2, c3 := h.c3, ce := h.ce, tr := mZ t } [s0, s1, s2, s3] false (0) ∧ (∀ (i : Nat), firstAt (fun i => noEv (List.getD t i [])) (List.length t) i → K (DV.c (D.v (Value.bool false)))) ∧ (noneTo (fun i => noEv (List.getD t i [])) (List.length t) → K (DV.c (D.v (Value.bool true)))) else False else False else False else False else False) := by kernel_rfl
theorem Zu9 (h : Mh) (ss : List SesD) (K : DV → Prop) : (askL Tryz.prog [(68, Zcp), (69, sB clk), (56, sUp)] [(4, fun _ _ => False)] Tryz.f27 [.agg (macL 0 h ss)] K) = (bif okA h.w0 h.w1 h.w2 h.w3 then bif !amay (toZ h.w0) (toZ h.w1) (toZ h.w2) (toZ h.w3) then K (DV.c (D.v (Value.bool false))) else bif !clk h.ce then K (DV.c (D.v (Value.bool false))) else bif decide (@Nat.cast Int _ (List.length (List.map (sesL (0)) ss)) > 4) then K (DV.c (D.v (Value.bool false))) else bif decide (@Nat.cast Int _ (List.length h.tr) > 512) then K (DV.c (D.v (Value.bool false))) else False else False) := by kernel_rfl
end

section
open Go Go.Proofs
theorem Zqu (a b e : Int) : decide (mx a b > e) = (decide (a > e) || decide (b > e)) := by
  rw [Bool.eq_iff_iff]
  simp only [Bool.or_eq_true, decide_eq_true_eq]
  unfold mx
  split <;> omega
theorem Znv (c0 c1 c2 c3 e : Int) : ((ck4 c0 c1 c2 c3 && clk e) && !decide (mx4 c0 c1 c2 c3 > e)) = (clk e && (upto c0 0 e && (upto c1 0 e && (upto c2 0 e && upto c3 0 e)))) := by
  unfold mx4
  rw [Zqu, Zqu, Zqu, Bool.eq_iff_iff]
  unfold ck4 clk upto
  simp only [Bool.and_eq_true, Bool.not_eq_true', Bool.or_eq_false_iff, decide_eq_true_eq, decide_eq_false_iff_not]
  omega
theorem ZiL (a b : Int) : (!decide (a ≥ b)) = !decide (b ≤ a) := rfl
theorem bN {p : Bool} {R : Prop} {q : Bool} (h : p = true → R) (h2 : p = false → q = false) : bif !p then (DV.c (.v (.bool false)) = B q) else R := by
  cases p
  · rw [h2 rfl]; rfl
  · exact h rfl
theorem bP {p : Bool} {R : Prop} {q : Bool} (h : p = false → R) (h2 : p = true → q = false) : bif p then (DV.c (.v (.bool false)) = B q) else R := by
  cases p
  · exact h rfl
  · rw [h2 rfl]; rfl
theorem bO {p : Bool} {R : Prop} (hp : p = true) (h : R) : bif p then R else False := by rw [hp]; exact h
theorem bT {T : Prop} {t : List (List Int)} {q : Bool} (hT : T) (h1 : t.any noEv = true → q = false) (h2 : t.any noEv = false → q = true) : T ∧ (∀ i : Nat, firstAt (fun i => noEv (List.getD t i [])) (List.length t) i → (DV.c (.v (.bool false)) = B q)) ∧ (noneTo (fun i => noEv (List.getD t i [])) (List.length t) → (DV.c (.v (.bool true)) = B q)) :=
  ⟨hT, fun i hi => by rw [h1 hi.any], fun hn => by rw [h2 hn.any]⟩
theorem ZrQ {P : Program} {l : List (FuncId × Spec)} {fn : Func} {k1 k2 k3 : Nat} {s3 : LSum} (hn : (Za1 (Zao fn)).length = 3) (e1 : Zbw (Zan fn 0) = k1) (e2 : Zbw (Zan fn 1) = k2) (e3 : Zbw (Zan fn 2) = k3) (n1 : Nat.beq k3 k1 = false) (n2 : Nat.beq k3 k2 = false) (h3 : ∀ Q x, s3 Q x → XWP P (.loop (Zan fn 2)) Q x) : Zas P (hkl l [(k3, s3)]) (Zao fn) :=
  Zdi 3 hn fun i hi s hs Q x hq => by
    match i, hi with
    | 0, _ =>
      rw [e1] at hs
      have hs' : ZcX [(k3, s3)] k1 = some s := hs
      simp only [ZcX, n1] at hs'
      cases hs'
    | 1, _ =>
      rw [e2] at hs
      have hs' : ZcX [(k3, s3)] k2 = some s := hs
      simp only [ZcX, n2] at hs'
      cases hs'
    | 2, _ =>
      rw [e3] at hs
      have hs' : some s3 = some s := by simpa [ZcX, hkl, hkA, Za7] using hs
      cases hs'
      exact h3 Q x hq
theorem ZfS {h : Mh} {ss : List SesD} {t : List (List Int)} (hw : wid 4 t) (hl : t.length ≤ 9223372036854775807) : Zas Tryz.prog (hkl [(68, Zcp), (69, sB clk), (56, sUp), (70, Zid)] [(14, fTr h ss t)]) (Zao Tryz.f27) :=
  ZrQ rfl rfl rfl (by kernel_rfl) (by kernel_rfl) (by kernel_rfl) (fun Q x hq => kTr hw hl Q x hq)
theorem cRMt (h : Mh) (ss : List SesD) (t : List (List Int)) (hA : okA h.w0 h.w1 h.w2 h.w3 = true) (hw : wid 4 t) (hl : t.length ≤ 9223372036854775807) (hs : okSS ss = true) : CT Tryz.prog 27 [.agg (macL 0 (h.on t) ss)] (B (mmay (h.on t) ss)) := by
  have hq : ∀ s ∈ ss, Zaz s = true := List.all_eq_true.1 hs
  rcases ss with _ | ⟨s0, _ | ⟨s1, _ | ⟨s2, _ | ⟨s3, _ | ⟨s4, l⟩⟩⟩⟩⟩
  · 
    have key : mmay (h.on t) [] = (amay (toZ h.w0) (toZ h.w1) (toZ h.w2) (toZ h.w3) && (clk h.ce && (!decide (((mZ t).length : Int) > 512) && (upto h.c0 0 h.ce && (upto h.c1 0 h.ce && (upto h.c2 0 h.ce && (upto h.c3 0 h.ce && !t.any noEv))))))) := by
      show (amay (toZ h.w0) (toZ h.w1) (toZ h.w2) (toZ h.w3) && ((ck4 h.c0 h.c1 h.c2 h.c3 && clk h.ce) && (!decide (mx4 h.c0 h.c1 h.c2 h.c3 > h.ce) && (!decide ((([] : List SesD).length : Int) > 4) && (!decide (((mZ t).length : Int) > 512) && (Zcs [] && (([] : List SesD).all (Zai h.w0 h.w1 h.w2 h.w3) && !(toZ (mZ t)).any noEv))))))) = _
      rw [ZbY, ← Bool.and_assoc (ck4 h.c0 h.c1 h.c2 h.c3 && clk h.ce), Znv]
      simp only [Zcs, List.all_cons, List.all_nil, Bool.and_true, Bool.true_and, ZiL, (by simp : (!decide ((([] : List SesD).length : Int) > 4)) = true)]
      try ac_rfl
    refine Zjf (m := [(14, fTr h [] t)]) (.cons Zfe (.cons Zgm (.cons oUp2 (.cons ZnV .nil)))) mixed (ZfS hw hl) Tryz.func27 rfl rfl rfl ?_
    rw [ZuE]
    refine ⟨?_⟩
    refine bO hA ?_
    refine bN (fun gA => ?_) (fun g => by rw [key, g]; rfl)
    refine bN (fun gC => ?_) (fun g => by rw [key, gA, g]; rfl)
    refine bP (fun gT => ?_) (fun g => by rw [key, gA, gC, g]; rfl)
    refine bN (fun gc0 => ?_) (fun g => by rw [key, gA, gC, gT, g]; simp)
    refine bN (fun gc1 => ?_) (fun g => by rw [key, gA, gC, gT, gc0, g]; simp)
    refine bN (fun gc2 => ?_) (fun g => by rw [key, gA, gC, gT, gc0, gc1, g]; simp)
    refine bN (fun gc3 => ?_) (fun g => by rw [key, gA, gC, gT, gc0, gc1, gc2, g]; simp)
    exact bT rfl (fun g => by rw [key, gA, gC, gT, gc0, gc1, gc2, gc3, g]; rfl) (fun g => by rw [key, gA, gC, gT, gc0, gc1, gc2, gc3, g]; rfl)
  · 
    have q0 : Zaz s0 = true := hq s0 (by simp)
    have key : mmay (h.on t) [s0] = (amay (toZ h.w0) (toZ h.w1) (toZ h.w2) (toZ h.w3) && (clk h.ce && (!decide (((mZ t).length : Int) > 512) && (upto h.c0 0 h.ce && (upto h.c1 0 h.ce && (upto h.c2 0 h.ce && (upto h.c3 0 h.ce && (Zai h.w0 h.w1 h.w2 h.w3 s0 && !t.any noEv)))))))) := by
      show (amay (toZ h.w0) (toZ h.w1) (toZ h.w2) (toZ h.w3) && ((ck4 h.c0 h.c1 h.c2 h.c3 && clk h.ce) && (!decide (mx4 h.c0 h.c1 h.c2 h.c3 > h.ce) && (!decide ((([s0] : List SesD).length : Int) > 4) && (!decide (((mZ t).length : Int) > 512) && (Zcs [s0] && (([s0] : List SesD).all (Zai h.w0 h.w1 h.w2 h.w3) && !(toZ (mZ t)).any noEv))))))) = _
      rw [ZbY, ← Bool.and_assoc (ck4 h.c0 h.c1 h.c2 h.c3 && clk h.ce), Znv]
      simp only [Zcs, List.all_cons, List.all_nil, Bool.and_true, Bool.true_and, ZiL, (by simp : (!decide ((([s0] : List SesD).length : Int) > 4)) = true)]
      try ac_rfl
    refine Zjf (m := [(14, fTr h [s0] t)]) (.cons Zfe (.cons Zgm (.cons oUp2 (.cons ZnV .nil)))) mixed (ZfS hw hl) Tryz.func27 rfl rfl rfl ?_
    rw [ZtS]
    refine ⟨?_⟩
    refine bO hA ?_
    refine bN (fun gA => ?_) (fun g => by rw [key, g]; rfl)
    refine bN (fun gC => ?_) (fun g => by rw [key, gA, g]; rfl)
    refine bP (fun gT => ?_) (fun g => by rw [key, gA, gC, g]; rfl)
    refine bN (fun gc0 => ?_) (fun g => by rw [key, gA, gC, gT, g]; simp)
    refine bN (fun gc1 => ?_) (fun g => by rw [key, gA, gC, gT, gc0, g]; simp)
    refine bN (fun gc2 => ?_) (fun g => by rw [key, gA, gC, gT, gc0, gc1, g]; simp)
    refine bN (fun gc3 => ?_) (fun g => by rw [key, gA, gC, gT, gc0, gc1, gc2, g]; simp)
    refine bO (by rw [hA, q0]; rfl) ?_
    refine bN (fun gs0 => ?_) (fun g => by rw [key, gA, gC, gT, gc0, gc1, gc2, gc3, g]; simp)
    exact bT rfl (fun g => by rw [key, gA, gC, gT, gc0, gc1, gc2, gc3, gs0, g]; rfl) (fun g => by rw [key, gA, gC, gT, gc0, gc1, gc2, gc3, gs0, g]; rfl)
  · 
    have q0 : Zaz s0 = true := hq s0 (by simp)
    have q1 : Zaz s1 = true := hq s1 (by simp)
    have key : mmay (h.on t) [s0, s1] = (amay (toZ h.w0) (toZ h.w1) (toZ h.w2) (toZ h.w3) && (clk h.ce && (!decide (((mZ t).length : Int) > 512) && (upto h.c0 0 h.ce && (upto h.c1 0 h.ce && (upto h.c2 0 h.ce && (upto h.c3 0 h.ce && (Zai h.w0 h.w1 h.w2 h.w3 s0 && (Zai h.w0 h.w1 h.w2 h.w3 s1 && (!decide (s1.id ≤ s0.id) && !t.any noEv)))))))))) := by
      show (amay (toZ h.w0) (toZ h.w1) (toZ h.w2) (toZ h.w3) && ((ck4 h.c0 h.c1 h.c2 h.c3 && clk h.ce) && (!decide (mx4 h.c0 h.c1 h.c2 h.c3 > h.ce) && (!decide ((([s0, s1] : List SesD).length : Int) > 4) && (!decide (((mZ t).length : Int) > 512) && (Zcs [s0, s1] && (([s0, s1] : List SesD).all (Zai h.w0 h.w1 h.w2 h.w3) && !(toZ (mZ t)).any noEv))))))) = _
      rw [ZbY, ← Bool.and_assoc (ck4 h.c0 h.c1 h.c2 h.c3 && clk h.ce), Znv]
      simp only [Zcs, List.all_cons, List.all_nil, Bool.and_true, Bool.true_and, ZiL, (by simp : (!decide ((([s0, s1] : List SesD).length : Int) > 4)) = true)]
      try ac_rfl
    refine Zjf (m := [(14, fTr h [s0, s1] t)]) (.cons Zfe (.cons Zgm (.cons oUp2 (.cons ZnV .nil)))) mixed (ZfS hw hl) Tryz.func27 rfl rfl rfl ?_
    rw [Ztt]
    refine ⟨?_⟩
    refine bO hA ?_
    refine bN (fun gA => ?_) (fun g => by rw [key, g]; rfl)
    refine bN (fun gC => ?_) (fun g => by rw [key, gA, g]; rfl)
    refine bP (fun gT => ?_) (fun g => by rw [key, gA, gC, g]; rfl)
    refine bN (fun gc0 => ?_) (fun g => by rw [key, gA, gC, gT, g]; simp)
    refine bN (fun gc1 => ?_) (fun g => by rw [key, gA, gC, gT, gc0, g]; simp)
    refine bN (fun gc2 => ?_) (fun g => by rw [key, gA, gC, gT, gc0, gc1, g]; simp)
    refine bN (fun gc3 => ?_) (fun g => by rw [key, gA, gC, gT, gc0, gc1, gc2, g]; simp)
    refine bO (by rw [hA, q0]; rfl) ?_
    refine bN (fun gs0 => ?_) (fun g => by rw [key, gA, gC, gT, gc0, gc1, gc2, gc3, g]; simp)
    refine bO (by rw [hA, q1]; rfl) ?_
    refine bN (fun gs1 => ?_) (fun g => by rw [key, gA, gC, gT, gc0, gc1, gc2, gc3, gs0, g]; simp)
    refine bP (fun gi1 => ?_) (fun g => by rw [key, gA, gC, gT, gc0, gc1, gc2, gc3, gs0, gs1, g]; simp)
    exact bT rfl (fun g => by rw [key, gA, gC, gT, gc0, gc1, gc2, gc3, gs0, gs1, gi1, g]; rfl) (fun g => by rw [key, gA, gC, gT, gc0, gc1, gc2, gc3, gs0, gs1, gi1, g]; rfl)
  · 
    have q0 : Zaz s0 = true := hq s0 (by simp)
    have q1 : Zaz s1 = true := hq s1 (by simp)
    have q2 : Zaz s2 = true := hq s2 (by simp)
    have key : mmay (h.on t) [s0, s1, s2] = (amay (toZ h.w0) (toZ h.w1) (toZ h.w2) (toZ h.w3) && (clk h.ce && (!decide (((mZ t).length : Int) > 512) && (upto h.c0 0 h.ce && (upto h.c1 0 h.ce && (upto h.c2 0 h.ce && (upto h.c3 0 h.ce && (Zai h.w0 h.w1 h.w2 h.w3 s0 && (Zai h.w0 h.w1 h.w2 h.w3 s1 && (!decide (s1.id ≤ s0.id) && (Zai h.w0 h.w1 h.w2 h.w3 s2 && (!decide (s2.id ≤ s1.id) && !t.any noEv)))))))))))) := by
      show (amay (toZ h.w0) (toZ h.w1) (toZ h.w2) (toZ h.w3) && ((ck4 h.c0 h.c1 h.c2 h.c3 && clk h.ce) && (!decide (mx4 h.c0 h.c1 h.c2 h.c3 > h.ce) && (!decide ((([s0, s1, s2] : List SesD).length : Int) > 4) && (!decide (((mZ t).length : Int) > 512) && (Zcs [s0, s1, s2] && (([s0, s1, s2] : List SesD).all (Zai h.w0 h.w1 h.w2 h.w3) && !(toZ (mZ t)).any noEv))))))) = _
      rw [ZbY, ← Bool.and_assoc (ck4 h.c0 h.c1 h.c2 h.c3 && clk h.ce), Znv]
      simp only [Zcs, List.all_cons, List.all_nil, Bool.and_true, Bool.true_and, ZiL, (by simp : (!decide ((([s0, s1, s2] : List SesD).length : Int) > 4)) = true)]
      try ac_rfl
    refine Zjf (m := [(14, fTr h [s0, s1, s2] t)]) (.cons Zfe (.cons Zgm (.cons oUp2 (.cons ZnV .nil)))) mixed (ZfS hw hl) Tryz.func27 rfl rfl rfl ?_
    rw [ZtU]
    refine ⟨?_⟩
    refine bO hA ?_
    refine bN (fun gA => ?_) (fun g => by rw [key, g]; rfl)
    refine bN (fun gC => ?_) (fun g => by rw [key, gA, g]; rfl)
    refine bP (fun gT => ?_) (fun g => by rw [key, gA, gC, g]; rfl)
    refine bN (fun gc0 => ?_) (fun g => by rw [key, gA, gC, gT, g]; simp)
    refine bN (fun gc1 => ?_) (fun g => by rw [key, gA, gC, gT, gc0, g]; simp)
    refine bN (fun gc2 => ?_) (fun g => by rw [key, gA, gC, gT, gc0, gc1, g]; simp)
    refine bN (fun gc3 => ?_) (fun g => by rw [key, gA, gC, gT, gc0, gc1, gc2, g]; simp)
    refine bO (by rw [hA, q0]; rfl) ?_
    refine bN (fun gs0 => ?_) (fun g => by rw [key, gA, gC, gT, gc0, gc1, gc2, gc3, g]; simp)
    refine bO (by rw [hA, q1]; rfl) ?_
    refine bN (fun gs1 => ?_) (fun g => by rw [key, gA, gC, gT, gc0, gc1, gc2, gc3, gs0, g]; simp)
    refine bP (fun gi1 => ?_) (fun g => by rw [key, gA, gC, gT, gc0, gc1, gc2, gc3, gs0, gs1, g]; simp)
    refine bO (by rw [hA, q2]; rfl) ?_
    refine bN (fun gs2 => ?_) (fun g => by rw [key, gA, gC, gT, gc0, gc1, gc2, gc3, gs0, gs1, gi1, g]; simp)
    refine bP (fun gi2 => ?_) (fun g => by rw [key, gA, gC, gT, gc0, gc1, gc2, gc3, gs0, gs1, gi1, gs2, g]; simp)
    exact bT rfl (fun g => by rw [key, gA, gC, gT, gc0, gc1, gc2, gc3, gs0, gs1, gi1, gs2, gi2, g]; rfl) (fun g => by rw [key, gA, gC, gT, gc0, gc1, gc2, gc3, gs0, gs1, gi1, gs2, gi2, g]; rfl)
  · 
    have q0 : Zaz s0 = true := hq s0 (by simp)
    have q1 : Zaz s1 = true := hq s1 (by simp)
    have q2 : Zaz s2 = true := hq s2 (by simp)
    have q3 : Zaz s3 = true := hq s3 (by simp)
    have key : mmay (h.on t) [s0, s1, s2, s3] = (amay (toZ h.w0) (toZ h.w1) (toZ h.w2) (toZ h.w3) && (clk h.ce && (!decide (((mZ t).length : Int) > 512) && (upto h.c0 0 h.ce && (upto h.c1 0 h.ce && (upto h.c2 0 h.ce && (upto h.c3 0 h.ce && (Zai h.w0 h.w1 h.w2 h.w3 s0 && (Zai h.w0 h.w1 h.w2 h.w3 s1 && (!decide (s1.id ≤ s0.id) && (Zai h.w0 h.w1 h.w2 h.w3 s2 && (!decide (s2.id ≤ s1.id) && (Zai h.w0 h.w1 h.w2 h.w3 s3 && (!decide (s3.id ≤ s2.id) && !t.any noEv)))))))))))))) := by
      show (amay (toZ h.w0) (toZ h.w1) (toZ h.w2) (toZ h.w3) && ((ck4 h.c0 h.c1 h.c2 h.c3 && clk h.ce) && (!decide (mx4 h.c0 h.c1 h.c2 h.c3 > h.ce) && (!decide ((([s0, s1, s2, s3] : List SesD).length : Int) > 4) && (!decide (((mZ t).length : Int) > 512) && (Zcs [s0, s1, s2, s3] && (([s0, s1, s2, s3] : List SesD).all (Zai h.w0 h.w1 h.w2 h.w3) && !(toZ (mZ t)).any noEv))))))) = _
      rw [ZbY, ← Bool.and_assoc (ck4 h.c0 h.c1 h.c2 h.c3 && clk h.ce), Znv]
      simp only [Zcs, List.all_cons, List.all_nil, Bool.and_true, Bool.true_and, ZiL, (by simp : (!decide ((([s0, s1, s2, s3] : List SesD).length : Int) > 4)) = true)]
      try ac_rfl
    refine Zjf (m := [(14, fTr h [s0, s1, s2, s3] t)]) (.cons Zfe (.cons Zgm (.cons oUp2 (.cons ZnV .nil)))) mixed (ZfS hw hl) Tryz.func27 rfl rfl rfl ?_
    rw [ZuX]
    refine ⟨?_⟩
    refine bO hA ?_
    refine bN (fun gA => ?_) (fun g => by rw [key, g]; rfl)
    refine bN (fun gC => ?_) (fun g => by rw [key, gA, g]; rfl)
    refine bP (fun gT => ?_) (fun g => by rw [key, gA, gC, g]; rfl)
    refine bN (fun gc0 => ?_) (fun g => by rw [key, gA, gC, gT, g]; simp)
    refine bN (fun gc1 => ?_) (fun g => by rw [key, gA, gC, gT, gc0, g]; simp)
    refine bN (fun gc2 => ?_) (fun g => by rw [key, gA, gC, gT, gc0, gc1, g]; simp)
    refine bN (fun gc3 => ?_) (fun g => by rw [key, gA, gC, gT, gc0, gc1, gc2, g]; simp)
    refine bO (by rw [hA, q0]; rfl) ?_
    refine bN (fun gs0 => ?_) (fun g => by rw [key, gA, gC, gT, gc0, gc1, gc2, gc3, g]; simp)
    refine bO (by rw [hA, q1]; rfl) ?_
    refine bN (fun gs1 => ?_) (fun g => by rw [key, gA, gC, gT, gc0, gc1, gc2, gc3, gs0, g]; simp)
    refine bP (fun gi1 => ?_) (fun g => by rw [key, gA, gC, gT, gc0, gc1, gc2, gc3, gs0, gs1, g]; simp)
    refine bO (by rw [hA, q2]; rfl) ?_
    refine bN (fun gs2 => ?_) (fun g => by rw [key, gA, gC, gT, gc0, gc1, gc2, gc3, gs0, gs1, gi1, g]; simp)
    refine bP (fun gi2 => ?_) (fun g => by rw [key, gA, gC, gT, gc0, gc1, gc2, gc3, gs0, gs1, gi1, gs2, g]; simp)
    refine bO (by rw [hA, q3]; rfl) ?_
    refine bN (fun gs3 => ?_) (fun g => by rw [key, gA, gC, gT, gc0, gc1, gc2, gc3, gs0, gs1, gi1, gs2, gi2, g]; simp)
    refine bP (fun gi3 => ?_) (fun g => by rw [key, gA, gC, gT, gc0, gc1, gc2, gc3, gs0, gs1, gi1, gs2, gi2, gs3, g]; simp)
    exact bT rfl (fun g => by rw [key, gA, gC, gT, gc0, gc1, gc2, gc3, gs0, gs1, gi1, gs2, gi2, gs3, gi3, g]; rfl) (fun g => by rw [key, gA, gC, gT, gc0, gc1, gc2, gc3, gs0, gs1, gi1, gs2, gi2, gs3, gi3, g]; rfl)
  · refine Zjf (l := [(68, Zcp), (69, sB clk), (56, sUp)]) (m := [(4, fun _ _ => False)]) (.cons Zfe (.cons Zgm (.cons oUp2 .nil))) mixed Zlw Tryz.func27 rfl rfl rfl ?_
    rw [Zu9]
    refine ⟨?_⟩
    have h6 : mmay (h.on t) (s0 :: s1 :: s2 :: s3 :: s4 :: l) = false := by
      unfold mmay
      rw [(by simp; omega : (!decide (((s0 :: s1 :: s2 :: s3 :: s4 :: l).length : Int) > 4)) = false)]
      simp
    rw [h6]
    refine bO hA (bN (fun _ => bN (fun _ => bP (fun g => ?_) fun _ => rfl) fun _ => rfl) fun _ => rfl)
    simp at g
    omega
theorem cRM (h : Mh) (ss : List SesD) (hok : okM h ss = true) : CT Tryz.prog 27 [.agg (macL 0 h ss)] (B (mmay h ss)) := by
  obtain ⟨h1, h2, h3⟩ := Ze6 hok
  obtain ⟨e, hw, hl⟩ := Zag h2
  have := cRMt h ss (toZ h.tr) h1 hw (by rw [Zau]; exact hl) h3
  have eh : h.on (toZ h.tr) = h := by unfold Mh.on; rw [← e]
  rwa [eh] at this
def sRMm : Spec := fun ds Q => match ds with
  | [d] => macA d fun h ss => cond (okM h ss) (Q (B (mmay h ss))) False
  | _ => False
theorem oRMm : Zad Tryz.prog 27 sRMm := o_al Tryz.func27 (by kernel_rfl) rfl fun ds Q h => by
  unfold sRMm at h; split at h
  · obtain ⟨m, ss, h, r⟩ := Zcu h
    obtain ⟨h1, h2⟩ := Zae h
    exact ⟨_, _, .cons r .nil, cRM m ss h1, rfl, rfl, h2⟩
  · exact h.elim
end

section
open Go Go.Proofs
theorem Zp2 {R : List (List D)} (h : smR 4398046510977 R = true) : allV R = true ∧ decide (R.length * 32 ≤ 140737488355328) = true ∧ decide (R.length ≤ 9223372036854775807) = true ∧ (R.all fun r => r.all D.keeps) = true := by
  obtain ⟨a, b, c⟩ := Zab h
  exact ⟨a, decide_eq_true (by omega), decide_eq_true (by omega), c⟩
theorem ZpV {R : List (List D)} (h : smR 5864062014635 R = true) : allV R = true ∧ decide (R.length * 24 ≤ 140737488355328) = true ∧ decide (R.length ≤ 9223372036854775807) = true ∧ (R.all fun r => r.all D.keeps) = true := by
  obtain ⟨a, b, c⟩ := Zab h
  exact ⟨a, decide_eq_true (by omega), decide_eq_true (by omega), c⟩
theorem Ztw (s : SesD) (K : DV → Prop) : (ask Tryz.prog [] Tryz.f98 [.agg (sesL 0 s)] K) = (bif allV s.pg then bif true && (decide ((0 + List.length s.pg) * 32 ≤ 140737488355328) && decide (0 + List.length s.pg ≤ 9223372036854775807)) then bif allV s.rd then bif true && (decide ((0 + List.length s.rd) * 24 ≤ 140737488355328) && decide (0 + List.length s.rd ≤ 9223372036854775807)) then bif allV s.wt then bif true && (decide ((0 + List.length s.wt) * 24 ≤ 140737488355328) && decide (0 + List.length s.wt ≤ 9223372036854775807)) then bif decide (0 + List.length s.pg ≤ List.length ([] ++ s.pg)) && List.all ([] ++ s.pg) fun r => List.all r D.keeps then bif decide (0 + List.length s.rd ≤ List.length ([] ++ s.rd)) && List.all ([] ++ s.rd) fun r => List.all r D.keeps then bif decide (0 + List.length s.wt ≤ List.length ([] ++ s.wt)) && List.all ([] ++ s.wt) fun r => List.all r D.keeps then K (DV.agg [vN s.id, vN s.lb, vN s.cl, D.s (1) (4) (List.take (0 + List.length s.pg) ([] ++ s.pg)) (List.take (0 + List.length s.pg - (0 + List.length s.pg)) (List.drop (0 + List.length s.pg) ([] ++ s.pg))), vN s.st, vN s.pc, vN s.r0, vN s.r1, vN s.r2, vN s.r3, D.s (1) (3) (List.take (0 + List.length s.rd) ([] ++ s.rd)) (List.take (0 + List.length s.rd - (0 + List.length s.rd)) (List.drop (0 + List.length s.rd) ([] ++ s.rd))), D.s (1) (3) (List.take (0 + List.length s.wt) ([] ++ s.wt)) (List.take (0 + List.length s.wt - (0 + List.length s.wt)) (List.drop (0 + List.length s.wt) ([] ++ s.wt))), vN s.at', vN s.sp, vN s.tr, vN s.rs, vN s.to]) else False else False else False else False else False else False else False else False else False) := by kernel_rfl
theorem Zuo (s : SesD) (hs : smS s = true) : CT Tryz.prog 98 [.agg (sesL 0 s)] (.agg (sesL 1 s)) := by
  obtain ⟨h1, h2, h3⟩ := Zay hs
  obtain ⟨a1, a2, a3, a4⟩ := Zp2 h1
  obtain ⟨b1, b2, b3, b4⟩ := ZpV h2
  obtain ⟨c1, c2, c3, c4⟩ := ZpV h3
  refine ct_s .nil mixed Tryz.func98 rfl rfl rfl ?_
  rw [Ztw]
  refine ⟨?_⟩
  simp only [a1, a2, a3, a4, b1, b2, b3, b4, c1, c2, c3, c4, Nat.zero_add, List.nil_append, List.append_nil, Nat.le_refl, decide_true, Bool.and_self, Bool.true_and, cond_true, ZbO, Nat.add_zero, Nat.sub_self, List.take_zero]
  rfl
theorem ZmF : Zad Tryz.prog 98 ZdS := o_al Tryz.func98 (by kernel_rfl) rfl fun ds Q h => by
  unfold ZdS at h; split at h
  · obtain ⟨s, h, r⟩ := Zcw h
    obtain ⟨h1, h2⟩ := Zae h
    exact ⟨_, _, .cons r .nil, Zuo s h1, Zhf h1, rfl, h2⟩
  · exact h.elim
theorem Zs3 (h : Mh) (K : DV → Prop) : (askH Tryz.prog (hkM [(97, Zca), (98, ZdS)] [] []) Tryz.f58 [.agg (macL 0 h [])] K) = (bif okC4 h.w0 h.w1 h.w2 h.w3 then bif allV h.tr then bif true && (decide ((0 + List.length h.tr) * 32 ≤ 140737488355328) && decide (0 + List.length h.tr ≤ 9223372036854775807)) then bif kX h.w0 then bif kX h.w1 then bif kX h.w2 then bif kX h.w3 then bif decide (0 + List.length h.tr ≤ List.length ([] ++ h.tr)) && List.all ([] ++ h.tr) fun r => List.all r D.keeps then K (DV.agg [D.s (1) (3) (tC h.w0) (tD h.w0), D.s (1) (3) (tC h.w1) (tD h.w1), D.s (1) (3) (tC h.w2) (tD h.w2), D.s (1) (3) (tC h.w3) (tD h.w3), vN h.c0, vN h.c1, vN h.c2, vN h.c3, vN h.ce, nilV, D.s (1) (4) (List.take (0 + List.length h.tr) ([] ++ h.tr)) (List.take (0 + List.length h.tr - (0 + List.length h.tr)) (List.drop (0 + List.length h.tr) ([] ++ h.tr)))]) else False else False else False else False else False else False else False else False) := by kernel_rfl
theorem Zsn (h : Mh) (s0 : SesD) (K : DV → Prop) : (askH Tryz.prog (hkM [(97, Zca), (98, ZdS)] [] []) Tryz.f58 [.agg (macL 0 h [s0])] K) = (bif okC4 h.w0 h.w1 h.w2 h.w3 then bif smS s0 then bif allV h.tr then bif true && (decide ((0 + List.length h.tr) * 32 ≤ 140737488355328) && decide (0 + List.length h.tr ≤ 9223372036854775807)) then bif kX h.w0 then bif kX h.w1 then bif kX h.w2 then bif kX h.w3 then bif kX s0.pg then bif kX s0.rd then bif kX s0.wt then bif decide (0 + List.length h.tr ≤ List.length ([] ++ h.tr)) && List.all ([] ++ h.tr) fun r => List.all r D.keeps then K (DV.agg [D.s (1) (3) (tC h.w0) (tD h.w0), D.s (1) (3) (tC h.w1) (tD h.w1), D.s (1) (3) (tC h.w2) (tD h.w2), D.s (1) (3) (tC h.w3) (tD h.w3), vN h.c0, vN h.c1, vN h.c2, vN h.c3, vN h.ce, D.s (1) (17) [(sTt s0)] [], D.s (1) (4) (List.take (0 + List.length h.tr) ([] ++ h.tr)) (List.take (0 + List.length h.tr - (0 + List.length h.tr)) (List.drop (0 + List.length h.tr) ([] ++ h.tr)))]) else False else False else False else False else False else False else False else False else False else False else False else False) := by kernel_rfl
theorem Zr5 (h : Mh) (s0 s1 : SesD) (K : DV → Prop) : (askH Tryz.prog (hkM [(97, Zca), (98, ZdS)] [] []) Tryz.f58 [.agg (macL 0 h [s0, s1])] K) = (bif okC4 h.w0 h.w1 h.w2 h.w3 then bif smS s0 then bif smS s1 then bif allV h.tr then bif true && (decide ((0 + List.length h.tr) * 32 ≤ 140737488355328) && decide (0 + List.length h.tr ≤ 9223372036854775807)) then bif kX h.w0 then bif kX h.w1 then bif kX h.w2 then bif kX h.w3 then bif kX s0.pg then bif kX s0.rd then bif kX s0.wt then bif kX s1.pg then bif kX s1.rd then bif kX s1.wt then bif decide (0 + List.length h.tr ≤ List.length ([] ++ h.tr)) && List.all ([] ++ h.tr) fun r => List.all r D.keeps then K (DV.agg [D.s (1) (3) (tC h.w0) (tD h.w0), D.s (1) (3) (tC h.w1) (tD h.w1), D.s (1) (3) (tC h.w2) (tD h.w2), D.s (1) (3) (tC h.w3) (tD h.w3), vN h.c0, vN h.c1, vN h.c2, vN h.c3, vN h.ce, D.s (1) (17) [(sTt s0), (sTt s1)] [], D.s (1) (4) (List.take (0 + List.length h.tr) ([] ++ h.tr)) (List.take (0 + List.length h.tr - (0 + List.length h.tr)) (List.drop (0 + List.length h.tr) ([] ++ h.tr)))]) else False else False else False else False else False else False else False else False else False else False else False else False else False else False else False else False) := by kernel_rfl
theorem Zs1 (h : Mh) (s0 s1 s2 : SesD) (K : DV → Prop) : (askH Tryz.prog (hkM [(97, Zca), (98, ZdS)] [] []) Tryz.f58 [.agg (macL 0 h [s0, s1, s2])] K) = (bif okC4 h.w0 h.w1 h.w2 h.w3 then bif smS s0 then bif smS s1 then bif smS s2 then bif allV h.tr then bif true && (decide ((0 + List.length h.tr) * 32 ≤ 140737488355328) && decide (0 + List.length h.tr ≤ 9223372036854775807)) then bif kX h.w0 then bif kX h.w1 then bif kX h.w2 then bif kX h.w3 then bif kX s0.pg then bif kX s0.rd then bif kX s0.wt then bif kX s1.pg then bif kX s1.rd then bif kX s1.wt then bif kX s2.pg then bif kX s2.rd then bif kX s2.wt then bif decide (0 + List.length h.tr ≤ List.length ([] ++ h.tr)) && List.all ([] ++ h.tr) fun r => List.all r D.keeps then K (DV.agg [D.s (1) (3) (tC h.w0) (tD h.w0), D.s (1) (3) (tC h.w1) (tD h.w1), D.s (1) (3) (tC h.w2) (tD h.w2), D.s (1) (3) (tC h.w3) (tD h.w3), vN h.c0, vN h.c1, vN h.c2, vN h.c3, vN h.ce, D.s (1) (17) [(sTt s0), (sTt s1), (sTt s2)] [], D.s (1) (4) (List.take (0 + List.length h.tr) ([] ++ h.tr)) (List.take (0 + List.length h.tr - (0 + List.length h.tr)) (List.drop (0 + List.length h.tr) ([] ++ h.tr)))]) else False else False else False else False else False else False else False else False else False else False else False else False else False else False else False else False else False else False else False else False) := by kernel_rfl
theorem ZsL (h : Mh) (s0 s1 s2 s3 : SesD) (K : DV → Prop) : (askH Tryz.prog (hkM [(97, Zca), (98, ZdS)] [] []) Tryz.f58 [.agg (macL 0 h [s0, s1, s2, s3])] K) = (bif okC4 h.w0 h.w1 h.w2 h.w3 then bif smS s0 then bif smS s1 then bif smS s2 then bif smS s3 then bif allV h.tr then bif true && (decide ((0 + List.length h.tr) * 32 ≤ 140737488355328) && decide (0 + List.length h.tr ≤ 9223372036854775807)) then bif kX h.w0 then bif kX h.w1 then bif kX h.w2 then bif kX h.w3 then bif kX s0.pg then bif kX s0.rd then bif kX s0.wt then bif kX s1.pg then bif kX s1.rd then bif kX s1.wt then bif kX s2.pg then bif kX s2.rd then bif kX s2.wt then bif kX s3.pg then bif kX s3.rd then bif kX s3.wt then bif decide (0 + List.length h.tr ≤ List.length ([] ++ h.tr)) && List.all ([] ++ h.tr) fun r => List.all r D.keeps then K (DV.agg [D.s (1) (3) (tC h.w0) (tD h.w0), D.s (1) (3) (tC h.w1) (tD h.w1), D.s (1) (3) (tC h.w2) (tD h.w2), D.s (1) (3) (tC h.w3) (tD h.w3), vN h.c0, vN h.c1, vN h.c2, vN h.c3, vN h.ce, D.s (1) (17) [(sTt s0), (sTt s1), (sTt s2), (sTt s3)] [], D.s (1) (4) (List.take (0 + List.length h.tr) ([] ++ h.tr)) (List.take (0 + List.length h.tr - (0 + List.length h.tr)) (List.drop (0 + List.length h.tr) ([] ++ h.tr)))]) else False else False else False else False else False else False else False else False else False else False else False else False else False else False else False else False else False else False else False else False else False else False else False else False) := by kernel_rfl
theorem Zuf (h : Mh) (ss : List SesD) (hl : ss.length ≤ 4) (hm : smM h ss = true) : CT Tryz.prog 58 [.agg (macL 0 h ss)] (.agg (macL 1 h ss)) := by
  have h4 := ZpQ hm
  obtain ⟨⟨a0, a1, a2, a3⟩, a4, a5⟩ := ZdX hm
  obtain ⟨_, _, b0⟩ := Zab a0
  obtain ⟨_, _, b1⟩ := Zab a1
  obtain ⟨_, _, b2⟩ := Zab a2
  obtain ⟨_, _, b3⟩ := Zab a3
  obtain ⟨t1, t2, t3, t4⟩ := Zp2 a4
  rcases ss with _ | ⟨s0, _ | ⟨s1, _ | ⟨s2, _ | ⟨s3, _ | ⟨s4, l⟩⟩⟩⟩⟩
  · refine Ztm (.cons ZiM (.cons ZmF .nil)) .nil .nil mixed Tryz.func58 rfl rfl rfl ?_
    rw [Zs3]
    refine ⟨?_⟩
    simp only [kX, tC, tD, sTt]
    simp only [h4, b0, b1, b2, b3, t1, t2, t3, t4, Nat.zero_add, List.nil_append, List.append_nil, Nat.le_refl, decide_true, Bool.and_self, Bool.true_and, cond_true, ZbO, Nat.add_zero, Nat.sub_self, List.take_zero]
    exact .aggO (.cons (.refl _) (.cons (.refl _) (.cons (.refl _) (.cons (.refl _) (.cons (.refl _) (.cons (.refl _) (.cons (.refl _) (.cons (.refl _) (.cons (.refl _) (.cons (.nil 17) (.cons (.refl _) .nil)))))))))))
  · have q0 := a5 s0 (by simp)
    obtain ⟨p0, r0, w0⟩ := Zay q0
    obtain ⟨_, _, x0⟩ := Zab p0
    obtain ⟨_, _, y0⟩ := Zab r0
    obtain ⟨_, _, z0⟩ := Zab w0
    refine ct_m (.cons ZiM (.cons ZmF .nil)) .nil .nil mixed Tryz.func58 rfl rfl rfl ?_
    rw [Zsn]
    refine ⟨?_⟩
    simp only [kX, tC, tD, sTt]
    simp only [h4, b0, b1, b2, b3, t1, t2, t3, t4, q0, x0, y0, z0, Nat.zero_add, List.nil_append, List.append_nil, Nat.le_refl, decide_true, Bool.and_self, Bool.true_and, cond_true, ZbO, Nat.add_zero, Nat.sub_self, List.take_zero]
    rfl
  · have q0 := a5 s0 (by simp)
    obtain ⟨p0, r0, w0⟩ := Zay q0
    obtain ⟨_, _, x0⟩ := Zab p0
    obtain ⟨_, _, y0⟩ := Zab r0
    obtain ⟨_, _, z0⟩ := Zab w0
    have q1 := a5 s1 (by simp)
    obtain ⟨p1, r1, w1⟩ := Zay q1
    obtain ⟨_, _, x1⟩ := Zab p1
    obtain ⟨_, _, y1⟩ := Zab r1
    obtain ⟨_, _, z1⟩ := Zab w1
    refine ct_m (.cons ZiM (.cons ZmF .nil)) .nil .nil mixed Tryz.func58 rfl rfl rfl ?_
    rw [Zr5]
    refine ⟨?_⟩
    simp only [kX, tC, tD, sTt]
    simp only [h4, b0, b1, b2, b3, t1, t2, t3, t4, q0, x0, y0, z0, q1, x1, y1, z1, Nat.zero_add, List.nil_append, List.append_nil, Nat.le_refl, decide_true, Bool.and_self, Bool.true_and, cond_true, ZbO, Nat.add_zero, Nat.sub_self, List.take_zero]
    rfl
  · have q0 := a5 s0 (by simp)
    obtain ⟨p0, r0, w0⟩ := Zay q0
    obtain ⟨_, _, x0⟩ := Zab p0
    obtain ⟨_, _, y0⟩ := Zab r0
    obtain ⟨_, _, z0⟩ := Zab w0
    have q1 := a5 s1 (by simp)
    obtain ⟨p1, r1, w1⟩ := Zay q1
    obtain ⟨_, _, x1⟩ := Zab p1
    obtain ⟨_, _, y1⟩ := Zab r1
    obtain ⟨_, _, z1⟩ := Zab w1
    have q2 := a5 s2 (by simp)
    obtain ⟨p2, r2, w2⟩ := Zay q2
    obtain ⟨_, _, x2⟩ := Zab p2
    obtain ⟨_, _, y2⟩ := Zab r2
    obtain ⟨_, _, z2⟩ := Zab w2
    refine ct_m (.cons ZiM (.cons ZmF .nil)) .nil .nil mixed Tryz.func58 rfl rfl rfl ?_
    rw [Zs1]
    refine ⟨?_⟩
    simp only [kX, tC, tD, sTt]
    simp only [h4, b0, b1, b2, b3, t1, t2, t3, t4, q0, x0, y0, z0, q1, x1, y1, z1, q2, x2, y2, z2, Nat.zero_add, List.nil_append, List.append_nil, Nat.le_refl, decide_true, Bool.and_self, Bool.true_and, cond_true, ZbO, Nat.add_zero, Nat.sub_self, List.take_zero]
    rfl
  · have q0 := a5 s0 (by simp)
    obtain ⟨p0, r0, w0⟩ := Zay q0
    obtain ⟨_, _, x0⟩ := Zab p0
    obtain ⟨_, _, y0⟩ := Zab r0
    obtain ⟨_, _, z0⟩ := Zab w0
    have q1 := a5 s1 (by simp)
    obtain ⟨p1, r1, w1⟩ := Zay q1
    obtain ⟨_, _, x1⟩ := Zab p1
    obtain ⟨_, _, y1⟩ := Zab r1
    obtain ⟨_, _, z1⟩ := Zab w1
    have q2 := a5 s2 (by simp)
    obtain ⟨p2, r2, w2⟩ := Zay q2
    obtain ⟨_, _, x2⟩ := Zab p2
    obtain ⟨_, _, y2⟩ := Zab r2
    obtain ⟨_, _, z2⟩ := Zab w2
    have q3 := a5 s3 (by simp)
    obtain ⟨p3, r3, w3⟩ := Zay q3
    obtain ⟨_, _, x3⟩ := Zab p3
    obtain ⟨_, _, y3⟩ := Zab r3
    obtain ⟨_, _, z3⟩ := Zab w3
    refine ct_m (.cons ZiM (.cons ZmF .nil)) .nil .nil mixed Tryz.func58 rfl rfl rfl ?_
    rw [ZsL]
    refine ⟨?_⟩
    simp only [kX, tC, tD, sTt]
    simp only [h4, b0, b1, b2, b3, t1, t2, t3, t4, q0, x0, y0, z0, q1, x1, y1, z1, q2, x2, y2, z2, q3, x3, y3, z3, Nat.zero_add, List.nil_append, List.append_nil, Nat.le_refl, decide_true, Bool.and_self, Bool.true_and, cond_true, ZbO, Nat.add_zero, Nat.sub_self, List.take_zero]
    rfl
  · simp at hl
theorem Zup : Zad Tryz.prog 58 sCop := o_al Tryz.func58 (by kernel_rfl) rfl fun ds Q h => by
  unfold sCop at h; split at h
  · obtain ⟨m, ss, h, r⟩ := Zcu h
    obtain ⟨h1, h2⟩ := Zae h
    rw [Bool.and_eq_true] at h1
    exact ⟨_, _, .cons r .nil, Zuf m ss (Nat.le_of_ble_eq_true h1.1) h1.2, ZhJ h1.2, rfl, h2⟩
  · exact h.elim
end

section
open Go Go.Proofs
theorem CTN.args {P : Program} {f : FuncId} {ds es : List DV} {r : DV} (h : All2 AL ds es) (hc : CTN P f es r) : CTN P f ds r := fun w vs S G hov => by
  refine hc w vs S G ?_
  cases hov with
  | tup _ _ _ sub h1 h2 h3 h4 =>
    refine .tup vs es S sub (by rw [← h.len]; exact h1) (fun i e hi => ?_) h3 h4
    obtain ⟨d, g1, g2⟩ := h.get hi
    exact g2 _ _ _ _ (h2 i d g1)
theorem Zon {P : Program} {f : FuncId} {s s' : Spec} (hs : Zad P f s) (hd : ∀ ds Q, s' ds Q → ∃ es, All2 AL ds es ∧ s es Q) : Zad P f s' := fun ds Q h => by
  obtain ⟨es, h1, h2⟩ := hd ds Q h
  obtain ⟨hg, r, hc, hp, hf, hq⟩ := hs es Q h2
  exact ⟨hg, r, hc.args h1, .inr (.inr ((ZiP hc hp).args h1)), hf, hq⟩
def Zm6 (cs : List D) (K : List (List D) → List (List D) → List (List D) → List (List D) → Prop) : Prop := match cs with
  | [a, b, c, d] => ZbV 1 a fun a => ZbV 1 b fun b => ZbV 1 c fun c => ZbV 1 d fun d => K a b c d
  | _ => False
theorem ZjK {cs : List D} {K : List (List D) → List (List D) → List (List D) → List (List D) → Prop} (h : Zm6 cs K) : ∃ a b c d, K a b c d ∧ All2 RD cs [.s 0 1 a [], .s 0 1 b [], .s 0 1 c [], .s 0 1 d []] := by
  unfold Zm6 at h
  split at h
  · obtain ⟨a, h, e0⟩ := Zaq h
    obtain ⟨b, h, e1⟩ := Zaq h
    obtain ⟨c, h, e2⟩ := Zaq h
    obtain ⟨d, h, e3⟩ := Zaq h
    exact ⟨a, b, c, d, h, .cons e0 (.cons e1 (.cons e2 (.cons e3 .nil)))⟩
  · exact h.elim
def ZoT : Spec := fun ds Q => match ds with
  | [.agg cs] => cond (Zjx cs) (Zm6 cs fun R0 R1 R2 R3 => cond (okV4 R0 R1 R2 R3) (cond (amay (toZ (mW R0)) (toZ (mW R1)) (toZ (mW R2)) (toZ (mW R3))) (Q (.tup [dO (mW R0) (mW R1) (mW R2) (mW R3), I 0])) (Q (.tup [dNil, I 400]))) False) False
  | _ => False
theorem Zpl : ∀ ds Q, ZoT ds Q → ∃ es, All2 AL ds es ∧ sNew es Q := fun ds Q h => by
  unfold ZoT at h; split at h
  · obtain ⟨h0, h⟩ := Zae h
    obtain ⟨a, b, c, d, h, r⟩ := ZjK h
    exact ⟨_, .cons (.agg r h0 rfl) .nil, h⟩
  · exact h.elim
theorem ZsF : Zad Tryz.prog 50 ZoT := Zon Zum Zpl
def Zom (cs : List D) (K : Int → Int → Int → List (List D) → Prop) : Prop := match cs with
  | [a, b, c, d] => Zbt a fun a => Zbt b fun b => Zbt c fun c => ZbV 4 d fun d => K a b c d
  | _ => False
theorem ZjY {cs : List D} {K : Int → Int → Int → List (List D) → Prop} (h : Zom cs K) : ∃ a b c d, K a b c d ∧ All2 RD cs [vN a, vN b, vN c, .s 0 4 d []] := by
  unfold Zom at h
  split at h
  · obtain ⟨a, h, e0⟩ := Zak h
    obtain ⟨b, h, e1⟩ := Zak h
    obtain ⟨c, h, e2⟩ := Zak h
    obtain ⟨d, h, e3⟩ := Zaq h
    exact ⟨a, b, c, d, h, .cons e0 (.cons e1 (.cons e2 (.cons e3 .nil)))⟩
  · exact h.elim
def Zlq : Spec := fun ds Q => match ds with
  | [.agg cs] => cond (Zjx cs) (Zom cs fun i g c R => cond (okZ 4 R && decide (R.length ≤ 4398046510977)) (cond (smay i g c (toZ R)) (Q (.tup [ZnZ i g c (.s 1 4 R []), I 0])) (Q (.tup [ZnZ 0 0 0 nilD, I 1100]))) False) False
  | _ => False
theorem Zoc : ∀ ds Q, Zlq ds Q → ∃ es, All2 AL ds es ∧ Zp6 es Q := fun ds Q h => by
  unfold Zlq at h; split at h
  · obtain ⟨h0, h⟩ := Zae h
    obtain ⟨a, b, c, d, h, r⟩ := ZjY h
    exact ⟨_, .cons (.agg r h0 rfl) .nil, h⟩
  · exact h.elim
theorem ZqF : Zad Tryz.prog 51 Zlq := Zon ZsQ Zoc
def ZrW : Inl := inlM Tryz.prog [(50, ZoT), (51, Zlq), (27, sRMm)] [] [] Tryz.f21
end

section
open Go Go.Proofs
theorem Zt2 (h : Mh) (ss : List SesD) (at' : Int) (K : DV → Prop) : (ask Tryz.prog [(27, sAtD [.agg (macL 0 h ss)] (B (mmay h ss)))] Tryz.f55 [.agg (macL 0 h ss), I at'] K) = ([DV.agg (macL (0) h ss)] = [DV.agg (macL (0) h ss)] ∧ bif mmay h ss then bif decide (at' ≥ 0) then K (DV.c (D.v (Value.bool (decide (at' < @Nat.cast Int _ (List.length (List.map (sesL (0)) ss))))))) else K (DV.c (D.v (Value.bool false))) else K (DV.c (D.v (Value.bool false)))) := by kernel_rfl
theorem gRM : Goes Tryz.prog 27 := Zar Tryz.func27 (by kernel_rfl) rfl
theorem Zt9 (h : Mh) (ss : List SesD) (i : Int) (hok : okM h ss = true) : CT Tryz.prog 55 [.agg (macL 0 h ss), I i] (B (Zcr h ss i)) := by
  refine ct_s (.cons (oAtD gRM (cRM h ss hok) rfl rfl) .nil) mixed Tryz.func55 rfl rfl rfl ?_
  rw [Zt2]
  refine ⟨rfl, ?_⟩
  unfold Zcr
  rw [List.length_map]
  simp only [bifK]
def Zqk : Spec := fun ds Q => match ds with
  | [d, e] => macA d fun h ss => inA e fun i => cond (okM h ss) (Q (B (Zcr h ss i))) False
  | _ => False
theorem Ztv : Zad Tryz.prog 55 Zqk := o_al Tryz.func55 (by kernel_rfl) rfl fun ds Q h => by
  unfold Zqk at h; split at h
  · obtain ⟨m, ss, h, r⟩ := Zcu h
    obtain ⟨i, h, rfl⟩ := Zk0 h
    obtain ⟨h1, h2⟩ := Zae h
    exact ⟨_, _, .cons r (.cons (.refl _) .nil), Zt9 m ss i h1, rfl, rfl, h2⟩
  · exact h.elim
def iRtl : Inl := inlM Tryz.prog [] [] [] Tryz.f57
theorem ZmV : Zbf Tryz.prog 57 iRtl := Za6 .nil .nil .nil mixed Tryz.func57 rfl (Zar Tryz.func57 (by kernel_rfl) rfl)
end

section
open Go Go.Proofs
def frcI (n : Int) (K : Int → Prop) : Prop := match n with
  | .ofNat m => frcN m fun m => K (.ofNat m)
  | .negSucc m => frcN m fun m => K (.negSucc m)
theorem Zm2 {n : Int} {K : Int → Prop} (h : frcI n K) : K n := by
  unfold frcI at h; split at h
  · exact Za2 h
  · exact Za2 h
def Zpu (f : D → (D → Prop) → Prop) : List D → (List D → Prop) → Prop
  | [], K => K []
  | d :: l, K => f d fun d => Zpu f l fun l => K (d :: l)
def ZpH (f : D → (D → Prop) → Prop) : List (List D) → (List (List D) → Prop) → Prop
  | [], K => K []
  | r :: l, K => Zpu f r fun r => ZpH f l fun l => K (r :: l)
def frcX : Nat → D → (D → Prop) → Prop
  | 0, d, K => K d
  | n + 1, d, K => match d with
    | .s t z rows sp => ZpH (frcX n) rows fun rows => ZpH (frcX n) sp fun sp => K (.s t z rows sp)
    | .v x => match x with
      | .int k i => frcI i fun i => K (.v (.int k i))
      | x => K (.v x)
    | d => K d
theorem Zer {f : D → (D → Prop) → Prop} (hf : ∀ d K, f d K → K d) : ∀ (l : List D) (K : List D → Prop), Zpu f l K → K l
  | [], K, h => h
  | d :: l, K, h => Zer hf l _ (hf d _ h)
theorem Zef {f : D → (D → Prop) → Prop} (hf : ∀ d K, f d K → K d) : ∀ (l : List (List D)) (K : List (List D) → Prop), ZpH f l K → K l
  | [], K, h => h
  | r :: l, K, h => Zef hf l _ (Zer hf r _ h)
theorem Zc3 : ∀ (n : Nat) (d : D) (K : D → Prop), frcX n d K → K d
  | 0, d, K, h => h
  | n + 1, d, K, h => by
    unfold frcX at h; split at h
    · exact Zef (Zc3 n) _ _ (Zef (Zc3 n) _ _ h)
    · split at h
      · exact Zm2 h
      · exact h
    · exact h
def frcV (d : DV) (K : DV → Prop) : Prop := match d with
  | .c d => frcX 3 d fun d => K (.c d)
  | .agg cs => Zpu (frcX 3) cs fun cs => K (.agg cs)
  | .tup [.c d, e] => frcX 3 d fun d => K (.tup [.c d, e])
  | d => K d
theorem Zm0 {d : DV} {K : DV → Prop} (h : frcV d K) : K d := by
  unfold frcV at h; split at h
  · exact Zc3 3 _ _ h
  · exact Zer (Zc3 3) _ _ h
  · exact Zc3 3 _ _ h
  · exact h
def sF (s : Spec) : Spec := fun ds Q => s ds fun r => frcV r Q
theorem oF {P : Program} {f : FuncId} {s : Spec} (h : Zad P f s) : Zad P f (sF s) := fun ds Q hq => by
  obtain ⟨hg, r, hc, hp, hf, hq⟩ := h ds _ hq
  exact ⟨hg, r, hc, hp, hf, Zm0 hq⟩
def ZdK : Inl := Zfz Tryz.prog [34] (sF sCop)
theorem ZbG : Zbf Tryz.prog 58 ZdK := Zch (oF Zup)
def spC : List (FuncId × Spec) := [(55, Zqk), (56, sUp), (146, sUnd), (68, Zcp), (122, sRM), (123, sWMy), (145, sB idm), (164, Zeo), (121, ZoX), (136, sB lab)]
theorem Zbz : SpecsOK Tryz.prog spC := .cons (Ztv) (.cons (oUp2) (.cons (Zr4) (.cons (Zfe) (.cons (oQM) (.cons (oWPy) (.cons (oRId) (.cons (Ziy) (.cons (ZsN) (.cons (Ztd) (.nil))))))))))
def jRT : Inl := inlM Tryz.prog spC [] [] Tryz.f165
theorem Ztb : Zbf Tryz.prog 165 jRT := Za6 Zbz .nil (.nil) mixed Tryz.func165 rfl (Zar Tryz.func165 (by kernel_rfl) rfl)
def Ztr : Inl := inlM Tryz.prog spC [] [(165, jRT)] Tryz.f176
theorem ZoO : Zbf Tryz.prog 176 Ztr := Za6 Zbz .nil (.cons Ztb (.nil)) mixed Tryz.func176 rfl (Zar Tryz.func176 (by kernel_rfl) rfl)
def jWR : Inl := inlM Tryz.prog spC [] [] Tryz.f190
theorem Zsi : Zbf Tryz.prog 190 jWR := Za6 Zbz .nil (.nil) mixed Tryz.func190 rfl (Zar Tryz.func190 (by kernel_rfl) rfl)
def jFW : Inl := inlM Tryz.prog spC [] [] Tryz.f189
theorem ZsZ : Zbf Tryz.prog 189 jFW := Za6 Zbz .nil (.nil) mixed Tryz.func189 rfl (Zar Tryz.func189 (by kernel_rfl) rfl)
def jPl : Inl := inlM Tryz.prog spC [] [] Tryz.f141
theorem ZrN : Zbf Tryz.prog 141 jPl := Za6 Zbz .nil (.nil) mixed Tryz.func141 rfl (Zar Tryz.func141 (by kernel_rfl) rfl)
def jWW : Inl := inlM Tryz.prog spC [] [(141, jPl)] Tryz.f87
theorem Zr7 : Zbf Tryz.prog 87 jWW := Za6 Zbz .nil (.cons ZrN (.nil)) mixed Tryz.func87 rfl (Zar Tryz.func87 (by kernel_rfl) rfl)
def jWA : Inl := inlM Tryz.prog spC [] [] Tryz.f171
theorem Zsf : Zbf Tryz.prog 171 jWA := Za6 Zbz .nil (.nil) mixed Tryz.func171 rfl (Zar Tryz.func171 (by kernel_rfl) rfl)
def jAdd : Inl := inlM Tryz.prog spC [] [] Tryz.f85
theorem ZrI : Zbf Tryz.prog 85 jAdd := Za6 Zbz .nil (.nil) mixed Tryz.func85 rfl (Zar Tryz.func85 (by kernel_rfl) rfl)
def Zin : Inl := inlM Tryz.prog spC [] [] Tryz.f83
theorem ZdQ : Zbf Tryz.prog 83 Zin := Za6 Zbz .nil (.nil) mixed Tryz.func83 rfl (Zar Tryz.func83 (by kernel_rfl) rfl)
def ZnR : Inl := inlM Tryz.prog spC [] [(83, Zin)] Tryz.f167
theorem Zjb : Zbf Tryz.prog 167 ZnR := Za6 Zbz .nil (.cons ZdQ (.nil)) mixed Tryz.func167 rfl (Zar Tryz.func167 (by kernel_rfl) rfl)
def ZpS : Inl := inlM Tryz.prog spC [] [(167, ZnR), (58, ZdK), (57, iRtl), (176, Ztr), (190, jWR), (189, jFW)] Tryz.f169
theorem ZnY : Zbf Tryz.prog 169 ZpS := Za6 Zbz .nil (.cons Zjb (.cons ZbG (.cons ZmV (.cons ZoO (.cons Zsi (.cons ZsZ (.nil))))))) mixed Tryz.func169 rfl (Zar Tryz.func169 (by kernel_rfl) rfl)
def Zp4 : Inl := inlM Tryz.prog spC [] [(83, Zin), (58, ZdK), (57, iRtl), (87, jWW)] Tryz.f39
theorem Znc : Zbf Tryz.prog 39 Zp4 := Za6 Zbz .nil (.cons ZdQ (.cons ZbG (.cons ZmV (.cons Zr7 (.nil))))) mixed Tryz.func39 rfl (Zar Tryz.func39 (by kernel_rfl) rfl)
def ZsE : Inl := inlM Tryz.prog spC [] [(83, Zin), (58, ZdK), (85, jAdd)] Tryz.f34
theorem ZoH : Zbf Tryz.prog 34 ZsE := Za6 Zbz .nil (.cons ZdQ (.cons ZbG (.cons ZrI (.nil)))) mixed Tryz.func34 rfl (Zar Tryz.func34 (by kernel_rfl) rfl)
def jRun : Inl := inlM Tryz.prog spC [] [(83, Zin), (167, ZnR), (169, ZpS), (39, Zp4), (34, ZsE), (58, ZdK), (171, jWA)] Tryz.f128
theorem ZhY : Zbf Tryz.prog 128 jRun := Za6 Zbz .nil (.cons ZdQ (.cons Zjb (.cons ZnY (.cons Znc (.cons ZoH (.cons ZbG (.cons Zsf (.nil)))))))) mixed Tryz.func128 rfl (Zar Tryz.func128 (by kernel_rfl) rfl)
end

section
open Go Go.Proofs
theorem Zta {s : SesD} (hs : Zaz s = true) (h0 : 0 ≤ s.pc) (h1 : s.pc < s.pg.length) : iOK s = true := by
  unfold Zaz at hs
  simp only [Bool.and_eq_true] at hs
  obtain ⟨e, w, _⟩ := Zag hs.1
  have hk : s.pc.toNat < (toZ s.pg).length := by rw [Zau]; omega
  unfold iOK
  rw [e]
  exact Zav (j := 0) (n := 4) w hk (by omega)
theorem ins_eq {s : SesD} (hs : Zaz s = true) : iC s = ((toZ s.pg).getD s.pc.toNat []).getD 0 0 ∧ iA s = ((toZ s.pg).getD s.pc.toNat []).getD 1 0 ∧ iB s = ((toZ s.pg).getD s.pc.toNat []).getD 2 0 ∧ iD s = ((toZ s.pg).getD s.pc.toNat []).getD 3 0 := by
  unfold Zaz at hs
  simp only [Bool.and_eq_true] at hs
  obtain ⟨e, w, _⟩ := Zag hs.1
  have key : ∀ j, hdJ (List.drop j (List.getD s.pg (Int.toNat s.pc) [])) = ((toZ s.pg).getD s.pc.toNat []).getD j 0 := fun j => by
    conv => lhs; rw [e]
    exact Zci _ _ j
  unfold iC iA iB iD
  refine ⟨key 0, ?_, ?_, ?_⟩
  · rw [← key 1]; simp [List.drop_one]
  · rw [← key 2]; simp [List.tail_drop, ← List.drop_one]
  · rw [← key 3]; simp [List.tail_drop, ← List.drop_one]
theorem Zry {s : SesD} (hs : Zaz s = true) {R0 R1 R2 R3 : List (List D)} (hm : Zai R0 R1 R2 R3 s = true) (h1 : s.pc < s.pg.length) : imay (iC s) (iA s) (iB s) (iD s) = true ∧ (iC s = 4 → s.pc < iB s ∧ iB s ≤ s.pg.length) := by
  obtain ⟨e1, e2, e3, e4⟩ := ins_eq hs
  have h0 := (Zfp hm).1
  unfold Zai smay at hm
  simp only [Bool.and_eq_true] at hm
  have hp := hm.1.2.2.2.2
  unfold pmay ZbP at hp
  simp only [Bool.and_eq_true, List.all_eq_true, List.mem_range] at hp
  have := hp.1 s.pc.toNat (by rw [Zau]; omega)
  unfold pI Ztp at this
  rw [← e1, ← e2, ← e3, ← e4] at this
  simp only [Bool.and_eq_true, Bool.not_eq_true', Bool.and_eq_false_iff, Bool.or_eq_false_iff, beq_eq_false_iff_ne, decide_eq_false_iff_not] at this
  refine ⟨this.1, fun h4 => ?_⟩
  rcases this.2 with h | h
  · exact (h h4).elim
  · rw [Zau] at h; omega
theorem ZuJ {n : Int} (h0 : 0 ≤ n) (h1 : n ≤ 1000000) : IntKind.wrap IntKind.i64 (n + 1) = n + 1 := by
  obtain ⟨m, rfl⟩ := Int.eq_ofNat_of_zero_le h0
  exact Zat (n := 1) (by omega)
def Zgo (s : SesD) (a : Int) : Int := bif decide (a = 0) then s.r0 else bif decide (a = 1) then s.r1 else bif decide (a = 2) then s.r2 else s.r3
theorem ZsT {p : Int → Bool} {h : Mh} {ss : List SesD} (i : Int) (hok : okM h ss = true) : mAt p h ss i = true → smM h ss = true ∧ ss.length ≤ 4 := fun hm => by
  unfold mAt at hm
  rw [Bool.and_eq_true] at hm
  exact ZmN i hok hm.1
theorem ZkK {p : Int → Bool} {h : Mh} {ss : List SesD} {i : Int} (hok : okM h ss = true) (hm : mAt p h ss i = true) : ∃ s, Foc h ss i s ∧ s.st = 0 ∧ 0 ≤ s.pc ∧ s.pc < s.pg.length ∧ s.pg.length ≤ 16 ∧ p (iC s) = true := by
  unfold mAt at hm
  rw [Bool.and_eq_true] at hm
  obtain ⟨s, f⟩ := foc hok hm.1
  have h2 := hm.2
  rw [f.at'] at h2
  simp only [atS, Bool.and_eq_true, decide_eq_true_eq, beq_iff_eq] at h2
  refine ⟨s, f, h2.1, (Zfp f.may).1, h2.2.1, ?_, ?_⟩
  · have := f.may
    unfold Zai smay at this
    simp only [Bool.and_eq_true] at this
    have := Zk5 this.1.2.2.2.2
    rwa [Zau] at this
  · have := h2.2.2
    unfold ZkV at this
    unfold iC
    rw [List.drop_zero]; exact this
end

section
open Go Go.Proofs
def Zjk (h : Mh) (a b k v : Int) : Mh := { h with tr := bif decide ((h.tr.length : Int) < 512) then h.tr ++ [[vN a, vN b, vN k, vN v]] else h.tr }
theorem Foc.oev {h : Mh} {ss : List SesD} {i : Int} {s : SesD} (f : Foc h ss i s) (a b c d : Int) : whole (List.length h.tr + 1) (List.take (List.length h.tr) h.tr ++ [[vN a, vN b, vN c, vN d]]) := Znw f.tr rfl
theorem Foc.fo0 {h : Mh} {ss : List SesD} {i : Int} {s : SesD} (f : Foc h ss i s) : Vm.foAt (Int.toNat i) (Int.toNat i) (List.length (List.map (sesL 1) ss)) := f.foAt
theorem ZdU {h : Mh} {ss : List SesD} {i : Int} {s : SesD} (f : Foc h ss i s) (h' : Mh) (e : h'.tr = h.tr) (j : Nat) (s' : SesD) (a b k v : Int) :
    bif decide (@Nat.cast Int _ (List.length h.tr) < 512) then bif decide (List.length h.tr ≤ List.length h.tr) && (decide ((List.length h.tr + 1) * 32 ≤ 140737488355328) && decide (List.length h.tr + 1 ≤ 9223372036854775807)) then AL (DV.tup [DV.agg (Zck (1) { h' with tr := (List.take (List.length h.tr) h.tr ++ [[vN a, vN b, vN k, vN v]]) } (List.set (List.map (sesL (1)) ss) j (sesL (1) s'))), I (0)]) (macR (Zjk h' a b k v) (ss.set j s') 0) else False else AL (DV.tup [DV.agg (Zck (1) h' (List.set (List.map (sesL (1)) ss) j (sesL (1) s'))), I (0)]) (macR (Zjk h' a b k v) (ss.set j s') 0) := by
  unfold Zjk
  rw [e]
  cases hl : decide ((h.tr.length : Int) < 512)
  · have : ({ h' with tr := h.tr } : Mh) = h' := by rw [← e]
    simp only [cond_false, this]
    exact Znd _ _ _ _ _
  · have hl' : h.tr.length < 512 := by have := of_decide_eq_true hl; omega
    rw [decide_eq_true (Nat.le_refl _), decide_eq_true (by omega), decide_eq_true (by omega), List.take_length]
    exact Znd _ _ _ _ _
theorem ZpF (l : List (List Int)) : whole (List.length (mZ l)) (mZ l) := by
  refine ⟨rfl, ?_⟩
  unfold allK mZ
  rw [List.all_map, List.all_eq_true]
  intro r _
  simp only [Function.comp, List.all_map, List.all_eq_true]
  intro n _
  rfl
def ZdW (s : SesD) : SesD := { s with pc := s.pc + 1, wt := mZ (ZaW (toZ s.wt) [iB s, iD s, Zgo s (iA s)]) }
theorem ZsU {c a b d : Int} (h : imay c a b d = true) (hc : c = 0 ∨ c = 1 ∨ c = 2 ∨ c = 3 ∨ c = 4) : a = 0 ∨ a = 1 ∨ a = 2 ∨ a = 3 := by
  refine ZdL ?_
  unfold imay at h
  rcases hc with rfl | rfl | rfl | rfl | rfl <;> simp at h <;> exact h.1
theorem Zs6 (s : SesD) : Zgo s 0 = s.r0 := rfl
theorem Zr8 (s : SesD) : Zgo s 1 = s.r1 := rfl
theorem ZrZ (s : SesD) : Zgo s 2 = s.r2 := rfl
theorem Ztn (s : SesD) : Zgo s 3 = s.r3 := rfl
def ixI (i : Int) (ss : List SesD) : Bool := decide (0 ≤ i) && decide (i < @Nat.cast Int _ (List.length (List.map (sesL 1) ss)))
def foA (i : Int) (ss : List SesD) : Prop := foAt (addN 0 (Int.toNat i)) (Int.toNat i) (List.length (List.map (sesL 1) ss))
def foB (i : Int) (ss : List SesD) : Prop := foAt (Int.toNat i) (Int.toNat i) (List.length (List.map (sesL 1) ss))
def rmT (h : Mh) : Bool := decide (List.length h.tr ≤ List.length h.tr) && (decide ((List.length h.tr + 1) * 32 ≤ 140737488355328) && decide (List.length h.tr + 1 ≤ 9223372036854775807))
def wO (R : List (List D)) : Prop := whole (List.length R) R
def stI (i : Int) (ss : List SesD) (r : List D) : List (List D) := List.set (List.map (sesL 1) ss) (Int.toNat i) r
def wLs (ss : List SesD) (R : List (List D)) : Prop := whole (List.length (List.map (sesL 1) ss)) R
theorem eSto (h : Mh) (ss : List SesD) (s : SesD) (i : Int) (t : Bool) (K : DV → Prop) : (askW Tryz.prog (hkF [(80, sAtD [.c (.p 0 (macL 0 h ss) 0), I i, .c (.s 0 1 [[vi 3]] [])] (B t)), (86, sWth)] [] [(53, iCpF t h ss i s), (54, ZsA)]) Tryz.f38 [.agg (macL 0 h ss), I i] K) = ([DV.c (D.p (0) (macL (0) h ss) (0)), I i, DV.c (D.s (0) (1) [[vi (3)]] [])] = [DV.c (D.p (0) (macL (0) h ss) (0)), I i, DV.c (D.s (0) (1) [[vi (3)]] [])] ∧ bif !t then K (DV.tup [DV.agg mac0, I (1600)]) else t = true ∧ [DV.agg (macL (0) h ss)] = [DV.agg (macL (0) h ss)] ∧ Zjo (List.map (sesL (1)) ss) (Int.toNat i) (1) s ∧ bif ixI i ss then foA i ss ∧ foA i ss ∧ bif decide (0 ≤ s.pc) && decide (s.pc < @Nat.cast Int _ (List.length s.pg)) then bif iOK s then bif decide (iA s = 0) then foA i ss ∧ foA i ss ∧ bif okZ (3) s.wt then foA i ss ∧ foB i ss ∧ whole (List.length (mZ (ZaW (toZ s.wt) [iB s, iD s, s.r0]))) (mZ (ZaW (toZ s.wt) [iB s, iD s, s.r0]) ++ []) ∧ foA i ss ∧ foA i ss ∧ bif decide (@Nat.cast Int _ (List.length h.tr) < 512) then bif ixI i ss then foA i ss ∧ foA i ss ∧ bif rmT h then wO h.w0 ∧ wO h.w1 ∧ wO h.w2 ∧ wO h.w3 ∧ wLs ss (stI i ss (sesL (1) { s with pc := (IntKind.wrap IntKind.i64 (s.pc + 1)), wt := (mZ (ZaW (toZ s.wt) [iB s, iD s, s.r0]) ++ []) })) ∧ whole (List.length h.tr + 1) (List.take (List.length h.tr) h.tr ++ [[vN s.id, vN s.lb, vN (1), vN s.r0]]) ∧ K (DV.tup [DV.agg (Zck (1) { h with tr := (List.take (List.length h.tr) h.tr ++ [[vN s.id, vN s.lb, vN (1), vN s.r0]]) } (stI i ss (sesL (1) { s with pc := (IntKind.wrap IntKind.i64 (s.pc + 1)), wt := (mZ (ZaW (toZ s.wt) [iB s, iD s, s.r0]) ++ []) }))), I (0)]) else False else False else wO h.w0 ∧ wO h.w1 ∧ wO h.w2 ∧ wO h.w3 ∧ wLs ss (stI i ss (sesL (1) { s with pc := (IntKind.wrap IntKind.i64 (s.pc + 1)), wt := (mZ (ZaW (toZ s.wt) [iB s, iD s, s.r0]) ++ []) })) ∧ wO h.tr ∧ K (DV.tup [DV.agg (Zck (1) h (stI i ss (sesL (1) { s with pc := (IntKind.wrap IntKind.i64 (s.pc + 1)), wt := (mZ (ZaW (toZ s.wt) [iB s, iD s, s.r0]) ++ []) }))), I (0)]) else False else bif decide (iA s = 1) then foA i ss ∧ foA i ss ∧ bif okZ (3) s.wt then foA i ss ∧ foB i ss ∧ whole (List.length (mZ (ZaW (toZ s.wt) [iB s, iD s, s.r1]))) (mZ (ZaW (toZ s.wt) [iB s, iD s, s.r1]) ++ []) ∧ foA i ss ∧ foA i ss ∧ bif decide (@Nat.cast Int _ (List.length h.tr) < 512) then bif ixI i ss then foA i ss ∧ foA i ss ∧ bif rmT h then wO h.w0 ∧ wO h.w1 ∧ wO h.w2 ∧ wO h.w3 ∧ wLs ss (stI i ss (sesL (1) { s with pc := (IntKind.wrap IntKind.i64 (s.pc + 1)), wt := (mZ (ZaW (toZ s.wt) [iB s, iD s, s.r1]) ++ []) })) ∧ whole (List.length h.tr + 1) (List.take (List.length h.tr) h.tr ++ [[vN s.id, vN s.lb, vN (1), vN s.r1]]) ∧ K (DV.tup [DV.agg (Zck (1) { h with tr := (List.take (List.length h.tr) h.tr ++ [[vN s.id, vN s.lb, vN (1), vN s.r1]]) } (stI i ss (sesL (1) { s with pc := (IntKind.wrap IntKind.i64 (s.pc + 1)), wt := (mZ (ZaW (toZ s.wt) [iB s, iD s, s.r1]) ++ []) }))), I (0)]) else False else False else wO h.w0 ∧ wO h.w1 ∧ wO h.w2 ∧ wO h.w3 ∧ wLs ss (stI i ss (sesL (1) { s with pc := (IntKind.wrap IntKind.i64 (s.pc + 1)), wt := (mZ (ZaW (toZ s.wt) [iB s, iD s, s.r1]) ++ []) })) ∧ wO h.tr ∧ K (DV.tup [DV.agg (Zck (1) h (stI i ss (sesL (1) { s with pc := (IntKind.wrap IntKind.i64 (s.pc + 1)), wt := (mZ (ZaW (toZ s.wt) [iB s, iD s, s.r1]) ++ []) }))), I (0)]) else False else bif decide (iA s = 2) then foA i ss ∧ foA i ss ∧ bif okZ (3) s.wt then foA i ss ∧ foB i ss ∧ whole (List.length (mZ (ZaW (toZ s.wt) [iB s, iD s, s.r2]))) (mZ (ZaW (toZ s.wt) [iB s, iD s, s.r2]) ++ []) ∧ foA i ss ∧ foA i ss ∧ bif decide (@Nat.cast Int _ (List.length h.tr) < 512) then bif ixI i ss then foA i ss ∧ foA i ss ∧ bif rmT h then wO h.w0 ∧ wO h.w1 ∧ wO h.w2 ∧ wO h.w3 ∧ wLs ss (stI i ss (sesL (1) { s with pc := (IntKind.wrap IntKind.i64 (s.pc + 1)), wt := (mZ (ZaW (toZ s.wt) [iB s, iD s, s.r2]) ++ []) })) ∧ whole (List.length h.tr + 1) (List.take (List.length h.tr) h.tr ++ [[vN s.id, vN s.lb, vN (1), vN s.r2]]) ∧ K (DV.tup [DV.agg (Zck (1) { h with tr := (List.take (List.length h.tr) h.tr ++ [[vN s.id, vN s.lb, vN (1), vN s.r2]]) } (stI i ss (sesL (1) { s with pc := (IntKind.wrap IntKind.i64 (s.pc + 1)), wt := (mZ (ZaW (toZ s.wt) [iB s, iD s, s.r2]) ++ []) }))), I (0)]) else False else False else wO h.w0 ∧ wO h.w1 ∧ wO h.w2 ∧ wO h.w3 ∧ wLs ss (stI i ss (sesL (1) { s with pc := (IntKind.wrap IntKind.i64 (s.pc + 1)), wt := (mZ (ZaW (toZ s.wt) [iB s, iD s, s.r2]) ++ []) })) ∧ wO h.tr ∧ K (DV.tup [DV.agg (Zck (1) h (stI i ss (sesL (1) { s with pc := (IntKind.wrap IntKind.i64 (s.pc + 1)), wt := (mZ (ZaW (toZ s.wt) [iB s, iD s, s.r2]) ++ []) }))), I (0)]) else False else bif decide (iA s = 3) then foA i ss ∧ foA i ss ∧ bif okZ (3) s.wt then foA i ss ∧ foB i ss ∧ whole (List.length (mZ (ZaW (toZ s.wt) [iB s, iD s, s.r3]))) (mZ (ZaW (toZ s.wt) [iB s, iD s, s.r3]) ++ []) ∧ foA i ss ∧ foA i ss ∧ bif decide (@Nat.cast Int _ (List.length h.tr) < 512) then bif ixI i ss then foA i ss ∧ foA i ss ∧ bif rmT h then wO h.w0 ∧ wO h.w1 ∧ wO h.w2 ∧ wO h.w3 ∧ wLs ss (stI i ss (sesL (1) { s with pc := (IntKind.wrap IntKind.i64 (s.pc + 1)), wt := (mZ (ZaW (toZ s.wt) [iB s, iD s, s.r3]) ++ []) })) ∧ whole (List.length h.tr + 1) (List.take (List.length h.tr) h.tr ++ [[vN s.id, vN s.lb, vN (1), vN s.r3]]) ∧ K (DV.tup [DV.agg (Zck (1) { h with tr := (List.take (List.length h.tr) h.tr ++ [[vN s.id, vN s.lb, vN (1), vN s.r3]]) } (stI i ss (sesL (1) { s with pc := (IntKind.wrap IntKind.i64 (s.pc + 1)), wt := (mZ (ZaW (toZ s.wt) [iB s, iD s, s.r3]) ++ []) }))), I (0)]) else False else False else wO h.w0 ∧ wO h.w1 ∧ wO h.w2 ∧ wO h.w3 ∧ wLs ss (stI i ss (sesL (1) { s with pc := (IntKind.wrap IntKind.i64 (s.pc + 1)), wt := (mZ (ZaW (toZ s.wt) [iB s, iD s, s.r3]) ++ []) })) ∧ wO h.tr ∧ K (DV.tup [DV.agg (Zck (1) h (stI i ss (sesL (1) { s with pc := (IntKind.wrap IntKind.i64 (s.pc + 1)), wt := (mZ (ZaW (toZ s.wt) [iB s, iD s, s.r3]) ++ []) }))), I (0)]) else False else False else False else False else False) := by kernel_rfl
theorem Znp {a x : Int} (h : has1 a x = true) : x = a := by
  unfold has1 at h
  cases h1 : x == a
  · simp [h1] at h
  · simpa using h1
theorem Zrk {s : SesD} (h : Zaz s = true) : okZ 4 s.pg = true ∧ okZ 3 s.rd = true ∧ okZ 3 s.wt = true := by
  unfold Zaz at h; simpa [Bool.and_eq_true] using h
def Zcf (h : Mh) (s : SesD) : Mh := Zjk h s.id s.lb 1 (Zgo s (iA s))
theorem cSto (h : Mh) (ss : List SesD) (i : Int) (hok : okM h ss = true) : CT Tryz.prog 38 [.agg (macL 0 h ss), I i] (bif mAt (has1 3) h ss i then macR (Zcf h (ss.getD i.toNat default)) (ss.set i.toNat (ZdW (ss.getD i.toNat default))) 0 else macE 1600) := by
  refine Zrb (.cons (oAtD gAt (cAt1 h ss i 3 hok) rfl rfl) (.cons oWth .nil)) .nil (.cons (Zqy i (ss.getD i.toNat default) (ZsT (p := has1 3) i hok)) (.cons Zpy .nil)) mixed Tryz.func38 rfl rfl rfl ?_
  rw [eSto]
  refine ⟨⟨rfl, ?_⟩⟩
  unfold ixI foA foB wO rmT stI wLs
  cases hm : mAt (has1 3) h ss i with
  | false => exact ZuN 1600
  | true =>
    obtain ⟨s, f, hst, hp0, hp1, hp2, hcode⟩ := ZkK hok hm
    rw [f.getD]
    refine ⟨rfl, rfl, f.row, ?_⟩
    have hpc : (decide (0 ≤ s.pc) && decide (s.pc < @Nat.cast Int _ (List.length s.pg))) = true := by rw [decide_eq_true hp0, decide_eq_true hp1]; rfl
    have hw : IntKind.wrap IntKind.i64 (s.pc + 1) = s.pc + 1 := ZuJ hp0 (by omega)
    simp only [f.ix, cond_true, f.foAt, f.fo0, f.ow0, f.ow1, f.ow2, f.ow3, f.otr, f.oss, f.oev, true_and, hpc, Zta f.ok hp0 hp1, hw, (Zrk f.ok).2.2, List.append_nil, ZpF]
    have hA := ZsU (Zry f.ok f.may hp1).1 (.inr (.inr (.inr (.inl (Znp hcode)))))
    unfold ZdW Zcf
    rcases hA with e | e | e | e <;> rw [e] <;> simp only [Int.reduceEq, decide_true, decide_false, cond_true, cond_false, Zs6, Zr8, ZrZ, Ztn]
    · exact ZdU f h rfl i.toNat { s with pc := s.pc + 1, wt := mZ (ZaW (toZ s.wt) [iB s, iD s, s.r0]) } s.id s.lb 1 s.r0
    · exact ZdU f h rfl i.toNat { s with pc := s.pc + 1, wt := mZ (ZaW (toZ s.wt) [iB s, iD s, s.r1]) } s.id s.lb 1 s.r1
    · exact ZdU f h rfl i.toNat { s with pc := s.pc + 1, wt := mZ (ZaW (toZ s.wt) [iB s, iD s, s.r2]) } s.id s.lb 1 s.r2
    · exact ZdU f h rfl i.toNat { s with pc := s.pc + 1, wt := mZ (ZaW (toZ s.wt) [iB s, iD s, s.r3]) } s.id s.lb 1 s.r3
end

section
open Go Go.Proofs
def bB : SesD := ⟨5, 1, 1, [[vN 2, vN 0, vN 0, vN 1], [vN 3, vN 0, vN 1, vN 0]], 0, 0, 0, 0, 0, 0, [], [], 0, 0, 0, 0, 0⟩
def bA0 : SesD := ⟨3, 0, 3, [[vN 2, vN 0, vN 0, vN 0], [vN 1, vN 0, vN 0, vN 0], [vN 3, vN 0, vN 0, vN 0]], 0, 0, 0, 0, 0, 0, [], [], 0, 0, 0, 0, 0⟩
def bH0 : Mh := ⟨[[vN 5, vN 0, vN 0], [vN 6, vN 0, vN 0]], [[vN 7, vN 0, vN 0]], [], [[vN 9, vN 0, vN 0]], 0, 0, 0, 0, 9, []⟩
def bA1 : SesD := ⟨3, 0, 3, [[vN 2, vN 0, vN 0, vN 0], [vN 1, vN 0, vN 0, vN 0], [vN 3, vN 0, vN 0, vN 0]], 0, 1, 5, 0, 0, 0, [[vN 0, vN 0, vN 0]], [], 0, 0, 0, 0, 0⟩
def bH1 : Mh := ⟨[[vN 5, vN 0, vN 0], [vN 6, vN 0, vN 0]], [[vN 7, vN 0, vN 0]], [], [[vN 9, vN 0, vN 0]], 0, 0, 0, 0, 9, [[vN 3, vN 0, vN 0, vN 5]]⟩
def bA2 : SesD := ⟨3, 0, 3, [[vN 2, vN 0, vN 0, vN 0], [vN 1, vN 0, vN 0, vN 0], [vN 3, vN 0, vN 0, vN 0]], 0, 2, 10, 0, 0, 0, [[vN 0, vN 0, vN 0]], [], 0, 0, 0, 0, 0⟩
def bH2 : Mh := ⟨[[vN 5, vN 0, vN 0], [vN 6, vN 0, vN 0]], [[vN 7, vN 0, vN 0]], [], [[vN 9, vN 0, vN 0]], 0, 0, 0, 0, 9, [[vN 3, vN 0, vN 0, vN 5]]⟩
def bA3 : SesD := ⟨3, 0, 3, [[vN 2, vN 0, vN 0, vN 0], [vN 1, vN 0, vN 0, vN 0], [vN 3, vN 0, vN 0, vN 0]], 0, 3, 10, 0, 0, 0, [[vN 0, vN 0, vN 0]], [[vN 0, vN 0, vN 10]], 0, 0, 0, 0, 0⟩
def bH3 : Mh := ⟨[[vN 5, vN 0, vN 0], [vN 6, vN 0, vN 0]], [[vN 7, vN 0, vN 0]], [], [[vN 9, vN 0, vN 0]], 0, 0, 0, 0, 9, [[vN 3, vN 0, vN 0, vN 5], [vN 3, vN 0, vN 1, vN 10]]⟩
def bA4 : SesD := ⟨3, 0, 3, [[vN 2, vN 0, vN 0, vN 0], [vN 1, vN 0, vN 0, vN 0], [vN 3, vN 0, vN 0, vN 0]], 1, 3, 10, 0, 0, 0, [[vN 0, vN 0, vN 0]], [[vN 0, vN 0, vN 10]], 0, 0, 0, 0, 0⟩
def bH4 : Mh := ⟨[[vN 5, vN 0, vN 0], [vN 6, vN 0, vN 0]], [[vN 7, vN 0, vN 0]], [], [[vN 9, vN 0, vN 0]], 0, 0, 0, 0, 9, [[vN 3, vN 0, vN 0, vN 5], [vN 3, vN 0, vN 1, vN 10]]⟩
theorem eSt1 (K : DV → Prop) : (askH Tryz.prog (hkM spC [] [(58, ZdK), (128, jRun)]) Tryz.f79 [.agg [D.s 0 3 [[D.v (Value.int IntKind.i64 5), D.v (Value.int IntKind.i64 0), D.v (Value.int IntKind.i64 0)], [D.v (Value.int IntKind.i64 6), D.v (Value.int IntKind.i64 0), D.v (Value.int IntKind.i64 0)]] [], D.s 0 3 [[D.v (Value.int IntKind.i64 7), D.v (Value.int IntKind.i64 0), D.v (Value.int IntKind.i64 0)]] [], D.s 0 3 [] [], D.s 0 3 [[D.v (Value.int IntKind.i64 9), D.v (Value.int IntKind.i64 0), D.v (Value.int IntKind.i64 0)]] [], D.v (Value.int IntKind.i64 0), D.v (Value.int IntKind.i64 0), D.v (Value.int IntKind.i64 0), D.v (Value.int IntKind.i64 0), D.v (Value.int IntKind.i64 9), D.s 0 17 [[D.v (Value.int IntKind.i64 3), D.v (Value.int IntKind.i64 0), D.v (Value.int IntKind.i64 3), D.s 0 4 [[D.v (Value.int IntKind.i64 2), D.v (Value.int IntKind.i64 0), D.v (Value.int IntKind.i64 0), D.v (Value.int IntKind.i64 0)], [D.v (Value.int IntKind.i64 1), D.v (Value.int IntKind.i64 0), D.v (Value.int IntKind.i64 0), D.v (Value.int IntKind.i64 0)], [D.v (Value.int IntKind.i64 3), D.v (Value.int IntKind.i64 0), D.v (Value.int IntKind.i64 0), D.v (Value.int IntKind.i64 0)]] [], D.v (Value.int IntKind.i64 0), D.v (Value.int IntKind.i64 0), D.v (Value.int IntKind.i64 0), D.v (Value.int IntKind.i64 0), D.v (Value.int IntKind.i64 0), D.v (Value.int IntKind.i64 0), D.s 0 3 [] [], D.s 0 3 [] [], D.v (Value.int IntKind.i64 0), D.v (Value.int IntKind.i64 0), D.v (Value.int IntKind.i64 0), D.v (Value.int IntKind.i64 0), D.v (Value.int IntKind.i64 0)], [D.v (Value.int IntKind.i64 5), D.v (Value.int IntKind.i64 1), D.v (Value.int IntKind.i64 1), D.s 0 4 [[D.v (Value.int IntKind.i64 2), D.v (Value.int IntKind.i64 0), D.v (Value.int IntKind.i64 0), D.v (Value.int IntKind.i64 1)], [D.v (Value.int IntKind.i64 3), D.v (Value.int IntKind.i64 0), D.v (Value.int IntKind.i64 1), D.v (Value.int IntKind.i64 0)]] [], D.v (Value.int IntKind.i64 0), D.v (Value.int IntKind.i64 0), D.v (Value.int IntKind.i64 0), D.v (Value.int IntKind.i64 0), D.v (Value.int IntKind.i64 0), D.v (Value.int IntKind.i64 0), D.s 0 3 [] [], D.s 0 3 [] [], D.v (Value.int IntKind.i64 0), D.v (Value.int IntKind.i64 0), D.v (Value.int IntKind.i64 0), D.v (Value.int IntKind.i64 0), D.v (Value.int IntKind.i64 0)]] [], D.s 0 4 [] []], I 0] K) = (K (DV.tup [DV.agg (Zck (1) ⟨[[vN (5), vN (0), vN (0)], [vN (6), vN (0), vN (0)]], [[vN (7), vN (0), vN (0)]], [], [[vN (9), vN (0), vN (0)]], (0), (0), (0), (0), (9), [[vN (3), vN (0), vN (0), vN (5)]]⟩ [(sesL (1) ⟨(3), (0), (3), [[vN (2), vN (0), vN (0), vN (0)], [vN (1), vN (0), vN (0), vN (0)], [vN (3), vN (0), vN (0), vN (0)]], (0), (1), (5), (0), (0), (0), [[vN (0), vN (0), vN (0)]], [], (0), (0), (0), (0), (0)⟩), (sesL (1) ⟨(5), (1), (1), [[vN (2), vN (0), vN (0), vN (1)], [vN (3), vN (0), vN (1), vN (0)]], (0), (0), (0), (0), (0), (0), [], [], (0), (0), (0), (0), (0)⟩)]), I (0)])) := by kernel_rfl
theorem cSt1 : CT Tryz.prog 79 [.agg (macL 0 bH0 [bA0, bB]), I 0] (macR bH1 [bA1, bB] 0) := by
  have e : macL 0 bH0 [bA0, bB] = [D.s 0 3 [[D.v (Value.int IntKind.i64 5), D.v (Value.int IntKind.i64 0), D.v (Value.int IntKind.i64 0)], [D.v (Value.int IntKind.i64 6), D.v (Value.int IntKind.i64 0), D.v (Value.int IntKind.i64 0)]] [], D.s 0 3 [[D.v (Value.int IntKind.i64 7), D.v (Value.int IntKind.i64 0), D.v (Value.int IntKind.i64 0)]] [], D.s 0 3 [] [], D.s 0 3 [[D.v (Value.int IntKind.i64 9), D.v (Value.int IntKind.i64 0), D.v (Value.int IntKind.i64 0)]] [], D.v (Value.int IntKind.i64 0), D.v (Value.int IntKind.i64 0), D.v (Value.int IntKind.i64 0), D.v (Value.int IntKind.i64 0), D.v (Value.int IntKind.i64 9), D.s 0 17 [[D.v (Value.int IntKind.i64 3), D.v (Value.int IntKind.i64 0), D.v (Value.int IntKind.i64 3), D.s 0 4 [[D.v (Value.int IntKind.i64 2), D.v (Value.int IntKind.i64 0), D.v (Value.int IntKind.i64 0), D.v (Value.int IntKind.i64 0)], [D.v (Value.int IntKind.i64 1), D.v (Value.int IntKind.i64 0), D.v (Value.int IntKind.i64 0), D.v (Value.int IntKind.i64 0)], [D.v (Value.int IntKind.i64 3), D.v (Value.int IntKind.i64 0), D.v (Value.int IntKind.i64 0), D.v (Value.int IntKind.i64 0)]] [], D.v (Value.int IntKind.i64 0), D.v (Value.int IntKind.i64 0), D.v (Value.int IntKind.i64 0), D.v (Value.int IntKind.i64 0), D.v (Value.int IntKind.i64 0), D.v (Value.int IntKind.i64 0), D.s 0 3 [] [], D.s 0 3 [] [], D.v (Value.int IntKind.i64 0), D.v (Value.int IntKind.i64 0), D.v (Value.int IntKind.i64 0), D.v (Value.int IntKind.i64 0), D.v (Value.int IntKind.i64 0)], [D.v (Value.int IntKind.i64 5), D.v (Value.int IntKind.i64 1), D.v (Value.int IntKind.i64 1), D.s 0 4 [[D.v (Value.int IntKind.i64 2), D.v (Value.int IntKind.i64 0), D.v (Value.int IntKind.i64 0), D.v (Value.int IntKind.i64 1)], [D.v (Value.int IntKind.i64 3), D.v (Value.int IntKind.i64 0), D.v (Value.int IntKind.i64 1), D.v (Value.int IntKind.i64 0)]] [], D.v (Value.int IntKind.i64 0), D.v (Value.int IntKind.i64 0), D.v (Value.int IntKind.i64 0), D.v (Value.int IntKind.i64 0), D.v (Value.int IntKind.i64 0), D.v (Value.int IntKind.i64 0), D.s 0 3 [] [], D.s 0 3 [] [], D.v (Value.int IntKind.i64 0), D.v (Value.int IntKind.i64 0), D.v (Value.int IntKind.i64 0), D.v (Value.int IntKind.i64 0), D.v (Value.int IntKind.i64 0)]] [], D.s 0 4 [] []] := rfl
  rw [e]
  refine ct_m Zbz .nil (.cons ZbG (.cons ZhY .nil)) mixed Tryz.func79 rfl rfl rfl ?_
  rw [eSt1]
  exact ⟨rfl⟩
theorem eSt2 (K : DV → Prop) : (askH Tryz.prog (hkM spC [] [(58, ZdK), (128, jRun)]) Tryz.f79 [.agg [D.s 0 3 [[D.v (Value.int IntKind.i64 5), D.v (Value.int IntKind.i64 0), D.v (Value.int IntKind.i64 0)], [D.v (Value.int IntKind.i64 6), D.v (Value.int IntKind.i64 0), D.v (Value.int IntKind.i64 0)]] [], D.s 0 3 [[D.v (Value.int IntKind.i64 7), D.v (Value.int IntKind.i64 0), D.v (Value.int IntKind.i64 0)]] [], D.s 0 3 [] [], D.s 0 3 [[D.v (Value.int IntKind.i64 9), D.v (Value.int IntKind.i64 0), D.v (Value.int IntKind.i64 0)]] [], D.v (Value.int IntKind.i64 0), D.v (Value.int IntKind.i64 0), D.v (Value.int IntKind.i64 0), D.v (Value.int IntKind.i64 0), D.v (Value.int IntKind.i64 9), D.s 0 17 [[D.v (Value.int IntKind.i64 3), D.v (Value.int IntKind.i64 0), D.v (Value.int IntKind.i64 3), D.s 0 4 [[D.v (Value.int IntKind.i64 2), D.v (Value.int IntKind.i64 0), D.v (Value.int IntKind.i64 0), D.v (Value.int IntKind.i64 0)], [D.v (Value.int IntKind.i64 1), D.v (Value.int IntKind.i64 0), D.v (Value.int IntKind.i64 0), D.v (Value.int IntKind.i64 0)], [D.v (Value.int IntKind.i64 3), D.v (Value.int IntKind.i64 0), D.v (Value.int IntKind.i64 0), D.v (Value.int IntKind.i64 0)]] [], D.v (Value.int IntKind.i64 0), D.v (Value.int IntKind.i64 1), D.v (Value.int IntKind.i64 5), D.v (Value.int IntKind.i64 0), D.v (Value.int IntKind.i64 0), D.v (Value.int IntKind.i64 0), D.s 0 3 [[D.v (Value.int IntKind.i64 0), D.v (Value.int IntKind.i64 0), D.v (Value.int IntKind.i64 0)]] [], D.s 0 3 [] [], D.v (Value.int IntKind.i64 0), D.v (Value.int IntKind.i64 0), D.v (Value.int IntKind.i64 0), D.v (Value.int IntKind.i64 0), D.v (Value.int IntKind.i64 0)], [D.v (Value.int IntKind.i64 5), D.v (Value.int IntKind.i64 1), D.v (Value.int IntKind.i64 1), D.s 0 4 [[D.v (Value.int IntKind.i64 2), D.v (Value.int IntKind.i64 0), D.v (Value.int IntKind.i64 0), D.v (Value.int IntKind.i64 1)], [D.v (Value.int IntKind.i64 3), D.v (Value.int IntKind.i64 0), D.v (Value.int IntKind.i64 1), D.v (Value.int IntKind.i64 0)]] [], D.v (Value.int IntKind.i64 0), D.v (Value.int IntKind.i64 0), D.v (Value.int IntKind.i64 0), D.v (Value.int IntKind.i64 0), D.v (Value.int IntKind.i64 0), D.v (Value.int IntKind.i64 0), D.s 0 3 [] [], D.s 0 3 [] [], D.v (Value.int IntKind.i64 0), D.v (Value.int IntKind.i64 0), D.v (Value.int IntKind.i64 0), D.v (Value.int IntKind.i64 0), D.v (Value.int IntKind.i64 0)]] [], D.s 0 4 [[D.v (Value.int IntKind.i64 3), D.v (Value.int IntKind.i64 0), D.v (Value.int IntKind.i64 0), D.v (Value.int IntKind.i64 5)]] []], I 0] K) = (K (DV.tup [DV.agg (Zck (1) ⟨[[vN (5), vN (0), vN (0)], [vN (6), vN (0), vN (0)]], [[vN (7), vN (0), vN (0)]], [], [[vN (9), vN (0), vN (0)]], (0), (0), (0), (0), (9), [[vN (3), vN (0), vN (0), vN (5)]]⟩ [(sesL (1) ⟨(3), (0), (3), [[vN (2), vN (0), vN (0), vN (0)], [vN (1), vN (0), vN (0), vN (0)], [vN (3), vN (0), vN (0), vN (0)]], (0), (2), (10), (0), (0), (0), [[vN (0), vN (0), vN (0)]], [], (0), (0), (0), (0), (0)⟩), (sesL (1) ⟨(5), (1), (1), [[vN (2), vN (0), vN (0), vN (1)], [vN (3), vN (0), vN (1), vN (0)]], (0), (0), (0), (0), (0), (0), [], [], (0), (0), (0), (0), (0)⟩)]), I (0)])) := by kernel_rfl
theorem cSt2 : CT Tryz.prog 79 [.agg (macL 0 bH1 [bA1, bB]), I 0] (macR bH2 [bA2, bB] 0) := by
  have e : macL 0 bH1 [bA1, bB] = [D.s 0 3 [[D.v (Value.int IntKind.i64 5), D.v (Value.int IntKind.i64 0), D.v (Value.int IntKind.i64 0)], [D.v (Value.int IntKind.i64 6), D.v (Value.int IntKind.i64 0), D.v (Value.int IntKind.i64 0)]] [], D.s 0 3 [[D.v (Value.int IntKind.i64 7), D.v (Value.int IntKind.i64 0), D.v (Value.int IntKind.i64 0)]] [], D.s 0 3 [] [], D.s 0 3 [[D.v (Value.int IntKind.i64 9), D.v (Value.int IntKind.i64 0), D.v (Value.int IntKind.i64 0)]] [], D.v (Value.int IntKind.i64 0), D.v (Value.int IntKind.i64 0), D.v (Value.int IntKind.i64 0), D.v (Value.int IntKind.i64 0), D.v (Value.int IntKind.i64 9), D.s 0 17 [[D.v (Value.int IntKind.i64 3), D.v (Value.int IntKind.i64 0), D.v (Value.int IntKind.i64 3), D.s 0 4 [[D.v (Value.int IntKind.i64 2), D.v (Value.int IntKind.i64 0), D.v (Value.int IntKind.i64 0), D.v (Value.int IntKind.i64 0)], [D.v (Value.int IntKind.i64 1), D.v (Value.int IntKind.i64 0), D.v (Value.int IntKind.i64 0), D.v (Value.int IntKind.i64 0)], [D.v (Value.int IntKind.i64 3), D.v (Value.int IntKind.i64 0), D.v (Value.int IntKind.i64 0), D.v (Value.int IntKind.i64 0)]] [], D.v (Value.int IntKind.i64 0), D.v (Value.int IntKind.i64 1), D.v (Value.int IntKind.i64 5), D.v (Value.int IntKind.i64 0), D.v (Value.int IntKind.i64 0), D.v (Value.int IntKind.i64 0), D.s 0 3 [[D.v (Value.int IntKind.i64 0), D.v (Value.int IntKind.i64 0), D.v (Value.int IntKind.i64 0)]] [], D.s 0 3 [] [], D.v (Value.int IntKind.i64 0), D.v (Value.int IntKind.i64 0), D.v (Value.int IntKind.i64 0), D.v (Value.int IntKind.i64 0), D.v (Value.int IntKind.i64 0)], [D.v (Value.int IntKind.i64 5), D.v (Value.int IntKind.i64 1), D.v (Value.int IntKind.i64 1), D.s 0 4 [[D.v (Value.int IntKind.i64 2), D.v (Value.int IntKind.i64 0), D.v (Value.int IntKind.i64 0), D.v (Value.int IntKind.i64 1)], [D.v (Value.int IntKind.i64 3), D.v (Value.int IntKind.i64 0), D.v (Value.int IntKind.i64 1), D.v (Value.int IntKind.i64 0)]] [], D.v (Value.int IntKind.i64 0), D.v (Value.int IntKind.i64 0), D.v (Value.int IntKind.i64 0), D.v (Value.int IntKind.i64 0), D.v (Value.int IntKind.i64 0), D.v (Value.int IntKind.i64 0), D.s 0 3 [] [], D.s 0 3 [] [], D.v (Value.int IntKind.i64 0), D.v (Value.int IntKind.i64 0), D.v (Value.int IntKind.i64 0), D.v (Value.int IntKind.i64 0), D.v (Value.int IntKind.i64 0)]] [], D.s 0 4 [[D.v (Value.int IntKind.i64 3), D.v (Value.int IntKind.i64 0), D.v (Value.int IntKind.i64 0), D.v (Value.int IntKind.i64 5)]] []] := rfl
  rw [e]
  refine ct_m Zbz .nil (.cons ZbG (.cons ZhY .nil)) mixed Tryz.func79 rfl rfl rfl ?_
  rw [eSt2]
  exact ⟨rfl⟩
theorem eSt3 (K : DV → Prop) : (askH Tryz.prog (hkM spC [] [(58, ZdK), (128, jRun)]) Tryz.f79 [.agg [D.s 0 3 [[D.v (Value.int IntKind.i64 5), D.v (Value.int IntKind.i64 0), D.v (Value.int IntKind.i64 0)], [D.v (Value.int IntKind.i64 6), D.v (Value.int IntKind.i64 0), D.v (Value.int IntKind.i64 0)]] [], D.s 0 3 [[D.v (Value.int IntKind.i64 7), D.v (Value.int IntKind.i64 0), D.v (Value.int IntKind.i64 0)]] [], D.s 0 3 [] [], D.s 0 3 [[D.v (Value.int IntKind.i64 9), D.v (Value.int IntKind.i64 0), D.v (Value.int IntKind.i64 0)]] [], D.v (Value.int IntKind.i64 0), D.v (Value.int IntKind.i64 0), D.v (Value.int IntKind.i64 0), D.v (Value.int IntKind.i64 0), D.v (Value.int IntKind.i64 9), D.s 0 17 [[D.v (Value.int IntKind.i64 3), D.v (Value.int IntKind.i64 0), D.v (Value.int IntKind.i64 3), D.s 0 4 [[D.v (Value.int IntKind.i64 2), D.v (Value.int IntKind.i64 0), D.v (Value.int IntKind.i64 0), D.v (Value.int IntKind.i64 0)], [D.v (Value.int IntKind.i64 1), D.v (Value.int IntKind.i64 0), D.v (Value.int IntKind.i64 0), D.v (Value.int IntKind.i64 0)], [D.v (Value.int IntKind.i64 3), D.v (Value.int IntKind.i64 0), D.v (Value.int IntKind.i64 0), D.v (Value.int IntKind.i64 0)]] [], D.v (Value.int IntKind.i64 0), D.v (Value.int IntKind.i64 2), D.v (Value.int IntKind.i64 10), D.v (Value.int IntKind.i64 0), D.v (Value.int IntKind.i64 0), D.v (Value.int IntKind.i64 0), D.s 0 3 [[D.v (Value.int IntKind.i64 0), D.v (Value.int IntKind.i64 0), D.v (Value.int IntKind.i64 0)]] [], D.s 0 3 [] [], D.v (Value.int IntKind.i64 0), D.v (Value.int IntKind.i64 0), D.v (Value.int IntKind.i64 0), D.v (Value.int IntKind.i64 0), D.v (Value.int IntKind.i64 0)], [D.v (Value.int IntKind.i64 5), D.v (Value.int IntKind.i64 1), D.v (Value.int IntKind.i64 1), D.s 0 4 [[D.v (Value.int IntKind.i64 2), D.v (Value.int IntKind.i64 0), D.v (Value.int IntKind.i64 0), D.v (Value.int IntKind.i64 1)], [D.v (Value.int IntKind.i64 3), D.v (Value.int IntKind.i64 0), D.v (Value.int IntKind.i64 1), D.v (Value.int IntKind.i64 0)]] [], D.v (Value.int IntKind.i64 0), D.v (Value.int IntKind.i64 0), D.v (Value.int IntKind.i64 0), D.v (Value.int IntKind.i64 0), D.v (Value.int IntKind.i64 0), D.v (Value.int IntKind.i64 0), D.s 0 3 [] [], D.s 0 3 [] [], D.v (Value.int IntKind.i64 0), D.v (Value.int IntKind.i64 0), D.v (Value.int IntKind.i64 0), D.v (Value.int IntKind.i64 0), D.v (Value.int IntKind.i64 0)]] [], D.s 0 4 [[D.v (Value.int IntKind.i64 3), D.v (Value.int IntKind.i64 0), D.v (Value.int IntKind.i64 0), D.v (Value.int IntKind.i64 5)]] []], I 0] K) = (K (DV.tup [DV.agg (Zck (1) ⟨[[vN (5), vN (0), vN (0)], [vN (6), vN (0), vN (0)]], [[vN (7), vN (0), vN (0)]], [], [[vN (9), vN (0), vN (0)]], (0), (0), (0), (0), (9), [[vN (3), vN (0), vN (0), vN (5)], [vN (3), vN (0), vN (1), vN (10)]]⟩ [(sesL (1) ⟨(3), (0), (3), [[vN (2), vN (0), vN (0), vN (0)], [vN (1), vN (0), vN (0), vN (0)], [vN (3), vN (0), vN (0), vN (0)]], (0), (3), (10), (0), (0), (0), [[vN (0), vN (0), vN (0)]], [[vN (0), vN (0), vN (10)]], (0), (0), (0), (0), (0)⟩), (sesL (1) ⟨(5), (1), (1), [[vN (2), vN (0), vN (0), vN (1)], [vN (3), vN (0), vN (1), vN (0)]], (0), (0), (0), (0), (0), (0), [], [], (0), (0), (0), (0), (0)⟩)]), I (0)])) := by kernel_rfl
theorem cSt3 : CT Tryz.prog 79 [.agg (macL 0 bH2 [bA2, bB]), I 0] (macR bH3 [bA3, bB] 0) := by
  have e : macL 0 bH2 [bA2, bB] = [D.s 0 3 [[D.v (Value.int IntKind.i64 5), D.v (Value.int IntKind.i64 0), D.v (Value.int IntKind.i64 0)], [D.v (Value.int IntKind.i64 6), D.v (Value.int IntKind.i64 0), D.v (Value.int IntKind.i64 0)]] [], D.s 0 3 [[D.v (Value.int IntKind.i64 7), D.v (Value.int IntKind.i64 0), D.v (Value.int IntKind.i64 0)]] [], D.s 0 3 [] [], D.s 0 3 [[D.v (Value.int IntKind.i64 9), D.v (Value.int IntKind.i64 0), D.v (Value.int IntKind.i64 0)]] [], D.v (Value.int IntKind.i64 0), D.v (Value.int IntKind.i64 0), D.v (Value.int IntKind.i64 0), D.v (Value.int IntKind.i64 0), D.v (Value.int IntKind.i64 9), D.s 0 17 [[D.v (Value.int IntKind.i64 3), D.v (Value.int IntKind.i64 0), D.v (Value.int IntKind.i64 3), D.s 0 4 [[D.v (Value.int IntKind.i64 2), D.v (Value.int IntKind.i64 0), D.v (Value.int IntKind.i64 0), D.v (Value.int IntKind.i64 0)], [D.v (Value.int IntKind.i64 1), D.v (Value.int IntKind.i64 0), D.v (Value.int IntKind.i64 0), D.v (Value.int IntKind.i64 0)], [D.v (Value.int IntKind.i64 3), D.v (Value.int IntKind.i64 0), D.v (Value.int IntKind.i64 0), D.v (Value.int IntKind.i64 0)]] [], D.v (Value.int IntKind.i64 0), D.v (Value.int IntKind.i64 2), D.v (Value.int IntKind.i64 10), D.v (Value.int IntKind.i64 0), D.v (Value.int IntKind.i64 0), D.v (Value.int IntKind.i64 0), D.s 0 3 [[D.v (Value.int IntKind.i64 0), D.v (Value.int IntKind.i64 0), D.v (Value.int IntKind.i64 0)]] [], D.s 0 3 [] [], D.v (Value.int IntKind.i64 0), D.v (Value.int IntKind.i64 0), D.v (Value.int IntKind.i64 0), D.v (Value.int IntKind.i64 0), D.v (Value.int IntKind.i64 0)], [D.v (Value.int IntKind.i64 5), D.v (Value.int IntKind.i64 1), D.v (Value.int IntKind.i64 1), D.s 0 4 [[D.v (Value.int IntKind.i64 2), D.v (Value.int IntKind.i64 0), D.v (Value.int IntKind.i64 0), D.v (Value.int IntKind.i64 1)], [D.v (Value.int IntKind.i64 3), D.v (Value.int IntKind.i64 0), D.v (Value.int IntKind.i64 1), D.v (Value.int IntKind.i64 0)]] [], D.v (Value.int IntKind.i64 0), D.v (Value.int IntKind.i64 0), D.v (Value.int IntKind.i64 0), D.v (Value.int IntKind.i64 0), D.v (Value.int IntKind.i64 0), D.v (Value.int IntKind.i64 0), D.s 0 3 [] [], D.s 0 3 [] [], D.v (Value.int IntKind.i64 0), D.v (Value.int IntKind.i64 0), D.v (Value.int IntKind.i64 0), D.v (Value.int IntKind.i64 0), D.v (Value.int IntKind.i64 0)]] [], D.s 0 4 [[D.v (Value.int IntKind.i64 3), D.v (Value.int IntKind.i64 0), D.v (Value.int IntKind.i64 0), D.v (Value.int IntKind.i64 5)]] []] := rfl
  rw [e]
  refine ct_m Zbz .nil (.cons ZbG (.cons ZhY .nil)) mixed Tryz.func79 rfl rfl rfl ?_
  rw [eSt3]
  exact ⟨rfl⟩
theorem eSt4 (K : DV → Prop) : (askH Tryz.prog (hkM spC [] [(58, ZdK), (128, jRun)]) Tryz.f79 [.agg [D.s 0 3 [[D.v (Value.int IntKind.i64 5), D.v (Value.int IntKind.i64 0), D.v (Value.int IntKind.i64 0)], [D.v (Value.int IntKind.i64 6), D.v (Value.int IntKind.i64 0), D.v (Value.int IntKind.i64 0)]] [], D.s 0 3 [[D.v (Value.int IntKind.i64 7), D.v (Value.int IntKind.i64 0), D.v (Value.int IntKind.i64 0)]] [], D.s 0 3 [] [], D.s 0 3 [[D.v (Value.int IntKind.i64 9), D.v (Value.int IntKind.i64 0), D.v (Value.int IntKind.i64 0)]] [], D.v (Value.int IntKind.i64 0), D.v (Value.int IntKind.i64 0), D.v (Value.int IntKind.i64 0), D.v (Value.int IntKind.i64 0), D.v (Value.int IntKind.i64 9), D.s 0 17 [[D.v (Value.int IntKind.i64 3), D.v (Value.int IntKind.i64 0), D.v (Value.int IntKind.i64 3), D.s 0 4 [[D.v (Value.int IntKind.i64 2), D.v (Value.int IntKind.i64 0), D.v (Value.int IntKind.i64 0), D.v (Value.int IntKind.i64 0)], [D.v (Value.int IntKind.i64 1), D.v (Value.int IntKind.i64 0), D.v (Value.int IntKind.i64 0), D.v (Value.int IntKind.i64 0)], [D.v (Value.int IntKind.i64 3), D.v (Value.int IntKind.i64 0), D.v (Value.int IntKind.i64 0), D.v (Value.int IntKind.i64 0)]] [], D.v (Value.int IntKind.i64 0), D.v (Value.int IntKind.i64 3), D.v (Value.int IntKind.i64 10), D.v (Value.int IntKind.i64 0), D.v (Value.int IntKind.i64 0), D.v (Value.int IntKind.i64 0), D.s 0 3 [[D.v (Value.int IntKind.i64 0), D.v (Value.int IntKind.i64 0), D.v (Value.int IntKind.i64 0)]] [], D.s 0 3 [[D.v (Value.int IntKind.i64 0), D.v (Value.int IntKind.i64 0), D.v (Value.int IntKind.i64 10)]] [], D.v (Value.int IntKind.i64 0), D.v (Value.int IntKind.i64 0), D.v (Value.int IntKind.i64 0), D.v (Value.int IntKind.i64 0), D.v (Value.int IntKind.i64 0)], [D.v (Value.int IntKind.i64 5), D.v (Value.int IntKind.i64 1), D.v (Value.int IntKind.i64 1), D.s 0 4 [[D.v (Value.int IntKind.i64 2), D.v (Value.int IntKind.i64 0), D.v (Value.int IntKind.i64 0), D.v (Value.int IntKind.i64 1)], [D.v (Value.int IntKind.i64 3), D.v (Value.int IntKind.i64 0), D.v (Value.int IntKind.i64 1), D.v (Value.int IntKind.i64 0)]] [], D.v (Value.int IntKind.i64 0), D.v (Value.int IntKind.i64 0), D.v (Value.int IntKind.i64 0), D.v (Value.int IntKind.i64 0), D.v (Value.int IntKind.i64 0), D.v (Value.int IntKind.i64 0), D.s 0 3 [] [], D.s 0 3 [] [], D.v (Value.int IntKind.i64 0), D.v (Value.int IntKind.i64 0), D.v (Value.int IntKind.i64 0), D.v (Value.int IntKind.i64 0), D.v (Value.int IntKind.i64 0)]] [], D.s 0 4 [[D.v (Value.int IntKind.i64 3), D.v (Value.int IntKind.i64 0), D.v (Value.int IntKind.i64 0), D.v (Value.int IntKind.i64 5)], [D.v (Value.int IntKind.i64 3), D.v (Value.int IntKind.i64 0), D.v (Value.int IntKind.i64 1), D.v (Value.int IntKind.i64 10)]] []], I 0] K) = (K (DV.tup [DV.agg (Zck (1) ⟨[[vN (5), vN (0), vN (0)], [vN (6), vN (0), vN (0)]], [[vN (7), vN (0), vN (0)]], [], [[vN (9), vN (0), vN (0)]], (0), (0), (0), (0), (9), [[vN (3), vN (0), vN (0), vN (5)], [vN (3), vN (0), vN (1), vN (10)]]⟩ [(sesL (1) ⟨(3), (0), (3), [[vN (2), vN (0), vN (0), vN (0)], [vN (1), vN (0), vN (0), vN (0)], [vN (3), vN (0), vN (0), vN (0)]], (1), (3), (10), (0), (0), (0), [[vN (0), vN (0), vN (0)]], [[vN (0), vN (0), vN (10)]], (0), (0), (0), (0), (0)⟩), (sesL (1) ⟨(5), (1), (1), [[vN (2), vN (0), vN (0), vN (1)], [vN (3), vN (0), vN (1), vN (0)]], (0), (0), (0), (0), (0), (0), [], [], (0), (0), (0), (0), (0)⟩)]), I (0)])) := by kernel_rfl
theorem cSt4 : CT Tryz.prog 79 [.agg (macL 0 bH3 [bA3, bB]), I 0] (macR bH4 [bA4, bB] 0) := by
  have e : macL 0 bH3 [bA3, bB] = [D.s 0 3 [[D.v (Value.int IntKind.i64 5), D.v (Value.int IntKind.i64 0), D.v (Value.int IntKind.i64 0)], [D.v (Value.int IntKind.i64 6), D.v (Value.int IntKind.i64 0), D.v (Value.int IntKind.i64 0)]] [], D.s 0 3 [[D.v (Value.int IntKind.i64 7), D.v (Value.int IntKind.i64 0), D.v (Value.int IntKind.i64 0)]] [], D.s 0 3 [] [], D.s 0 3 [[D.v (Value.int IntKind.i64 9), D.v (Value.int IntKind.i64 0), D.v (Value.int IntKind.i64 0)]] [], D.v (Value.int IntKind.i64 0), D.v (Value.int IntKind.i64 0), D.v (Value.int IntKind.i64 0), D.v (Value.int IntKind.i64 0), D.v (Value.int IntKind.i64 9), D.s 0 17 [[D.v (Value.int IntKind.i64 3), D.v (Value.int IntKind.i64 0), D.v (Value.int IntKind.i64 3), D.s 0 4 [[D.v (Value.int IntKind.i64 2), D.v (Value.int IntKind.i64 0), D.v (Value.int IntKind.i64 0), D.v (Value.int IntKind.i64 0)], [D.v (Value.int IntKind.i64 1), D.v (Value.int IntKind.i64 0), D.v (Value.int IntKind.i64 0), D.v (Value.int IntKind.i64 0)], [D.v (Value.int IntKind.i64 3), D.v (Value.int IntKind.i64 0), D.v (Value.int IntKind.i64 0), D.v (Value.int IntKind.i64 0)]] [], D.v (Value.int IntKind.i64 0), D.v (Value.int IntKind.i64 3), D.v (Value.int IntKind.i64 10), D.v (Value.int IntKind.i64 0), D.v (Value.int IntKind.i64 0), D.v (Value.int IntKind.i64 0), D.s 0 3 [[D.v (Value.int IntKind.i64 0), D.v (Value.int IntKind.i64 0), D.v (Value.int IntKind.i64 0)]] [], D.s 0 3 [[D.v (Value.int IntKind.i64 0), D.v (Value.int IntKind.i64 0), D.v (Value.int IntKind.i64 10)]] [], D.v (Value.int IntKind.i64 0), D.v (Value.int IntKind.i64 0), D.v (Value.int IntKind.i64 0), D.v (Value.int IntKind.i64 0), D.v (Value.int IntKind.i64 0)], [D.v (Value.int IntKind.i64 5), D.v (Value.int IntKind.i64 1), D.v (Value.int IntKind.i64 1), D.s 0 4 [[D.v (Value.int IntKind.i64 2), D.v (Value.int IntKind.i64 0), D.v (Value.int IntKind.i64 0), D.v (Value.int IntKind.i64 1)], [D.v (Value.int IntKind.i64 3), D.v (Value.int IntKind.i64 0), D.v (Value.int IntKind.i64 1), D.v (Value.int IntKind.i64 0)]] [], D.v (Value.int IntKind.i64 0), D.v (Value.int IntKind.i64 0), D.v (Value.int IntKind.i64 0), D.v (Value.int IntKind.i64 0), D.v (Value.int IntKind.i64 0), D.v (Value.int IntKind.i64 0), D.s 0 3 [] [], D.s 0 3 [] [], D.v (Value.int IntKind.i64 0), D.v (Value.int IntKind.i64 0), D.v (Value.int IntKind.i64 0), D.v (Value.int IntKind.i64 0), D.v (Value.int IntKind.i64 0)]] [], D.s 0 4 [[D.v (Value.int IntKind.i64 3), D.v (Value.int IntKind.i64 0), D.v (Value.int IntKind.i64 0), D.v (Value.int IntKind.i64 5)], [D.v (Value.int IntKind.i64 3), D.v (Value.int IntKind.i64 0), D.v (Value.int IntKind.i64 1), D.v (Value.int IntKind.i64 10)]] []] := rfl
  rw [e]
  refine ct_m Zbz .nil (.cons ZbG (.cons ZhY .nil)) mixed Tryz.func79 rfl rfl rfl ?_
  rw [eSt4]
  exact ⟨rfl⟩
theorem Zo0 : Zbf Tryz.prog 21 ZrW := Za6 (.cons ZsF (.cons ZqF (.cons oRMm .nil))) .nil .nil mixed Tryz.func21 rfl (Zar Tryz.func21 (by kernel_rfl) rfl)
theorem Zr1 (K : DV → Prop) : (askH Tryz.prog (hkM [] [] [(21, ZrW)]) Tryz.f44 [] K) = (K (DV.agg [D.s (1) (3) [[vN (5), vN (0), vN (0)], [vN (6), vN (0), vN (0)]] [], D.s (1) (3) [[vN (7), vN (0), vN (0)]] [], D.s (1) (3) [] [], D.s (1) (3) [[vN (9), vN (0), vN (0)]] [], vN (0), vN (0), vN (0), vN (0), vN (9), D.s (1) (17) [[vN (3), vN (0), vN (3), D.s (1) (4) [[vN (2), vN (0), vN (0), vN (0)], [vN (1), vN (0), vN (0), vN (0)], [vN (3), vN (0), vN (0), vN (0)]] [], vN (0), vN (0), vN (0), vN (0), vN (0), vN (0), nilV, nilV, vN (0), vN (0), vN (0), vN (0), vN (0)], [vN (5), vN (1), vN (1), D.s (1) (4) [[vN (2), vN (0), vN (0), vN (1)], [vN (3), vN (0), vN (1), vN (0)]] [], vN (0), vN (0), vN (0), vN (0), vN (0), vN (0), nilV, nilV, vN (0), vN (0), vN (0), vN (0), vN (0)]] [], nilV])) := by kernel_rfl
theorem ZkW : CT Tryz.prog 44 [] (.agg (macL 1 bH0 [bA0, bB])) := by
  refine Ztm .nil .nil (.cons Zo0 .nil) mixed Tryz.func44 rfl rfl rfl ?_
  rw [Zr1]
  refine ⟨.aggO ?_⟩
  repeat (first | exact .nil | exact OL.refl _ | exact OL.nil _ | refine .cons ?_ ?_ | refine OL.rows ?_)
end

section
open Go Go.Proofs
def sStp : Spec := fun ds Q => match ds with
  | [d, _] => macA d fun _ ss => match ss with
    | [a, _] => bif a.st == 0 then (bif a.pc == 0 then sAtD [.agg (macL 0 bH0 [bA0, bB]), I 0] (macR bH1 [bA1, bB] 0) ds Q else bif a.pc == 1 then sAtD [.agg (macL 0 bH1 [bA1, bB]), I 0] (macR bH2 [bA2, bB] 0) ds Q else bif a.pc == 2 then sAtD [.agg (macL 0 bH2 [bA2, bB]), I 0] (macR bH3 [bA3, bB] 0) ds Q else sAtD [.agg (macL 0 bH3 [bA3, bB]), I 0] (macR bH4 [bA4, bB] 0) ds Q) else False
    | _ => False
  | _ => False
theorem gStp : Goes Tryz.prog 79 := Zar Tryz.func79 (by kernel_rfl) rfl
theorem oStp : Zad Tryz.prog 79 sStp := fun ds Q h => by
  unfold sStp at h; split at h
  · obtain ⟨m, ss, h, _⟩ := Zcu h
    split at h
    · rename_i a _ _
      cases h1 : a.st == 0
      · rw [h1] at h; exact h.elim
      · rw [h1] at h
        cases h2 : a.pc == 0
        · cases h3 : a.pc == 1
          · cases h4 : a.pc == 2
            · rw [h2, h3, h4] at h; exact oAtD gStp cSt4 rfl rfl _ Q h
            · rw [h2, h3, h4] at h; exact oAtD gStp cSt3 rfl rfl _ Q h
          · rw [h2, h3] at h; exact oAtD gStp cSt2 rfl rfl _ Q h
        · rw [h2] at h; exact oAtD gStp cSt1 rfl rfl _ Q h
    · exact h.elim
  · exact h.elim
def iStp : Inl := Zfz Tryz.prog [34, 3] (sF sStp)
theorem ZmR : Zbf Tryz.prog 79 iStp := Zch (oF oStp)
def iBeg : Inl := Zfz Tryz.prog [] (sF (sAtD [] (.agg (macL 1 bH0 [bA0, bB]))))
theorem Zi8 : Zbf Tryz.prog 44 iBeg := Zch (oF (oAtD (Zar Tryz.func44 (by kernel_rfl) rfl) ZkW rfl rfl))
theorem ZoK (K : DV → Prop) : (askH Tryz.prog (hkM [] [] [(44, iBeg), (79, iStp)]) Tryz.f43 [I 0, I 0] K) = (([] : List DV) = [] ∧ K (DV.agg [D.s (1) (3) [[D.v (Value.int IntKind.i64 (5)), D.v (Value.int IntKind.i64 (0)), D.v (Value.int IntKind.i64 (0))], [D.v (Value.int IntKind.i64 (6)), D.v (Value.int IntKind.i64 (0)), D.v (Value.int IntKind.i64 (0))]] [], D.s (1) (3) [[D.v (Value.int IntKind.i64 (7)), D.v (Value.int IntKind.i64 (0)), D.v (Value.int IntKind.i64 (0))]] [], D.s (1) (3) [] [], D.s (1) (3) [[D.v (Value.int IntKind.i64 (9)), D.v (Value.int IntKind.i64 (0)), D.v (Value.int IntKind.i64 (0))]] [], D.v (Value.int IntKind.i64 (0)), D.v (Value.int IntKind.i64 (0)), D.v (Value.int IntKind.i64 (0)), D.v (Value.int IntKind.i64 (0)), D.v (Value.int IntKind.i64 (9)), D.s (1) (17) [[D.v (Value.int IntKind.i64 (3)), D.v (Value.int IntKind.i64 (0)), D.v (Value.int IntKind.i64 (3)), D.s (1) (4) [[D.v (Value.int IntKind.i64 (2)), D.v (Value.int IntKind.i64 (0)), D.v (Value.int IntKind.i64 (0)), D.v (Value.int IntKind.i64 (0))], [D.v (Value.int IntKind.i64 (1)), D.v (Value.int IntKind.i64 (0)), D.v (Value.int IntKind.i64 (0)), D.v (Value.int IntKind.i64 (0))], [D.v (Value.int IntKind.i64 (3)), D.v (Value.int IntKind.i64 (0)), D.v (Value.int IntKind.i64 (0)), D.v (Value.int IntKind.i64 (0))]] [], D.v (Value.int IntKind.i64 (0)), D.v (Value.int IntKind.i64 (0)), D.v (Value.int IntKind.i64 (0)), D.v (Value.int IntKind.i64 (0)), D.v (Value.int IntKind.i64 (0)), D.v (Value.int IntKind.i64 (0)), D.s (1) (3) [] [], D.s (1) (3) [] [], D.v (Value.int IntKind.i64 (0)), D.v (Value.int IntKind.i64 (0)), D.v (Value.int IntKind.i64 (0)), D.v (Value.int IntKind.i64 (0)), D.v (Value.int IntKind.i64 (0))], [D.v (Value.int IntKind.i64 (5)), D.v (Value.int IntKind.i64 (1)), D.v (Value.int IntKind.i64 (1)), D.s (1) (4) [[D.v (Value.int IntKind.i64 (2)), D.v (Value.int IntKind.i64 (0)), D.v (Value.int IntKind.i64 (0)), D.v (Value.int IntKind.i64 (1))], [D.v (Value.int IntKind.i64 (3)), D.v (Value.int IntKind.i64 (0)), D.v (Value.int IntKind.i64 (1)), D.v (Value.int IntKind.i64 (0))]] [], D.v (Value.int IntKind.i64 (0)), D.v (Value.int IntKind.i64 (0)), D.v (Value.int IntKind.i64 (0)), D.v (Value.int IntKind.i64 (0)), D.v (Value.int IntKind.i64 (0)), D.v (Value.int IntKind.i64 (0)), D.s (1) (3) [] [], D.s (1) (3) [] [], D.v (Value.int IntKind.i64 (0)), D.v (Value.int IntKind.i64 (0)), D.v (Value.int IntKind.i64 (0)), D.v (Value.int IntKind.i64 (0)), D.v (Value.int IntKind.i64 (0))]] [], D.s (1) (4) [] []])) := by kernel_rfl
theorem Zo2 : CT Tryz.prog 43 [I 0, I 0] (.agg (macL 1 bH0 [bA0, bB])) := by
  refine ct_m .nil .nil (.cons Zi8 (.cons ZmR .nil)) mixed Tryz.func43 rfl rfl rfl ?_
  rw [ZoK]
  exact ⟨by repeat (first | exact rfl | refine ⟨rfl, ?_⟩)⟩
theorem Zow (K : DV → Prop) : (askH Tryz.prog (hkM [] [] [(44, iBeg), (79, iStp)]) Tryz.f43 [I 0, I 2] K) = (([] : List DV) = [] ∧ [DV.agg (macL (0) bH0 [bA0, bB]), I (0)] = [DV.agg (macL (0) bH0 [bA0, bB]), I (0)] ∧ [DV.agg (macL (0) bH1 [bA1, bB]), I (0)] = [DV.agg (macL (0) bH1 [bA1, bB]), I (0)] ∧ K (DV.agg [D.s (1) (3) [[D.v (Value.int IntKind.i64 (5)), D.v (Value.int IntKind.i64 (0)), D.v (Value.int IntKind.i64 (0))], [D.v (Value.int IntKind.i64 (6)), D.v (Value.int IntKind.i64 (0)), D.v (Value.int IntKind.i64 (0))]] [], D.s (1) (3) [[D.v (Value.int IntKind.i64 (7)), D.v (Value.int IntKind.i64 (0)), D.v (Value.int IntKind.i64 (0))]] [], D.s (1) (3) [] [], D.s (1) (3) [[D.v (Value.int IntKind.i64 (9)), D.v (Value.int IntKind.i64 (0)), D.v (Value.int IntKind.i64 (0))]] [], D.v (Value.int IntKind.i64 (0)), D.v (Value.int IntKind.i64 (0)), D.v (Value.int IntKind.i64 (0)), D.v (Value.int IntKind.i64 (0)), D.v (Value.int IntKind.i64 (9)), D.s (1) (17) [[D.v (Value.int IntKind.i64 (3)), D.v (Value.int IntKind.i64 (0)), D.v (Value.int IntKind.i64 (3)), D.s (1) (4) [[D.v (Value.int IntKind.i64 (2)), D.v (Value.int IntKind.i64 (0)), D.v (Value.int IntKind.i64 (0)), D.v (Value.int IntKind.i64 (0))], [D.v (Value.int IntKind.i64 (1)), D.v (Value.int IntKind.i64 (0)), D.v (Value.int IntKind.i64 (0)), D.v (Value.int IntKind.i64 (0))], [D.v (Value.int IntKind.i64 (3)), D.v (Value.int IntKind.i64 (0)), D.v (Value.int IntKind.i64 (0)), D.v (Value.int IntKind.i64 (0))]] [], D.v (Value.int IntKind.i64 (0)), D.v (Value.int IntKind.i64 (2)), D.v (Value.int IntKind.i64 (10)), D.v (Value.int IntKind.i64 (0)), D.v (Value.int IntKind.i64 (0)), D.v (Value.int IntKind.i64 (0)), D.s (1) (3) [[D.v (Value.int IntKind.i64 (0)), D.v (Value.int IntKind.i64 (0)), D.v (Value.int IntKind.i64 (0))]] [], D.s (1) (3) [] [], D.v (Value.int IntKind.i64 (0)), D.v (Value.int IntKind.i64 (0)), D.v (Value.int IntKind.i64 (0)), D.v (Value.int IntKind.i64 (0)), D.v (Value.int IntKind.i64 (0))], [D.v (Value.int IntKind.i64 (5)), D.v (Value.int IntKind.i64 (1)), D.v (Value.int IntKind.i64 (1)), D.s (1) (4) [[D.v (Value.int IntKind.i64 (2)), D.v (Value.int IntKind.i64 (0)), D.v (Value.int IntKind.i64 (0)), D.v (Value.int IntKind.i64 (1))], [D.v (Value.int IntKind.i64 (3)), D.v (Value.int IntKind.i64 (0)), D.v (Value.int IntKind.i64 (1)), D.v (Value.int IntKind.i64 (0))]] [], D.v (Value.int IntKind.i64 (0)), D.v (Value.int IntKind.i64 (0)), D.v (Value.int IntKind.i64 (0)), D.v (Value.int IntKind.i64 (0)), D.v (Value.int IntKind.i64 (0)), D.v (Value.int IntKind.i64 (0)), D.s (1) (3) [] [], D.s (1) (3) [] [], D.v (Value.int IntKind.i64 (0)), D.v (Value.int IntKind.i64 (0)), D.v (Value.int IntKind.i64 (0)), D.v (Value.int IntKind.i64 (0)), D.v (Value.int IntKind.i64 (0))]] [], D.s (1) (4) [[D.v (Value.int IntKind.i64 (3)), D.v (Value.int IntKind.i64 (0)), D.v (Value.int IntKind.i64 (0)), D.v (Value.int IntKind.i64 (5))]] []])) := by kernel_rfl
theorem ZpI : CT Tryz.prog 43 [I 0, I 2] (.agg (macL 1 bH2 [bA2, bB])) := by
  refine ct_m .nil .nil (.cons Zi8 (.cons ZmR .nil)) mixed Tryz.func43 rfl rfl rfl ?_
  rw [Zow]
  exact ⟨by repeat (first | exact rfl | refine ⟨rfl, ?_⟩)⟩
end

section
open Go Go.Proofs
def ZuV (s s' : SesD) : Bool := bif s.id == s'.id then bif s.lb == s'.lb then bif s.cl == s'.cl then bif decide (toZ s.pg = toZ s'.pg) then bif s.st == s'.st then bif s.pc == s'.pc then bif eqI [s.r0, s.r1, s.r2, s.r3] [s'.r0, s'.r1, s'.r2, s'.r3] then bif decide (toZ s.rd = toZ s'.rd) then bif decide (toZ s.wt = toZ s'.wt) then bif s.at' == s'.at' then bif s.sp == s'.sp then bif s.tr == s'.tr then bif s.rs == s'.rs then s.to == s'.to else false else false else false else false else false else false else false else false else false else false else false else false else false
def sSS : Spec := fun ds Q => match ds with
  | [d, e] => sesA d fun s => sesA e fun s' => cond (Zaz s && Zaz s') (Q (B (ZuV s s'))) False
  | _ => False
theorem eSA (R0 R1 R2 R3 S0 S1 S2 S3 : List (List D)) (K : DV → Prop) : (askW Tryz.prog (hkF [(88, Zeu)] [] []) Tryz.f41 [.agg (wsL R0 R1 R2 R3), .agg (wsL S0 S1 S2 S3)] K) = (bif okZ (3) R0 && okZ (3) S0 then bif !decide (toZ R0 = toZ S0) then K (B false) else bif okZ (3) R1 && okZ (3) S1 then bif !decide (toZ R1 = toZ S1) then K (B false) else bif okZ (3) R2 && okZ (3) S2 then bif !decide (toZ R2 = toZ S2) then K (B false) else bif okZ (3) R3 && okZ (3) S3 then bif !decide (toZ R3 = toZ S3) then K (B false) else K (B true) else False else False else False else False) := by kernel_rfl
def Zso (R0 R1 R2 R3 S0 S1 S2 S3 : List (List D)) : Bool := bif decide (toZ R0 = toZ S0) then bif decide (toZ R1 = toZ S1) then bif decide (toZ R2 = toZ S2) then bif decide (toZ R3 = toZ S3) then true else false else false else false else false
theorem cSA (R0 R1 R2 R3 S0 S1 S2 S3 : List (List D)) (h : okA R0 R1 R2 R3 = true) (h' : okA S0 S1 S2 S3 = true) : CT Tryz.prog 41 [.agg (wsL R0 R1 R2 R3), .agg (wsL S0 S1 S2 S3)] (B (Zso R0 R1 R2 R3 S0 S1 S2 S3)) := by
  refine Zrb (.cons Zmh .nil) .nil .nil mixed Tryz.func41 rfl rfl rfl ?_
  rw [eSA]
  refine ⟨?_⟩
  obtain ⟨a0, a1, a2, a3⟩ := Zdb h
  obtain ⟨b0, b1, b2, b3⟩ := Zdb h'
  simp only [a0, a1, a2, a3, b0, b1, b2, b3, Bool.and_self, cond_true, Zth]
  exact AL.refl _
def sSA : Spec := fun ds Q => match ds with
  | [.agg cs, .agg es] => cond (Zjx cs && Nat.beq cs.length 4 && (Zjx es && Nat.beq es.length 4)) (ZgU cs fun R0 R1 R2 R3 => ZgU es fun S0 S1 S2 S3 => cond (okA R0 R1 R2 R3 && okA S0 S1 S2 S3) (Q (B (Zso R0 R1 R2 R3 S0 S1 S2 S3))) False) False
  | _ => False
theorem oSA : Zad Tryz.prog 41 sSA := o_al Tryz.func41 (by kernel_rfl) rfl fun ds Q h => by
  unfold sSA at h; split at h
  · obtain ⟨h0, h⟩ := Zae h
    simp only [Bool.and_eq_true] at h0
    obtain ⟨R0, R1, R2, R3, h, r1⟩ := ZcF h
    obtain ⟨S0, S1, S2, S3, h, r2⟩ := ZcF h
    obtain ⟨h1, h2⟩ := Zae h
    rw [Bool.and_eq_true] at h1
    rw [List.take_of_length_le (Nat.le_of_eq (Zaa h0.1.2))] at r1
    rw [List.take_of_length_le (Nat.le_of_eq (Zaa h0.2.2))] at r2
    exact ⟨_, _, .cons (.agg r1 h0.1.1 rfl) (.cons (.agg r2 h0.2.1 rfl) .nil), cSA R0 R1 R2 R3 S0 S1 S2 S3 h1.1 h1.2, rfl, rfl, h2⟩
  · exact h.elim
end

section
open Go Go.Proofs
def Zr2 (k : Int) (h : Mh) (s : SesD) : Inl := Zfz Tryz.prog [3, 3] (sF (sAtD [I 0, I k] (.agg (macL 1 h [s, bB]))))
end

section
open Go Go.Proofs
theorem ZrC {h : Mh} {ss : List SesD} (hm : smM h ss = true) (j : Nat) {s : SesD} (hs : smS s = true) : smM h (ss.set j s) = true := by
  unfold smM at hm ⊢
  simp only [Bool.and_eq_true] at hm ⊢
  refine ⟨hm.1, hm.2.1, ?_⟩
  rw [List.all_eq_true] at hm ⊢
  intro x hx
  rcases List.mem_or_eq_of_mem_set hx with hx | rfl
  · exact hm.2.2 x hx
  · exact hs
theorem ZrL {h h' : Mh} {ss : List SesD} (hm : smM h ss = true) (e0 : h'.w0 = h.w0) (e1 : h'.w1 = h.w1) (e2 : h'.w2 = h.w2) (e3 : h'.w3 = h.w3) (ht : smR 4398046510977 h'.tr = true) : smM h' ss = true := by
  unfold smM at hm ⊢
  rw [e0, e1, e2, e3, ht]
  simp only [Bool.and_eq_true] at hm ⊢
  exact ⟨hm.1, trivial, hm.2.2⟩
end

section
open Go Go.Proofs
theorem ZqL {R0 R1 R2 R3 : List (List D)} {s : SesD} (h : Zai R0 R1 R2 R3 s = true) : ZbQ (toZ s.wt) = true := by
  unfold Zai Zhe at h
  simp only [Bool.and_eq_true] at h
  exact h.2.1.2.1
theorem Zob (l : List (List Int)) (r : List Int) : (ZaW l r).length ≤ l.length + 1 := by
  unfold ZaW
  cases ZbQ l && okw r
  · simp
  · simp only [cond_true]
    unfold putW
    cases hasW l (key r) <;> simp <;> omega
theorem Znh {s : SesD} (hs : smS s = true) (hw : s.wt.length ≤ 16) : smS (ZdW s) = true := by
  obtain ⟨h1, h2, h3⟩ := Zay hs
  unfold smS
  show (smR 4398046510977 s.pg && (smR 5864062014635 s.rd && smR 5864062014635 (mZ (ZaW (toZ s.wt) [iB s, iD s, Zgo s (iA s)])))) = true
  have hl := Zob (toZ s.wt) [iB s, iD s, Zgo s (iA s)]
  rw [Zau] at hl
  rw [h1, h2]
  unfold smR
  rw [Zez, Zaf, decide_eq_true (by omega)]; rfl
theorem ZoL {h : Mh} (ht : smR 4398046510977 h.tr = true) (hl : h.tr.length ≤ 512) (a b k v : Int) : smR 4398046510977 (Zjk h a b k v).tr = true := by
  unfold Zjk
  cases decide ((h.tr.length : Int) < 512)
  · exact ht
  · unfold smR
    show (allV (h.tr ++ [[vN a, vN b, vN k, vN v]]) && decide ((h.tr ++ [[vN a, vN b, vN k, vN v]]).length ≤ 4398046510977)) = true
    rw [Zo4 (Zab ht).1 rfl, List.length_append, decide_eq_true (by simp; omega)]; rfl
theorem Foc.smS {h : Mh} {ss : List SesD} {i : Int} {s : SesD} (f : Foc h ss i s) : Vm.smS s = true :=
  List.all_eq_true.1 (by have := f.sm; unfold smM at this; simp only [Bool.and_eq_true] at this; exact this.2.2) s (List.mem_of_getElem? f.at')
theorem Foc.wtl {h : Mh} {ss : List SesD} {i : Int} {s : SesD} (f : Foc h ss i s) : s.wt.length ≤ 16 := by
  have := Zio (ZqL f.may)
  rwa [Zau] at this
theorem Foc.smtr {h : Mh} {ss : List SesD} {i : Int} {s : SesD} (f : Foc h ss i s) : smR 4398046510977 h.tr = true := (ZdX f.sm).2.1
theorem ZoF (h : Mh) (s : SesD) : (Zcf h s).w0 = h.w0 ∧ (Zcf h s).w1 = h.w1 ∧ (Zcf h s).w2 = h.w2 ∧ (Zcf h s).w3 = h.w3 := by
  unfold Zcf Zjk
  first | exact ⟨rfl, rfl, rfl, rfl⟩ | (split <;> exact ⟨rfl, rfl, rfl, rfl⟩) | (cases decide ((h.tr.length : Int) < 512) <;> exact ⟨rfl, rfl, rfl, rfl⟩)
def sSto : Spec := fun ds Q => match ds with
  | [d, e] => macA d fun h ss => inA e fun i => cond (okM h ss) (bif mAt (has1 3) h ss i then Q (macR (Zcf h (ss.getD i.toNat default)) (ss.set i.toNat (ZdW (ss.getD i.toNat default))) 0) else Q (macE 1600)) False
  | _ => False
theorem oSto : Zad Tryz.prog 38 sSto := o_al Tryz.func38 (by kernel_rfl) rfl fun ds Q hq => by
  unfold sSto at hq; split at hq
  · obtain ⟨h, ss, hq, r1⟩ := Zcu hq
    obtain ⟨i, hq, rfl⟩ := Zk0 hq
    obtain ⟨ho, hq⟩ := Zae hq
    have hct := cSto h ss i ho
    cases hm : mAt (has1 3) h ss i with
    | false =>
      rw [hm] at hq hct
      exact ⟨_, _, .cons r1 (.cons (.refl _) .nil), hct, rfl, rfl, hq⟩
    | true =>
      rw [hm] at hq hct
      obtain ⟨s, f, _⟩ := ZkK ho hm
      refine ⟨_, macR (Zcf h (ss.getD i.toNat default)) (ss.set i.toNat (ZdW (ss.getD i.toNat default))) 0, .cons r1 (.cons (.refl _) .nil), hct, Zk2 (h := Zcf h (ss.getD i.toNat default)) (ZrC (ZrL (h' := Zcf h (ss.getD i.toNat default)) f.sm (ZoF _ _).1 (ZoF _ _).2.1 (ZoF _ _).2.2.1 (ZoF _ _).2.2.2 ?_) _ ?_) 0, rfl, hq⟩
      · rw [f.getD]; exact ZoL f.smtr f.tl _ _ _ _
      · rw [f.getD]; exact Znh f.smS f.wtl
  · exact hq.elim
def iSto : Inl := Zfz Tryz.prog [34, 3] (sF sSto)
theorem Zqc : Zbf Tryz.prog 38 iSto := Zch (oF oSto)
theorem Zjz : Zbf Tryz.prog 43 (Zr2 2 bH2 bA2) := Zch (oF (oAtD (Zar Tryz.func43 (by kernel_rfl) rfl) ZpI rfl rfl))
theorem ZsO : Zad Tryz.prog 44 (sAtD [] (.agg (macL 1 bH0 [bA0, bB]))) := oAtD (Zar Tryz.func44 (by kernel_rfl) rfl) ZkW rfl rfl
theorem Zuc (K : DV → Prop) : (askH Tryz.prog (hkM [(25, sI), (45, ZcM), (41, sSA), (44, sAtD [] (.agg (macL 1 bH0 [bA0, bB])))] [] [(38, iSto), (43, Zr2 2 bH2 bA2)]) Tryz.f40 [] K) = ([I (0), I (2)] = [I (0), I (2)] ∧ ([] : List DV) = [] ∧ ([] : List DV) = [] ∧ K (B true)) := by kernel_rfl
theorem ZtD : CT Tryz.prog 40 [] (B true) := by
  refine ct_m (.cons oNum (.cons Zft (.cons oSA (.cons ZsO .nil)))) .nil (.cons Zqc (.cons Zjz .nil)) mixed Tryz.func40 rfl rfl rfl ?_
  rw [Zuc]
  exact ⟨by repeat (first | exact rfl | refine ⟨rfl, ?_⟩)⟩
theorem Ztf : Zad Tryz.prog 40 (sAtD [] (B true)) := oAtD (Zar Tryz.func40 (by kernel_rfl) rfl) ZtD rfl rfl
end

section
open Go Go.Proofs
theorem OD.frz {w : World} {G : Nat → Prop} {v : Value} {S G' S' : Nat → Prop} {d e : D} (h : RD d e) (he : e.isOwn = false) (hg : ∀ b, G b → G' b) (hs : ∀ b, S b → G' b) (hv : OD w G v d S) : OD w G' v e S' := by
  refine .r _ _ _ (fun z rows sp q => ?_) (h _ _ _ (hv.read hg hs))
  subst q; cases he
theorem Zqa {cs cs' : List D} (h : All2 RD cs cs') (he : cs'.all (fun d => !d.isOwn) = true) : Frz (.agg cs) (.agg cs') := fun w G v S hv => by
  cases hv with
  | agg vs _ _ sub h1 h2 h3 h4 =>
    refine .agg vs cs' _ (fun _ _ => False) (by rw [← h.len]; exact h1) (fun i e hi => ?_) (fun _ _ q => q) (fun _ _ _ q => q.elim)
    obtain ⟨d, g1, g2⟩ := h.get hi
    have a2 := List.all_eq_true.1 he e (List.mem_of_getElem? hi)
    exact (h2 i d g1).frz g2 (by simpa using a2) (fun _ => .inl) (fun b hb => .inr (h3 i b hb))
theorem Zsu {t t' : Nat} (s : SesD) : All2 RD (sesL t s) (sesL t' s) :=
  .cons (.refl _) (.cons (.refl _) (.cons (.refl _) (.cons .slice (.cons (.refl _) (.cons (.refl _) (.cons (.refl _) (.cons (.refl _) (.cons (.refl _) (.cons (.refl _) (.cons .slice (.cons .slice (.cons (.refl _) (.cons (.refl _) (.cons (.refl _) (.cons (.refl _) (.cons (.refl _) .nil))))))))))))))))
theorem Zp3 {t t' : Nat} : ∀ ss : List SesD, All2 (All2 RD) (ss.map (sesL t)) (ss.map (sesL t'))
  | [] => .nil
  | s :: ss => .cons (Zsu s) (Zp3 ss)
theorem Zto {t t' : Nat} (h : Mh) (ss : List SesD) : All2 RD (macL t h ss) (macL t' h ss) :=
  .cons .slice (.cons .slice (.cons .slice (.cons .slice (.cons (.refl _) (.cons (.refl _) (.cons (.refl _) (.cons (.refl _) (.cons (.refl _) (.cons (.rows (Zp3 ss)) (.cons .slice .nil))))))))))
def Zl1 (ds es : List DV) : Prop := All2 AL ds es
def sAtL (es : List DV) (r : DV) : Spec := fun ds Q => Zl1 ds es ∧ Q r
theorem oAtL {f : FuncId} {fn : Func} {es : List DV} {r : DV} (hf : Tryz.prog.funcs[f]? = some fn) (hn : (fn.name == "runtime.NumGoroutine") = false) (hb : fn.body.isNone = false) (hc : CT Tryz.prog f es r) (hp : r.pureOwn = true) (hfit : r.fit32 = true) : Zad Tryz.prog f (sAtL es r) :=
  o_al hf hn hb fun ds Q hq => ⟨_, _, hq.1, hc, hp, hfit, hq.2⟩
end

section
open Go Go.Proofs
theorem ZtX {R : List (List D)} : cut R 0 R.length = R := Zmy rfl
end

section
open Go Go.Proofs
theorem Zl5 {P : Program} {ι : Type} {fn : Func} {i : Nat} (sw : List (Nat × Nat)) {ts ks : List Nat} (hm : P.follows .mixedOrders = true) (St : ι → X) (inv : ι → Prop) (μ : ι → Nat) {Q : Exit → X → Prop} {x : X} (i0 : ι)
    (hr : ∀ p, inv p → ∃ (H : Hooks) (V : Vw) (VE : Exit → Vw), Zal P H ∧ Zas P H (Zan fn i) ∧ VwOK V ∧ (∀ e, VwOK (VE e)) ∧ Zcc P H fn i sw ts ks V VE (fun y => ∃ p', μ p' < μ p ∧ inv p' ∧ y = St p') Q (St p)) (h0 : inv i0) (hx : x.arr ts ks = St i0) : XWP P (.loop (Zan fn i)) Q x := by
  refine ZfQ ts ks (Zh5 ts ks ?_)
  rw [hx]
  refine Ze0 (ι := ι) (fun p y => inv p ∧ (y.rens sw).arr ts ks = St p ∨ inv p ∧ y = St p) μ i0 (.inr ⟨h0, rfl⟩) fun p y hy => ?_
  have key : XWP P (Zan fn i) (fun e y => match e with | .normal => ∃ p', μ p' < μ p ∧ (inv p' ∧ (y.rens sw).arr ts ks = St p' ∨ inv p' ∧ y = St p') | e => Q e (y.arr ts ks)) (St p) := by
    have hp : inv p := hy.elim And.left And.left
    obtain ⟨H, V, VE, hH, hl, hV, hVE, hr⟩ := hr p hp
    refine ZbR (Za4 hH hm 200 _ _ _ hl hr) fun e y he => ?_
    cases e with
    | normal => obtain ⟨p', h1, h2, h3⟩ := Zc6 hV he; exact ⟨p', h1, .inl ⟨h2, h3⟩⟩
    | _ => exact Zc6 (hVE _) he
  rcases hy with ⟨_, h⟩ | ⟨_, rfl⟩
  · exact Zk4 sw (ZfQ ts ks (by rw [h]; exact key))
  · exact key
theorem Zn7 {P : Program} {fn : Func} {k : Nat} {sw : List (Nat × Nat)} {ts ks : List Nat} (hm : P.follows .mixedOrders = true)
    (St Sr : Nat → X) (n : Nat) (bad : Nat → Bool) (r e : Exit)
    (hs : ∀ i, i < n → (∀ j, j < i → bad j = false) → ∃ (H : Hooks) (V : Vw) (VE : Exit → Vw), Zal P H ∧ Zas P H (Zan fn k) ∧ VwOK V ∧ (∀ e, VwOK (VE e)) ∧ ∀ (N : X → Prop) (E : Exit → X → Prop), (bad i = true → E r (Sr i)) → (bad i = false → N (St (i + 1))) → Zcc P H fn k sw ts ks V VE N E (St i))
    (he : (∀ j, j < n → bad j = false) → ∃ (H : Hooks) (V : Vw) (VE : Exit → Vw), Zal P H ∧ Zas P H (Zan fn k) ∧ VwOK V ∧ (∀ e, VwOK (VE e)) ∧ ∀ (N : X → Prop) (E : Exit → X → Prop), E e (St n) → Zcc P H fn k sw ts ks V VE N E (St n))
    (Q : Exit → X → Prop) (x : X) (h : ZcU ts ks St Sr n bad r e Q x) : XWP P (.loop (Zan fn k)) Q x := by
  obtain ⟨h1, h2, h3⟩ := h
  refine Zl5 (ι := Nat) sw hm St (fun i => i ≤ n ∧ ∀ j, j < i → bad j = false) (fun i => n - i) 0 (fun i hp => ?_) ⟨Nat.zero_le _, fun j hj => by omega⟩ h1
  obtain ⟨hi, hj⟩ := hp
  by_cases hl : i < n
  · obtain ⟨H, V, VE, c1, c2, c3, c4, c5⟩ := hs i hl hj
    refine ⟨H, V, VE, c1, c2, c3, c4, c5 _ _ (fun hb => h2 i ⟨hl, hb, hj⟩) (fun hb => ⟨i + 1, by omega, ⟨hl, fun j hji => ?_⟩, rfl⟩)⟩
    rcases Nat.lt_succ_iff_lt_or_eq.1 hji with hji | rfl
    · exact hj j hji
    · exact hb
  · have e : i = n := by omega
    subst e
    obtain ⟨H, V, VE, c1, c2, c3, c4, c5⟩ := he hj
    exact ⟨H, V, VE, c1, c2, c3, c4, c5 _ _ (h3 hj)⟩
structure Ls where
  (W0 W1 W2 W3 T P D0 V0 P1 D1 V1 : List (List D))
def rI (R : List (List D)) (i : Int) : Int := hdJ (List.drop 0 (List.getD R (Int.toNat i) []))
def rB (R : List (List D)) (i : Int) : Bool := decide (0 ≤ i) && decide (i < @Nat.cast Int _ (List.length R))
def rJ (R : List (List D)) (i : Int) : Bool := isJ [IntKind.i64] (List.drop 0 (List.getD R (Int.toNat i) []))
def rN (n : Nat) (G : List (List D)) : Bool := decide (n ≤ List.length G) && (decide ((n + 1) * 32 ≤ 140737488355328) && decide (n + 1 ≤ 9223372036854775807))
def lsOf (h : Mh) (s s1 : SesD) : Ls := ⟨h.w0, h.w1, h.w2, h.w3, h.tr, s.pg, s.rd, s.wt, s1.pg, s1.rd, s1.wt⟩
theorem Ztx (x : Int) : lab (band x 3) = true := by
  rw [ZuT]
  unfold lab upto
  simp only [Bool.and_eq_true, decide_eq_true_eq]
  omega
theorem ZtR (x : Int) : val8 (band x 255) = true := by rw [ZuC]; exact Zqq (by omega)
theorem Zr6 {a b c d i v : Int} (h : v4 a b c d = true) (hv : val8 v = true) : v4 (ZhA a b c d i v).a (ZhA a b c d i v).b (ZhA a b c d i v).c (ZhA a b c d i v).d = true := by
  obtain ⟨ha, hb, hc, hd⟩ := ZuY h
  unfold ZhA
  split
  · simp [v4, *]
  · split
    · simp [v4, *]
    · split <;> simp [v4, *]
theorem Zp9 {h : Mh} {s s' : SesD} {l : List SesD} (e : s'.id = s.id) (hm : mmay h (s :: l) = true) (hs : Zai h.w0 h.w1 h.w2 h.w3 s' = true) : mmay h (s' :: l) = true := by
  have ei : Zcs (s' :: l) = Zcs (s :: l) := by cases l <;> simp [Zcs, e]
  unfold mmay at *
  rw [ei]
  simp only [Bool.and_eq_true, List.all_cons, List.length_cons] at *
  exact ⟨hm.1, hm.2.1, hm.2.2.1, hm.2.2.2.1, hm.2.2.2.2.1, hm.2.2.2.2.2.1, ⟨hs, hm.2.2.2.2.2.2.1.2⟩, hm.2.2.2.2.2.2.2⟩
theorem mm_b : mmay bH0 [bA0, bB] = true := by decide +kernel
end

section
open Go Go.Proofs
def stSA (h : Mh) (s s1 : SesD) (R : List (List D)) (k i : Int) (n m : Nat) (G : List (List D)) (L : Ls) : X := ⟨mkT 91 [(0, aS 1 R []), (2, ab false), (3, .c (.rp 4 0 11 0 0)), (4, ai k), (5, .c (.rs 6 0 4 0 n m)), (6, ai i)], [(14000, .sl 0 3 L.W0), (14001, .sl 0 3 L.W1), (14002, .sl 0 3 L.W2), (14003, .sl 0 3 L.W3), (14010, .sl 0 4 L.T), (101793155, .sl 0 4 L.P), (101793162, .sl 0 3 L.D0), (101793163, .sl 0 3 L.V0), (101793172, .sl 0 4 L.P1), (101793179, .sl 0 3 L.D1), (101793180, .sl 0 3 L.V1), (14009, .bx 0 34 [ci s.id, ci s.lb, ci s.cl, .rs 101793155 0 4 0 s.pg.length s.pg.length, ci s.st, ci s.pc, ci s.r0, ci s.r1, ci s.r2, ci s.r3, .rs 101793162 0 3 0 s.rd.length s.rd.length, .rs 101793163 0 3 0 s.wt.length s.wt.length, ci s.at', ci s.sp, ci s.tr, ci s.rs, ci s.to, ci s1.id, ci s1.lb, ci s1.cl, .rs 101793172 0 4 0 s1.pg.length s1.pg.length, ci s1.st, ci s1.pc, ci s1.r0, ci s1.r1, ci s1.r2, ci s1.r3, .rs 101793179 0 3 0 s1.rd.length s1.rd.length, .rs 101793180 0 3 0 s1.wt.length s1.wt.length, ci s1.at', ci s1.sp, ci s1.tr, ci s1.rs, ci s1.to]), (4, .bx 0 11 [.rs 14000 0 3 0 h.w0.length h.w0.length, .rs 14001 0 3 0 h.w1.length h.w1.length, .rs 14002 0 3 0 h.w2.length h.w2.length, .rs 14003 0 3 0 h.w3.length h.w3.length, ci h.c0, ci h.c1, ci h.c2, ci h.c3, ci h.ce, .rs 14009 0 17 0 2 2, .rs 14010 0 4 0 h.tr.length h.tr.length]), (6, .sl 0 4 G)], [], []⟩
def ZgQ (h : Mh) (s s1 : SesD) (R : List (List D)) (k : Int) (L : Ls) : Vw := fun y K => wI y 6 fun i => aS' y 5 fun n m => wL y 6 fun G => K (stSA h s s1 R k i n m G L)
theorem Zik (h : Mh) (s s1 : SesD) (R : List (List D)) (k : Int) (L : Ls) : VwOK (ZgQ h s s1 R k L) := fun y K q => by
  unfold ZgQ at q
  obtain ⟨i, q⟩ := Zby q
  obtain ⟨n, m, q⟩ := Zsq q
  obtain ⟨G, q⟩ := Zbg q
  exact ⟨_, q⟩
def lZ (R S : List (List D)) : Bool := decide (0 + List.length R ≤ List.length S)
def eCu (S R : List (List D)) : List (List D) := cut S 0 (List.length R)
def eDu (S R : List (List D)) : List (List D) := cut S (0 + List.length R) (List.length R - List.length R)
theorem rSA (an : Int → Int → Int) (h : Mh) (s s1 : SesD) (R : List (List D)) (k : Int) (i : Int) (n m : Nat) (G : List (List D)) (L : Ls) (N : X → Prop) (E : Exit → X → Prop) : (Zcc Tryz.prog { hkX an bor [] [] [] with spl := true, foc := true } Tryz.f17 0 [] [0, 2, 3, 4, 5, 6] [14000, 14001, 14002, 14003, 14010, 101793155, 101793162, 101793163, 101793172, 101793179, 101793180, 14009, 4, 6] (ZgQ h s s1 R k L) (fun _ => ZgQ h s s1 R k L) N E (stSA h s s1 R k i n m G L)) = (bif decide (i < k) then bif rN n G then stSA h s s1 R k (IntKind.wrap IntKind.i64 (i + 1)) (n + 1) (n + 1) (List.take n G ++ [[vN (3), vN (an i (3)), vN (0), vN (0)]]) L = stSA h s s1 R k (IntKind.wrap IntKind.i64 (i + 1)) (n + 1) (n + 1) (List.take n G ++ [[vN (3), vN (an i (3)), vN (0), vN (0)]]) L ∧ N (stSA h s s1 R k (IntKind.wrap IntKind.i64 (i + 1)) (n + 1) (n + 1) (List.take n G ++ [[vN (3), vN (an i (3)), vN (0), vN (0)]]) L) else False else stSA h s s1 R k i n m G L = stSA h s s1 R k i n m G L ∧ E (Exit.exit (0)) (stSA h s s1 R k i n m G L)) := by kernel_rfl
def stSB (h : Mh) (s s1 : SesD) (R : List (List D)) (k l i : Int) (L : Ls) : X := ⟨mkT 91 [(0, aS 1 R []), (2, ab false), (3, .c (.rp 4 0 11 0 0)), (4, ai k), (7, ai l), (8, ai i)], [(14000, .sl 0 3 L.W0), (14001, .sl 0 3 L.W1), (14002, .sl 0 3 L.W2), (14003, .sl 0 3 L.W3), (14010, .sl 0 4 L.T), (6, .sl 0 4 L.P), (101793162, .sl 0 3 L.D0), (101793163, .sl 0 3 L.V0), (101793172, .sl 0 4 L.P1), (101793179, .sl 0 3 L.D1), (101793180, .sl 0 3 L.V1), (14009, .bx 0 34 [ci s.id, ci s.lb, ci s.cl, .rs 6 0 4 0 s.pg.length s.pg.length, ci s.st, ci s.pc, ci s.r0, ci s.r1, ci s.r2, ci s.r3, .rs 101793162 0 3 0 s.rd.length s.rd.length, .rs 101793163 0 3 0 s.wt.length s.wt.length, ci s.at', ci s.sp, ci s.tr, ci s.rs, ci s.to, ci s1.id, ci s1.lb, ci s1.cl, .rs 101793172 0 4 0 s1.pg.length s1.pg.length, ci s1.st, ci s1.pc, ci s1.r0, ci s1.r1, ci s1.r2, ci s1.r3, .rs 101793179 0 3 0 s1.rd.length s1.rd.length, .rs 101793180 0 3 0 s1.wt.length s1.wt.length, ci s1.at', ci s1.sp, ci s1.tr, ci s1.rs, ci s1.to]), (4, .bx 0 11 [.rs 14000 0 3 0 h.w0.length h.w0.length, .rs 14001 0 3 0 h.w1.length h.w1.length, .rs 14002 0 3 0 h.w2.length h.w2.length, .rs 14003 0 3 0 h.w3.length h.w3.length, ci h.c0, ci h.c1, ci h.c2, ci h.c3, ci h.ce, .rs 14009 0 17 0 2 2, .rs 14010 0 4 0 h.tr.length h.tr.length])], [], []⟩
def ZeK (h : Mh) (s s1 : SesD) (R : List (List D)) (k : Int) (L : Ls) : Vw := fun y K => wI y 7 fun l => wI y 8 fun i => K (stSB h s s1 R k l i L)
theorem ZfT (h : Mh) (s s1 : SesD) (R : List (List D)) (k : Int) (L : Ls) : VwOK (ZeK h s s1 R k L) := fun y K q => by
  unfold ZeK at q
  obtain ⟨l, q⟩ := Zby q
  obtain ⟨i, q⟩ := Zby q
  exact ⟨_, q⟩
def Zho (h : Mh) (s s1 : SesD) (R : List (List D)) (k : Int) : Vw := fun y K => wI y 7 fun l => wI y 8 fun i => wL y 14000 fun W0 => wL y 14001 fun W1 => wL y 14002 fun W2 => wL y 14003 fun W3 => wL y 14010 fun T => wL y 6 fun P => wL y 101793162 fun D0 => wL y 101793163 fun V0 => wL y 101793172 fun P1 => wL y 101793179 fun D1 => wL y 101793180 fun V1 => K (stSB h s s1 R k l i ⟨W0, W1, W2, W3, T, P, D0, V0, P1, D1, V1⟩)
theorem Zme (h : Mh) (s s1 : SesD) (R : List (List D)) (k : Int) : VwOK (Zho h s s1 R k) := fun y K q => by
  unfold Zho at q
  obtain ⟨l, q⟩ := Zby q
  obtain ⟨i, q⟩ := Zby q
  obtain ⟨W0, q⟩ := Zbg q
  obtain ⟨W1, q⟩ := Zbg q
  obtain ⟨W2, q⟩ := Zbg q
  obtain ⟨W3, q⟩ := Zbg q
  obtain ⟨T, q⟩ := Zbg q
  obtain ⟨P, q⟩ := Zbg q
  obtain ⟨D0, q⟩ := Zbg q
  obtain ⟨V0, q⟩ := Zbg q
  obtain ⟨P1, q⟩ := Zbg q
  obtain ⟨D1, q⟩ := Zbg q
  obtain ⟨V1, q⟩ := Zbg q
  exact ⟨_, q⟩
theorem rSB (an : Int → Int → Int) (h h' : Mh) (s sw s' s1 : SesD) (R : List (List D)) (k l i : Int) (L : Ls) (N : X → Prop) (E : Exit → X → Prop) : (Zcc Tryz.prog { hkX an bor [(25, sI)] [] [(38, Zfz Tryz.prog [34] (sAtL [.agg (macL 0 h [sw, s1]), I 0] (.tup [.agg (macL 1 h' [s', s1]), I 0])))] with spl := true, foc := true } Tryz.f17 1 [(57000, 14000), (57001, 14001), (57002, 14002), (57003, 14003), (57009, 14009), (57010, 14010), (107297155, 6), (107297162, 101793162), (107297163, 101793163), (107297172, 101793172), (107297179, 101793179), (107297180, 101793180)] [0, 2, 3, 4, 7, 8] [14000, 14001, 14002, 14003, 14010, 6, 101793162, 101793163, 101793172, 101793179, 101793180, 14009, 4] (Zho h' s' s1 R k) (fun _ => ZeK h s s1 R k L) N E (stSB h s s1 R k l i L)) = (bif decide (i < k) then bif rB R i then bif rJ R i then bif decide (an i (3) = 0) then bif lZ h.w0 L.W0 then bif lZ h.w1 L.W1 then bif lZ h.w2 L.W2 then bif lZ h.w3 L.W3 then bif lZ s.pg L.P then bif lZ s.rd L.D0 then bif lZ s.wt L.V0 then bif lZ s1.pg L.P1 then bif lZ s1.rd L.D1 then bif lZ s1.wt L.V1 then bif lZ h.tr L.T then Zl1 [DV.agg [D.s (0) (3) (eCu L.W0 h.w0) (eDu L.W0 h.w0), D.s (0) (3) (eCu L.W1 h.w1) (eDu L.W1 h.w1), D.s (0) (3) (eCu L.W2 h.w2) (eDu L.W2 h.w2), D.s (0) (3) (eCu L.W3 h.w3) (eDu L.W3 h.w3), vN h.c0, vN h.c1, vN h.c2, vN h.c3, vN h.ce, D.s (0) (17) [[vN s.id, vN s.lb, vN s.cl, D.s (0) (4) (eCu L.P s.pg) (eDu L.P s.pg), vN s.st, vN s.pc, vN (an (rI R i) (255)), vN s.r1, vN s.r2, vN s.r3, D.s (0) (3) (eCu L.D0 s.rd) (eDu L.D0 s.rd), D.s (0) (3) (eCu L.V0 s.wt) (eDu L.V0 s.wt), vN s.at', vN s.sp, vN s.tr, vN s.rs, vN s.to], [vN s1.id, vN s1.lb, vN s1.cl, D.s (0) (4) (eCu L.P1 s1.pg) (eDu L.P1 s1.pg), vN s1.st, vN s1.pc, vN s1.r0, vN s1.r1, vN s1.r2, vN s1.r3, D.s (0) (3) (eCu L.D1 s1.rd) (eDu L.D1 s1.rd), D.s (0) (3) (eCu L.V1 s1.wt) (eDu L.V1 s1.wt), vN s1.at', vN s1.sp, vN s1.tr, vN s1.rs, vN s1.to]] [], D.s (0) (4) (eCu L.T h.tr) (eDu L.T h.tr)], I (0)] [DV.agg (Zck (0) h [(sesL (0) sw), (sesL (0) s1)]), I (0)] ∧ stSB h' s' s1 R k (an (rI R i) (255)) (IntKind.wrap IntKind.i64 (i + 1)) { W0 := h'.w0 ++ [], W1 := h'.w1 ++ [], W2 := h'.w2 ++ [], W3 := h'.w3 ++ [], T := h'.tr ++ [], P := s'.pg ++ [], D0 := s'.rd ++ [], V0 := s'.wt ++ [], P1 := s1.pg ++ [], D1 := s1.rd ++ [], V1 := s1.wt ++ [] } = stSB h' s' s1 R k (an (rI R i) (255)) (IntKind.wrap IntKind.i64 (i + 1)) { W0 := h'.w0 ++ [], W1 := h'.w1 ++ [], W2 := h'.w2 ++ [], W3 := h'.w3 ++ [], T := h'.tr ++ [], P := s'.pg ++ [], D0 := s'.rd ++ [], V0 := s'.wt ++ [], P1 := s1.pg ++ [], D1 := s1.rd ++ [], V1 := s1.wt ++ [] } ∧ N (stSB h' s' s1 R k (an (rI R i) (255)) (IntKind.wrap IntKind.i64 (i + 1)) { W0 := h'.w0 ++ [], W1 := h'.w1 ++ [], W2 := h'.w2 ++ [], W3 := h'.w3 ++ [], T := h'.tr ++ [], P := s'.pg ++ [], D0 := s'.rd ++ [], V0 := s'.wt ++ [], P1 := s1.pg ++ [], D1 := s1.rd ++ [], V1 := s1.wt ++ [] }) else False else False else False else False else False else False else False else False else False else False else False else bif decide (an i (3) = 1) then bif lZ h.w0 L.W0 then bif lZ h.w1 L.W1 then bif lZ h.w2 L.W2 then bif lZ h.w3 L.W3 then bif lZ s.pg L.P then bif lZ s.rd L.D0 then bif lZ s.wt L.V0 then bif lZ s1.pg L.P1 then bif lZ s1.rd L.D1 then bif lZ s1.wt L.V1 then bif lZ h.tr L.T then Zl1 [DV.agg [D.s (0) (3) (eCu L.W0 h.w0) (eDu L.W0 h.w0), D.s (0) (3) (eCu L.W1 h.w1) (eDu L.W1 h.w1), D.s (0) (3) (eCu L.W2 h.w2) (eDu L.W2 h.w2), D.s (0) (3) (eCu L.W3 h.w3) (eDu L.W3 h.w3), vN h.c0, vN h.c1, vN h.c2, vN h.c3, vN h.ce, D.s (0) (17) [[vN s.id, vN s.lb, vN s.cl, D.s (0) (4) (eCu L.P s.pg) (eDu L.P s.pg), vN s.st, vN s.pc, vN s.r0, vN (an (rI R i) (255)), vN s.r2, vN s.r3, D.s (0) (3) (eCu L.D0 s.rd) (eDu L.D0 s.rd), D.s (0) (3) (eCu L.V0 s.wt) (eDu L.V0 s.wt), vN s.at', vN s.sp, vN s.tr, vN s.rs, vN s.to], [vN s1.id, vN s1.lb, vN s1.cl, D.s (0) (4) (eCu L.P1 s1.pg) (eDu L.P1 s1.pg), vN s1.st, vN s1.pc, vN s1.r0, vN s1.r1, vN s1.r2, vN s1.r3, D.s (0) (3) (eCu L.D1 s1.rd) (eDu L.D1 s1.rd), D.s (0) (3) (eCu L.V1 s1.wt) (eDu L.V1 s1.wt), vN s1.at', vN s1.sp, vN s1.tr, vN s1.rs, vN s1.to]] [], D.s (0) (4) (eCu L.T h.tr) (eDu L.T h.tr)], I (0)] [DV.agg (Zck (0) h [(sesL (0) sw), (sesL (0) s1)]), I (0)] ∧ stSB h' s' s1 R k (an (rI R i) (255)) (IntKind.wrap IntKind.i64 (i + 1)) { W0 := h'.w0 ++ [], W1 := h'.w1 ++ [], W2 := h'.w2 ++ [], W3 := h'.w3 ++ [], T := h'.tr ++ [], P := s'.pg ++ [], D0 := s'.rd ++ [], V0 := s'.wt ++ [], P1 := s1.pg ++ [], D1 := s1.rd ++ [], V1 := s1.wt ++ [] } = stSB h' s' s1 R k (an (rI R i) (255)) (IntKind.wrap IntKind.i64 (i + 1)) { W0 := h'.w0 ++ [], W1 := h'.w1 ++ [], W2 := h'.w2 ++ [], W3 := h'.w3 ++ [], T := h'.tr ++ [], P := s'.pg ++ [], D0 := s'.rd ++ [], V0 := s'.wt ++ [], P1 := s1.pg ++ [], D1 := s1.rd ++ [], V1 := s1.wt ++ [] } ∧ N (stSB h' s' s1 R k (an (rI R i) (255)) (IntKind.wrap IntKind.i64 (i + 1)) { W0 := h'.w0 ++ [], W1 := h'.w1 ++ [], W2 := h'.w2 ++ [], W3 := h'.w3 ++ [], T := h'.tr ++ [], P := s'.pg ++ [], D0 := s'.rd ++ [], V0 := s'.wt ++ [], P1 := s1.pg ++ [], D1 := s1.rd ++ [], V1 := s1.wt ++ [] }) else False else False else False else False else False else False else False else False else False else False else False else bif decide (an i (3) = 2) then bif lZ h.w0 L.W0 then bif lZ h.w1 L.W1 then bif lZ h.w2 L.W2 then bif lZ h.w3 L.W3 then bif lZ s.pg L.P then bif lZ s.rd L.D0 then bif lZ s.wt L.V0 then bif lZ s1.pg L.P1 then bif lZ s1.rd L.D1 then bif lZ s1.wt L.V1 then bif lZ h.tr L.T then Zl1 [DV.agg [D.s (0) (3) (eCu L.W0 h.w0) (eDu L.W0 h.w0), D.s (0) (3) (eCu L.W1 h.w1) (eDu L.W1 h.w1), D.s (0) (3) (eCu L.W2 h.w2) (eDu L.W2 h.w2), D.s (0) (3) (eCu L.W3 h.w3) (eDu L.W3 h.w3), vN h.c0, vN h.c1, vN h.c2, vN h.c3, vN h.ce, D.s (0) (17) [[vN s.id, vN s.lb, vN s.cl, D.s (0) (4) (eCu L.P s.pg) (eDu L.P s.pg), vN s.st, vN s.pc, vN s.r0, vN s.r1, vN (an (rI R i) (255)), vN s.r3, D.s (0) (3) (eCu L.D0 s.rd) (eDu L.D0 s.rd), D.s (0) (3) (eCu L.V0 s.wt) (eDu L.V0 s.wt), vN s.at', vN s.sp, vN s.tr, vN s.rs, vN s.to], [vN s1.id, vN s1.lb, vN s1.cl, D.s (0) (4) (eCu L.P1 s1.pg) (eDu L.P1 s1.pg), vN s1.st, vN s1.pc, vN s1.r0, vN s1.r1, vN s1.r2, vN s1.r3, D.s (0) (3) (eCu L.D1 s1.rd) (eDu L.D1 s1.rd), D.s (0) (3) (eCu L.V1 s1.wt) (eDu L.V1 s1.wt), vN s1.at', vN s1.sp, vN s1.tr, vN s1.rs, vN s1.to]] [], D.s (0) (4) (eCu L.T h.tr) (eDu L.T h.tr)], I (0)] [DV.agg (Zck (0) h [(sesL (0) sw), (sesL (0) s1)]), I (0)] ∧ stSB h' s' s1 R k (an (rI R i) (255)) (IntKind.wrap IntKind.i64 (i + 1)) { W0 := h'.w0 ++ [], W1 := h'.w1 ++ [], W2 := h'.w2 ++ [], W3 := h'.w3 ++ [], T := h'.tr ++ [], P := s'.pg ++ [], D0 := s'.rd ++ [], V0 := s'.wt ++ [], P1 := s1.pg ++ [], D1 := s1.rd ++ [], V1 := s1.wt ++ [] } = stSB h' s' s1 R k (an (rI R i) (255)) (IntKind.wrap IntKind.i64 (i + 1)) { W0 := h'.w0 ++ [], W1 := h'.w1 ++ [], W2 := h'.w2 ++ [], W3 := h'.w3 ++ [], T := h'.tr ++ [], P := s'.pg ++ [], D0 := s'.rd ++ [], V0 := s'.wt ++ [], P1 := s1.pg ++ [], D1 := s1.rd ++ [], V1 := s1.wt ++ [] } ∧ N (stSB h' s' s1 R k (an (rI R i) (255)) (IntKind.wrap IntKind.i64 (i + 1)) { W0 := h'.w0 ++ [], W1 := h'.w1 ++ [], W2 := h'.w2 ++ [], W3 := h'.w3 ++ [], T := h'.tr ++ [], P := s'.pg ++ [], D0 := s'.rd ++ [], V0 := s'.wt ++ [], P1 := s1.pg ++ [], D1 := s1.rd ++ [], V1 := s1.wt ++ [] }) else False else False else False else False else False else False else False else False else False else False else False else bif decide (an i (3) = 3) then bif lZ h.w0 L.W0 then bif lZ h.w1 L.W1 then bif lZ h.w2 L.W2 then bif lZ h.w3 L.W3 then bif lZ s.pg L.P then bif lZ s.rd L.D0 then bif lZ s.wt L.V0 then bif lZ s1.pg L.P1 then bif lZ s1.rd L.D1 then bif lZ s1.wt L.V1 then bif lZ h.tr L.T then Zl1 [DV.agg [D.s (0) (3) (eCu L.W0 h.w0) (eDu L.W0 h.w0), D.s (0) (3) (eCu L.W1 h.w1) (eDu L.W1 h.w1), D.s (0) (3) (eCu L.W2 h.w2) (eDu L.W2 h.w2), D.s (0) (3) (eCu L.W3 h.w3) (eDu L.W3 h.w3), vN h.c0, vN h.c1, vN h.c2, vN h.c3, vN h.ce, D.s (0) (17) [[vN s.id, vN s.lb, vN s.cl, D.s (0) (4) (eCu L.P s.pg) (eDu L.P s.pg), vN s.st, vN s.pc, vN s.r0, vN s.r1, vN s.r2, vN (an (rI R i) (255)), D.s (0) (3) (eCu L.D0 s.rd) (eDu L.D0 s.rd), D.s (0) (3) (eCu L.V0 s.wt) (eDu L.V0 s.wt), vN s.at', vN s.sp, vN s.tr, vN s.rs, vN s.to], [vN s1.id, vN s1.lb, vN s1.cl, D.s (0) (4) (eCu L.P1 s1.pg) (eDu L.P1 s1.pg), vN s1.st, vN s1.pc, vN s1.r0, vN s1.r1, vN s1.r2, vN s1.r3, D.s (0) (3) (eCu L.D1 s1.rd) (eDu L.D1 s1.rd), D.s (0) (3) (eCu L.V1 s1.wt) (eDu L.V1 s1.wt), vN s1.at', vN s1.sp, vN s1.tr, vN s1.rs, vN s1.to]] [], D.s (0) (4) (eCu L.T h.tr) (eDu L.T h.tr)], I (0)] [DV.agg (Zck (0) h [(sesL (0) sw), (sesL (0) s1)]), I (0)] ∧ stSB h' s' s1 R k (an (rI R i) (255)) (IntKind.wrap IntKind.i64 (i + 1)) { W0 := h'.w0 ++ [], W1 := h'.w1 ++ [], W2 := h'.w2 ++ [], W3 := h'.w3 ++ [], T := h'.tr ++ [], P := s'.pg ++ [], D0 := s'.rd ++ [], V0 := s'.wt ++ [], P1 := s1.pg ++ [], D1 := s1.rd ++ [], V1 := s1.wt ++ [] } = stSB h' s' s1 R k (an (rI R i) (255)) (IntKind.wrap IntKind.i64 (i + 1)) { W0 := h'.w0 ++ [], W1 := h'.w1 ++ [], W2 := h'.w2 ++ [], W3 := h'.w3 ++ [], T := h'.tr ++ [], P := s'.pg ++ [], D0 := s'.rd ++ [], V0 := s'.wt ++ [], P1 := s1.pg ++ [], D1 := s1.rd ++ [], V1 := s1.wt ++ [] } ∧ N (stSB h' s' s1 R k (an (rI R i) (255)) (IntKind.wrap IntKind.i64 (i + 1)) { W0 := h'.w0 ++ [], W1 := h'.w1 ++ [], W2 := h'.w2 ++ [], W3 := h'.w3 ++ [], T := h'.tr ++ [], P := s'.pg ++ [], D0 := s'.rd ++ [], V0 := s'.wt ++ [], P1 := s1.pg ++ [], D1 := s1.rd ++ [], V1 := s1.wt ++ [] }) else False else False else False else False else False else False else False else False else False else False else False else False else False else False else stSB h s s1 R k l i L = stSB h s s1 R k l i L ∧ E (Exit.exit (2)) (stSB h s s1 R k l i L)) := by kernel_rfl
theorem rSBe (an : Int → Int → Int) (h : Mh) (s s1 : SesD) (R : List (List D)) (k l i : Int) (L : Ls) (N : X → Prop) (E : Exit → X → Prop) : (Zcc Tryz.prog { hkX an bor [(25, sI)] [] [] with spl := true, foc := true } Tryz.f17 1 [(57000, 14000), (57001, 14001), (57002, 14002), (57003, 14003), (57009, 14009), (57010, 14010), (107297155, 6), (107297162, 101793162), (107297163, 101793163), (107297172, 101793172), (107297179, 101793179), (107297180, 101793180)] [0, 2, 3, 4, 7, 8] [14000, 14001, 14002, 14003, 14010, 6, 101793162, 101793163, 101793172, 101793179, 101793180, 14009, 4] (ZeK h s s1 R k L) (fun _ => ZeK h s s1 R k L) N E (stSB h s s1 R k l i L)) = (bif decide (i < k) then bif rB R i then bif rJ R i then bif decide (an i (3) = 0) then bif lZ h.w0 L.W0 then bif lZ h.w1 L.W1 then bif lZ h.w2 L.W2 then bif lZ h.w3 L.W3 then bif lZ s.pg L.P then bif lZ s.rd L.D0 then bif lZ s.wt L.V0 then bif lZ s1.pg L.P1 then bif lZ s1.rd L.D1 then bif lZ s1.wt L.V1 then bif lZ h.tr L.T then False else False else False else False else False else False else False else False else False else False else False else False else bif decide (an i (3) = 1) then bif lZ h.w0 L.W0 then bif lZ h.w1 L.W1 then bif lZ h.w2 L.W2 then bif lZ h.w3 L.W3 then bif lZ s.pg L.P then bif lZ s.rd L.D0 then bif lZ s.wt L.V0 then bif lZ s1.pg L.P1 then bif lZ s1.rd L.D1 then bif lZ s1.wt L.V1 then bif lZ h.tr L.T then False else False else False else False else False else False else False else False else False else False else False else False else bif decide (an i (3) = 2) then bif lZ h.w0 L.W0 then bif lZ h.w1 L.W1 then bif lZ h.w2 L.W2 then bif lZ h.w3 L.W3 then bif lZ s.pg L.P then bif lZ s.rd L.D0 then bif lZ s.wt L.V0 then bif lZ s1.pg L.P1 then bif lZ s1.rd L.D1 then bif lZ s1.wt L.V1 then bif lZ h.tr L.T then False else False else False else False else False else False else False else False else False else False else False else False else bif decide (an i (3) = 3) then bif lZ h.w0 L.W0 then bif lZ h.w1 L.W1 then bif lZ h.w2 L.W2 then bif lZ h.w3 L.W3 then bif lZ s.pg L.P then bif lZ s.rd L.D0 then bif lZ s.wt L.V0 then bif lZ s1.pg L.P1 then bif lZ s1.rd L.D1 then bif lZ s1.wt L.V1 then bif lZ h.tr L.T then False else False else False else False else False else False else False else False else False else False else False else False else False else False else False else stSB h s s1 R k l i L = stSB h s s1 R k l i L ∧ E (Exit.exit (2)) (stSB h s s1 R k l i L)) := by kernel_rfl
def fSA (h : Mh) (s s1 : SesD) (R : List (List D)) (G : List (List D)) : LSum := fun Q x => wI x 4 fun k => wL x 14000 fun W0 => wL x 14001 fun W1 => wL x 14002 fun W2 => wL x 14003 fun W3 => wL x 14010 fun T => wL x 101793155 fun P => wL x 101793162 fun D0 => wL x 101793163 fun V0 => wL x 101793172 fun P1 => wL x 101793179 fun D1 => wL x 101793180 fun V1 => k = (G.length : Nat) ∧ W0 = h.w0 ∧ W1 = h.w1 ∧ W2 = h.w2 ∧ W3 = h.w3 ∧ T = h.tr ∧ P = s.pg ∧ D0 = s.rd ∧ V0 = s.wt ∧ P1 = s1.pg ∧ D1 = s1.rd ∧ V1 = s1.wt ∧ x.arr [0, 2, 3, 4, 5, 6] [14000, 14001, 14002, 14003, 14010, 101793155, 101793162, 101793163, 101793172, 101793179, 101793180, 14009, 4, 6] = stSA h s s1 R k 0 0 0 [] ⟨W0, W1, W2, W3, T, P, D0, V0, P1, D1, V1⟩ ∧ Q (.exit 0) (stSA h s s1 R k k G.length G.length G (lsOf h s s1))
def fSB (h h' : Mh) (s s' s1 : SesD) (R : List (List D)) (n : Nat) (l : Int) : LSum := fun Q x => wI x 4 fun k => wL x 14000 fun W0 => wL x 14001 fun W1 => wL x 14002 fun W2 => wL x 14003 fun W3 => wL x 14010 fun T => wL x 6 fun P => wL x 101793162 fun D0 => wL x 101793163 fun V0 => wL x 101793172 fun P1 => wL x 101793179 fun D1 => wL x 101793180 fun V1 => k = (n : Nat) ∧ W0 = h.w0 ∧ W1 = h.w1 ∧ W2 = h.w2 ∧ W3 = h.w3 ∧ T = h.tr ∧ P = s.pg ∧ D0 = s.rd ∧ V0 = s.wt ∧ P1 = s1.pg ∧ D1 = s1.rd ∧ V1 = s1.wt ∧ x.arr [0, 2, 3, 4, 7, 8] [14000, 14001, 14002, 14003, 14010, 6, 101793162, 101793163, 101793172, 101793179, 101793180, 14009, 4] = stSB h s s1 R k 0 0 ⟨W0, W1, W2, W3, T, P, D0, V0, P1, D1, V1⟩ ∧ Q (.exit 2) (stSB h' s' s1 R k l k (lsOf h' s' s1))
theorem eSL0 (h : Mh) (s s1 : SesD) (K : DV → Prop) : (askW Tryz.prog (hkF [(40, sAtD [] (B true))] [] [(44, Zfz Tryz.prog [] (sAtD [] (.agg (macL 1 h [s, s1]))))]) Tryz.f17 [.c (.s 0 1 [] [])] K) = (([] : List DV) = [] ∧ ([] : List DV) = [] ∧ K (B true)) := by kernel_rfl
theorem eSL (h h' : Mh) (s s' s1 : SesD) (R : List (List D)) (G : List (List D)) (l : Int) (K : DV → Prop) : (askW Tryz.prog (hkFL [(40, sAtD [] (B true)), (25, sI), (45, ZcM), (43, sAtD [I 0, I 0] (.agg (macL 0 h [s, s1])))] [] [(44, Zfz Tryz.prog [] (sAtD [] (.agg (macL 1 h [s, s1]))))] [(10, fSA h s s1 R G), (16, fSB h h' { s with pg := G } s' s1 R G.length l)]) Tryz.f17 [.c (.s 0 1 R [])] K) = (([] : List DV) = [] ∧ ([] : List DV) = [] ∧ bif @Nat.cast Int _ (List.length R) == 0 then K (B true) else Decidable.rec (fun h => (fun x => @Nat.cast Int _ (List.length R)) h) (fun h => (fun x => 8) h) (Int.decLt (8) (@Nat.cast Int _ (List.length R))) = @Nat.cast Int _ (List.length G) ∧ h.w0 ++ [] = h.w0 ∧ h.w1 ++ [] = h.w1 ∧ h.w2 ++ [] = h.w2 ∧ h.w3 ++ [] = h.w3 ∧ h.tr ++ [] = h.tr ∧ s.pg ++ [] = s.pg ∧ s.rd ++ [] = s.rd ∧ s.wt ++ [] = s.wt ∧ s1.pg ++ [] = s1.pg ∧ s1.rd ++ [] = s1.rd ∧ s1.wt ++ [] = s1.wt ∧ stSA h s s1 R (Decidable.rec (fun h => (fun x => @Nat.cast Int _ (List.length R)) h) (fun h => (fun x => 8) h) (Int.decLt (8) (@Nat.cast Int _ (List.length R)))) (0) (0) (0) [] { W0 := h.w0 ++ [], W1 := h.w1 ++ [], W2 := h.w2 ++ [], W3 := h.w3 ++ [], T := h.tr ++ [], P := s.pg ++ [], D0 := s.rd ++ [], V0 := s.wt ++ [], P1 := s1.pg ++ [], D1 := s1.rd ++ [], V1 := s1.wt ++ [] } = stSA h s s1 R (Decidable.rec (fun h => (fun x => @Nat.cast Int _ (List.length R)) h) (fun h => (fun x => 8) h) (Int.decLt (8) (@Nat.cast Int _ (List.length R)))) (0) (0) (0) [] { W0 := h.w0 ++ [], W1 := h.w1 ++ [], W2 := h.w2 ++ [], W3 := h.w3 ++ [], T := h.tr ++ [], P := s.pg ++ [], D0 := s.rd ++ [], V0 := s.wt ++ [], P1 := s1.pg ++ [], D1 := s1.rd ++ [], V1 := s1.wt ++ [] } ∧ Decidable.rec (fun h => (fun x => @Nat.cast Int _ (List.length R)) h) (fun h => (fun x => 8) h) (Int.decLt (8) (@Nat.cast Int _ (List.length R))) = @Nat.cast Int _ (List.length G) ∧ h.w0 = h.w0 ∧ h.w1 = h.w1 ∧ h.w2 = h.w2 ∧ h.w3 = h.w3 ∧ h.tr = h.tr ∧ G = G ∧ s.rd = s.rd ∧ s.wt = s.wt ∧ s1.pg = s1.pg ∧ s1.rd = s1.rd ∧ s1.wt = s1.wt ∧ stSB h { id := s.id, lb := s.lb, cl := s.cl, pg := G, st := s.st, pc := s.pc, r0 := s.r0, r1 := s.r1, r2 := s.r2, r3 := s.r3, rd := s.rd, wt := s.wt, at' := s.at', sp := s.sp, tr := s.tr, rs := s.rs, to := s.to } s1 R (Decidable.rec (fun h => (fun x => @Nat.cast Int _ (List.length R)) h) (fun h => (fun x => 8) h) (Int.decLt (8) (@Nat.cast Int _ (List.length R)))) (0) (0) { W0 := h.w0, W1 := h.w1, W2 := h.w2, W3 := h.w3, T := h.tr, P := G, D0 := s.rd, V0 := s.wt, P1 := s1.pg, D1 := s1.rd, V1 := s1.wt } = stSB h { id := s.id, lb := s.lb, cl := s.cl, pg := G, st := s.st, pc := s.pc, r0 := s.r0, r1 := s.r1, r2 := s.r2, r3 := s.r3, rd := s.rd, wt := s.wt, at' := s.at', sp := s.sp, tr := s.tr, rs := s.rs, to := s.to } s1 R (Decidable.rec (fun h => (fun x => @Nat.cast Int _ (List.length R)) h) (fun h => (fun x => 8) h) (Int.decLt (8) (@Nat.cast Int _ (List.length R)))) (0) (0) { W0 := h.w0, W1 := h.w1, W2 := h.w2, W3 := h.w3, T := h.tr, P := G, D0 := s.rd, V0 := s.wt, P1 := s1.pg, D1 := s1.rd, V1 := s1.wt } ∧ bif decide (0 + List.length s'.wt ≤ List.length s'.wt) then bif okZ (3) (cut s'.wt (0) (List.length s'.wt)) && okZ (3) [[vN (0), vN (0), vN l]] then bif decide (toZ (cut s'.wt (0) (List.length s'.wt)) = toZ [[vN (0), vN (0), vN l]]) then bif @Nat.cast Int _ (List.length h'.tr) == Decidable.rec (fun h => (fun x => @Nat.cast Int _ (List.length R)) h) (fun h => (fun x => 8) h) (Int.decLt (8) (@Nat.cast Int _ (List.length R))) then [I (0), I (0)] = [I (0), I (0)] ∧ K (B (@Nat.cast Int _ (2) == 2)) else K (B false) else K (B false) else False else False) := by kernel_rfl
theorem lZ_t (R : List (List D)) : lZ R R = true := by simp [lZ]
theorem ZtJ (R : List (List D)) : eCu R R = R := Zmy rfl
theorem ZtO (R : List (List D)) : eDu R R = [] := by simp [eDu, cut]
def vL (R : List (List D)) (k : Nat) : Int := band (rI R k) 255
def qL (k : Nat) : Int := band (k : Int) 3
def gS : Nat → List (List Int)
  | 0 => []
  | k + 1 => gS k ++ [[3, qL k, 0, 0]]
def rgS (R : List (List D)) : Nat → N5
  | 0 => ⟨0, 0, 0, 0, 0⟩
  | k + 1 => ZhA (rgS R k).a (rgS R k).b (rgS R k).c (rgS R k).d (qL k) (vL R k)
def wsS (R : List (List D)) : Nat → List (List Int)
  | 0 => []
  | k + 1 => [[0, 0, vL R k]]
def trS (R : List (List D)) : Nat → List (List Int)
  | 0 => []
  | k + 1 => trS R k ++ [[3, 0, 1, vL R k]]
def hS (R : List (List D)) (k : Nat) : Mh := { bH0 with tr := mZ (trS R k) }
def sS (R : List (List D)) (n k : Nat) : SesD := { bA0 with pg := mZ (gS n), pc := k, r0 := (rgS R k).a, r1 := (rgS R k).b, r2 := (rgS R k).c, r3 := (rgS R k).d, wt := mZ (wsS R k) }
def sW (R : List (List D)) (n k : Nat) : SesD := { sS R n k with r0 := (rgS R (k + 1)).a, r1 := (rgS R (k + 1)).b, r2 := (rgS R (k + 1)).c, r3 := (rgS R (k + 1)).d }
theorem ZbN : ∀ k, (gS k).length = k
  | 0 => rfl
  | k + 1 => by rw [gS, List.length_append, ZbN k]; rfl
theorem ZkN : ∀ {n k : Nat}, k < n → (gS n).getD k [] = [3, qL k, 0, 0]
  | 0, _, h => by omega
  | n + 1, k, h => by
    rw [gS]
    by_cases hk : k < n
    · rw [List.getD_eq_getElem?_getD, List.getElem?_append_left (by rw [ZbN]; exact hk), ← List.getD_eq_getElem?_getD]
      exact ZkN hk
    · have : k = n := by omega
      subst this
      rw [List.getD_eq_getElem?_getD, List.getElem?_append_right (by rw [ZbN]; exact Nat.le_refl _), ZbN, Nat.sub_self]; rfl
theorem ZpO (k : Nat) : wid 4 (gS k) := by
  induction k with
  | zero => intro r hr; cases hr
  | succ k ih =>
    intro r hr
    rw [gS] at hr
    rcases List.mem_append.1 hr with h | h
    · exact ih r h
    · rw [List.mem_singleton] at h
      subst h; rfl
theorem Zdv (R : List (List D)) : ∀ k, (trS R k).length = k
  | 0 => rfl
  | k + 1 => by rw [trS, List.length_append, Zdv R k]; rfl
theorem Zn6 (R : List (List D)) (k : Nat) : ∀ r ∈ trS R k, ∃ v, r = [3, 0, 1, v] := by
  induction k with
  | zero => intro r hr; cases hr
  | succ k ih =>
    intro r hr
    rw [trS] at hr
    rcases List.mem_append.1 hr with h | h
    · exact ih r h
    · rw [List.mem_singleton] at h
      exact ⟨_, h⟩
theorem ZnL (k : Nat) : lab (qL k) = true := Ztx _
theorem ZnW (R : List (List D)) (k : Nat) : val8 (vL R k) = true := ZtR _
theorem ZpR (R : List (List D)) : ∀ k, v4 (rgS R k).a (rgS R k).b (rgS R k).c (rgS R k).d = true
  | 0 => rfl
  | k + 1 => Zr6 (ZpR R k) (ZnW R k)
theorem okw0 {v : Int} (h : val8 v = true) : okw [0, 0, v] = true := by
  show (bif lab 0 then bif ix4 0 then val8 v else false else false) = true
  rw [h]; rfl
theorem Zof (R : List (List D)) (k : Nat) : ZbQ (wsS R k) = true := by
  cases k with
  | zero => rfl
  | succ k =>
    show (decide (1 ≤ 16) && !((List.range 1).any (ZdT [[0, 0, vL R k]]))) = true
    show (true && !((!okw [0, 0, vL R k] || false) || false)) = true
    rw [okw0 (ZnW R k)]; rfl
theorem Zpb (R : List (List D)) (k : Nat) : ZaW (wsS R k) [0, 0, vL R k] = wsS R (k + 1) := by
  unfold ZaW
  rw [Zof, okw0 (ZnW R k)]
  cases k with
  | zero => rfl
  | succ k => rfl
theorem ZnE (R : List (List D)) {n k : Nat} (hk : k < n) : List.getD (sW R n k).pg (Int.toNat (sW R n k).pc) [] = [vN 3, vN (qL k), vN 0, vN 0] := by
  show List.getD (mZ (gS n)) (Int.toNat (k : Int)) [] = _
  rw [Int.toNat_natCast, ZhS, ZkN hk]; rfl
theorem ZpP (R : List (List D)) (n k : Nat) : Zgo (sW R n k) (qL k) = vL R k := by
  have e : rgS R (k + 1) = ZhA (rgS R k).a (rgS R k).b (rgS R k).c (rgS R k).d (qL k) (vL R k) := rfl
  unfold Zgo sW
  rw [e]
  unfold ZhA
  rcases ZdL (ZnL k) with h | h | h | h <;> rw [h] <;> rfl
theorem Zr3 (R : List (List D)) {n k : Nat} (hk : k < n) : ZdW (sW R n k) = sS R n (k + 1) := by
  have hi := ZnE R hk
  have ea : iA (sW R n k) = qL k := by unfold iA; rw [hi]; rfl
  have eb : iB (sW R n k) = 0 := by unfold iB; rw [hi]; rfl
  have ed : iD (sW R n k) = 0 := by unfold iD; rw [hi]; rfl
  unfold ZdW
  rw [ea, eb, ed, ZpP]
  have ew : ZaW (toZ (sW R n k).wt) [0, 0, vL R k] = wsS R (k + 1) := by
    show ZaW (toZ (mZ (wsS R k))) [0, 0, vL R k] = _
    rw [ZbY, Zpb]
  rw [ew]
  rfl
theorem ZrB (R : List (List D)) {n k : Nat} (hk : k < n) (hn : n ≤ 8) : Zcf (hS R k) (sW R n k) = hS R (k + 1) := by
  have hi := ZnE R hk
  have ea : iA (sW R n k) = qL k := by unfold iA; rw [hi]; rfl
  unfold Zcf Zjk
  rw [ea, ZpP]
  have hl : decide (((hS R k).tr.length : Int) < 512) = true := by
    show decide (((mZ (trS R k)).length : Int) < 512) = true
    rw [Zaf, Zdv]; simp; omega
  rw [hl]
  show ({ bH0 with tr := mZ (trS R k) ++ [[vN 3, vN 0, vN 1, vN (vL R k)]] } : Mh) = { bH0 with tr := mZ (trS R k ++ [[3, 0, 1, vL R k]]) }
  simp [mZ]
theorem Zrn {h : Mh} {l : List SesD} {tr' : List (List D)} (hm : mmay h l = true) (hl : tr'.length ≤ 512) (he : (toZ tr').any noEv = false) : mmay { h with tr := tr' } l = true := by
  unfold mmay at *
  simp only [Bool.and_eq_true] at *
  refine ⟨hm.1, hm.2.1, hm.2.2.1, hm.2.2.2.1, ?_, hm.2.2.2.2.2.1, hm.2.2.2.2.2.2.1, ?_⟩
  · simp; omega
  · rw [he]; rfl
theorem ZsB (R : List (List D)) {n k : Nat} (hk : k < n) (hn : n ≤ 8) : Zai bH0.w0 bH0.w1 bH0.w2 bH0.w3 (sW R n k) = true := by
  have hl : (sW R n k).pg.length = n := by show (mZ (gS n)).length = n; rw [Zaf, ZbN]
  have hp : pmay (toZ (sW R n k).pg) = true := by
    show pmay (toZ (mZ (gS n))) = true
    rw [ZbY]
    unfold pmay ZbP
    rw [ZbN, decide_eq_true (show n ≤ 16 by omega), Bool.and_true, List.all_eq_true]
    intro i hi
    rw [ZkN (List.mem_range.1 hi)]
    show (imay 3 (qL i) 0 0 && !((3 : Int) == 4 && _)) = true
    unfold imay
    rw [ZnL]; rfl
  have hw : ((toZ (sW R n k).pg).any (noIn bH0.w0 bH0.w1 bH0.w2 bH0.w3)) = false := by
    show ((toZ (mZ (gS n))).any _) = false
    rw [ZbY, List.any_eq_false]
    intro r hr
    obtain ⟨i, hi, rfl⟩ := List.mem_iff_getElem.1 hr
    rw [ZbN] at hi
    have e : (gS n)[i]'(by rw [ZbN]; exact hi) = [3, qL i, 0, 0] := by
      rw [← ZkN hi, List.getD_eq_getElem?_getD, List.getElem?_eq_getElem (by rw [ZbN]; exact hi)]; rfl
    rw [e]
    show ¬ ((isRW 3 && !thW bH0.w0 bH0.w1 bH0.w2 bH0.w3 0 0) = true)
    decide +kernel
  have hwr : ((toZ (sW R n k).wt).any (noWr bH0.w0 bH0.w1 bH0.w2 bH0.w3)) = false := by
    show ((toZ (mZ (wsS R k))).any _) = false
    rw [ZbY]
    cases k with
    | zero => rfl
    | succ k =>
      show ((!thW bH0.w0 bH0.w1 bH0.w2 bH0.w3 0 0) || false) = false
      decide +kernel
  have hwm : ZbQ (toZ (sW R n k).wt) = true := by
    show ZbQ (toZ (mZ (wsS R k))) = true
    rw [ZbY, Zof]
  have e1 : smay (sW R n k).id (sW R n k).lb (sW R n k).cl (toZ (sW R n k).pg) = true := by
    unfold smay
    rw [hp]
    show (idm 3 && (lab 0 && (lab 3 && (und 0 3 && true)))) = true
    decide +kernel
  have e2 : Zhe bH0.w0 bH0.w1 bH0.w2 bH0.w3 (sW R n k) = true := by
    unfold Zhe
    rw [hw, hwr, hwm]; rfl
  have e3 : farB (sW R n k) = true := by
    unfold farB
    rw [hl]
    have h1 : upto (sW R n k).pc 0 n = true := by
      show upto (k : Int) 0 n = true
      unfold upto
      simp; omega
    have h2 : upto (sW R n k).at' 0 (sW R n k).wt.length = true := by
      show upto 0 0 ((mZ (wsS R k)).length : Int) = true
      unfold upto
      simp
    rw [h1, h2]; rfl
  have e4 : Zkr (sW R n k) = true := by
    unfold Zkr
    have := ZpR R (k + 1)
    show (v4 (rgS R (k + 1)).a (rgS R (k + 1)).b (rgS R (k + 1)).c (rgS R (k + 1)).d && _) = true
    rw [this]; rfl
  unfold Zai
  rw [e1, e2, e3, e4]; rfl
theorem Zog (R : List (List D)) (k : Nat) : wid 4 (trS R k) := fun r hr => by obtain ⟨v, rfl⟩ := Zn6 R k r hr; rfl
theorem Znk (R : List (List D)) (k : Nat) : wid 3 (wsS R k) := by
  cases k with
  | zero => intro r hr; cases hr
  | succ k => intro r hr; rw [wsS, List.mem_singleton] at hr; subst hr; rfl
theorem ZjZ (R : List (List D)) (k : Nat) : (wsS R k).length ≤ 1 := by cases k <;> simp [wsS]
theorem ZtT (R : List (List D)) {n k : Nat} (hk : k ≤ n) (hn : n ≤ 8) (s : SesD) (h1 : s.pg = mZ (gS n)) (h2 : s.rd = []) (h3 : s.wt = mZ (wsS R k)) : okM (hS R k) [s, bB] = true := by
  have hs : Zaz s = true := by
    unfold Zaz
    rw [h1, h2, h3, Zdo (ZpO n) (by rw [ZbN]; omega), Zdo (Znk R k) (by have := ZjZ R k; omega)]; rfl
  have ht : okZ 4 (hS R k).tr = true := Zdo (Zog R k) (by rw [Zdv]; omega)
  unfold okM okSS
  rw [List.all_cons, hs, ht]; rfl
theorem Zt4 (R : List (List D)) {n k : Nat} (hk : k < n) (hn : n ≤ 8) : mmay (hS R k) [sW R n k, bB] = true :=
  Zrn (Zp9 (s := bA0) (s' := sW R n k) rfl mm_b (ZsB R hk hn)) (by rw [Zaf, Zdv]; omega) (by
    rw [ZbY, List.any_eq_false]
    intro r hr
    obtain ⟨v, rfl⟩ := Zn6 R k r hr
    show ¬ noEv [3, 0, 1, v] = true
    simp [noEv, lab, upto])
theorem ZtY (R : List (List D)) {n k : Nat} (hk : k < n) (hn : n ≤ 8) : mAt (has1 3) (hS R k) [sW R n k, bB] 0 = true := by
  unfold mAt Zcr
  rw [Zt4 R hk hn]
  show atS (has1 3) (sW R n k) = true
  have hl : (sW R n k).pg.length = n := by show (mZ (gS n)).length = n; rw [Zaf, ZbN]
  unfold atS ZkV
  rw [ZnE R hk, hl]
  have : decide ((sW R n k).pc < (n : Int)) = true := by show decide ((k : Int) < n) = true; simp; omega
  rw [this]; rfl
theorem Zun (R : List (List D)) {n k : Nat} (hn : n ≤ 8) (hk : k ≤ n) : smM (hS R k) [sS R n k, bB] = true := by
  have h1 : smR 4398046510977 (mZ (gS n)) = true := ZcW (Zdo (ZpO n) (by rw [ZbN]; omega)) (show (mZ (gS n)).length ≤ 8 by rw [Zaf, ZbN]; exact hn) (by decide)
  have h2 : smR 5864062014635 (mZ (wsS R k)) = true := ZcW (Zdo (Znk R k) (by have := ZjZ R k; omega)) (show (mZ (wsS R k)).length ≤ 1 by rw [Zaf]; exact ZjZ R k) (by decide)
  have h3 : smR 4398046510977 (mZ (trS R k)) = true := ZcW (Zdo (Zog R k) (by rw [Zdv]; omega)) (show (mZ (trS R k)).length ≤ 8 by rw [Zaf, Zdv]; omega) (by decide)
  have h4 : smS (sS R n k) = true := by
    unfold smS
    show (smR 4398046510977 (mZ (gS n)) && (_ && smR 5864062014635 (mZ (wsS R k)))) = true
    rw [h1, h2]; rfl
  have e : smM (hS R k) [sS R n k, bB] = (okC4 bH0.w0 bH0.w1 bH0.w2 bH0.w3 && (smR 4398046510977 (mZ (trS R k)) && (smS (sS R n k) && (smS bB && true)))) := rfl
  rw [e, h3, h4]; decide +kernel
theorem ZtI (R : List (List D)) {n k : Nat} (hk : k < n) (hn : n ≤ 8) : CT Tryz.prog 38 [.agg (macL 0 (hS R k) [sW R n k, bB]), I 0] (.tup [.agg (macL 1 (hS R (k + 1)) [sS R n (k + 1), bB]), I 0]) := by
  have h := cSto (hS R k) [sW R n k, bB] 0 (ZtT R (Nat.le_of_lt hk) hn _ rfl rfl rfl)
  rw [ZtY R hk hn] at h
  have e : ([sW R n k, bB].set (Int.toNat 0) (ZdW ([sW R n k, bB].getD (Int.toNat 0) default))) = [sS R n (k + 1), bB] := by
    show [ZdW (sW R n k), bB] = _
    rw [Zr3 R hk]
  have e2 : Zcf (hS R k) ([sW R n k, bB].getD (Int.toNat 0) default) = hS R (k + 1) := ZrB R hk hn
  rw [e, e2] at h
  exact h
theorem kSA {R : List (List D)} {n : Nat} (hn : n ≤ 8) (s s1 : SesD) (h : Mh) (Q : Exit → X → Prop) (x : X) (hq : fSA h s s1 R (mZ (gS n)) Q x) : XWP Tryz.prog (.loop (Zan Tryz.f17 0)) Q x := by
  unfold fSA at hq
  obtain ⟨k, hq⟩ := Zby hq
  obtain ⟨W0, hq⟩ := Zbg hq
  obtain ⟨W1, hq⟩ := Zbg hq
  obtain ⟨W2, hq⟩ := Zbg hq
  obtain ⟨W3, hq⟩ := Zbg hq
  obtain ⟨T, hq⟩ := Zbg hq
  obtain ⟨P, hq⟩ := Zbg hq
  obtain ⟨D0, hq⟩ := Zbg hq
  obtain ⟨V0, hq⟩ := Zbg hq
  obtain ⟨P1, hq⟩ := Zbg hq
  obtain ⟨D1, hq⟩ := Zbg hq
  obtain ⟨V1, hq⟩ := Zbg hq
  obtain ⟨rfl, rfl, rfl, rfl, rfl, rfl, rfl, rfl, rfl, rfl, rfl, rfl, hx, hq⟩ := hq
  rw [Zaf, ZbN] at hx hq
  have hH : Zal Tryz.prog { hkX band bor [] [] [] with spl := true, foc := true } := (ZfC .nil .nil .nil : Zal Tryz.prog (hkX band bor [] [] []))
  refine Zcm (sw := []) (V := ZgQ h s s1 R n (lsOf h s s1)) (VE := fun _ => ZgQ h s s1 R n (lsOf h s s1)) mixed (Zik h s s1 R n _) (fun _ => Zik h s s1 R n _) (fun i => stSA h s s1 R n i i i (mZ (gS i)) (lsOf h s s1)) (fun i => stSA h s s1 R n i i i (mZ (gS i)) (lsOf h s s1)) n (fun _ => false) .ret (.exit 0) (fun i hi => ⟨_, hH, Zah rfl, fun N E _ q => ?_⟩) ⟨_, hH, Zah rfl, fun N E q => ?_⟩ Q x ⟨hx, fun i hf => by have := hf.2.1; simp at this, fun _ => hq⟩
  · have q := q rfl
    rw [rSA]
    have d0 : decide ((i : Int) < (n : Int)) = true := by simp; omega
    have d3 : rN i (mZ (gS i)) = true := by
      unfold rN
      rw [Zaf, ZbN]
      simp; omega
    have wi : IntKind.wrap IntKind.i64 ((i : Int) + 1) = ((i + 1 : Nat) : Int) := Zat (n := 1) (by omega)
    have tk : List.take i (mZ (gS i)) = mZ (gS i) := List.take_of_length_le (by rw [Zaf, ZbN]; exact Nat.le_refl _)
    have e3 : mZ (gS (i + 1)) = mZ (gS i) ++ [[vN 3, vN (band (i : Int) 3), vN 0, vN 0]] := by
      show mZ (gS i ++ [[3, qL i, 0, 0]]) = _
      simp [mZ, qL]
    rw [e3] at q
    simp only [d0, d3, cond_true, tk, wi]
    exact ⟨trivial, q⟩
  · rw [rSA]
    have d0 : decide ((n : Int) < (n : Int)) = false := by simp
    simp only [d0, cond_false, true_and]
    exact q
theorem kSB {R : List (List D)} {n : Nat} (hR : okZ 1 R = true) (hn : n ≤ 8) (hl : n ≤ R.length) (h0 : 0 < n) (Q : Exit → X → Prop) (x : X) (hq : fSB bH0 (hS R n) (sS R n 0) (sS R n n) bB R n (vL R (n - 1)) Q x) : XWP Tryz.prog (.loop (Zan Tryz.f17 1)) Q x := by
  unfold fSB at hq
  obtain ⟨k, hq⟩ := Zby hq
  obtain ⟨W0, hq⟩ := Zbg hq
  obtain ⟨W1, hq⟩ := Zbg hq
  obtain ⟨W2, hq⟩ := Zbg hq
  obtain ⟨W3, hq⟩ := Zbg hq
  obtain ⟨T, hq⟩ := Zbg hq
  obtain ⟨P, hq⟩ := Zbg hq
  obtain ⟨D0, hq⟩ := Zbg hq
  obtain ⟨V0, hq⟩ := Zbg hq
  obtain ⟨P1, hq⟩ := Zbg hq
  obtain ⟨D1, hq⟩ := Zbg hq
  obtain ⟨V1, hq⟩ := Zbg hq
  obtain ⟨rfl, rfl, rfl, rfl, rfl, rfl, rfl, rfl, rfl, rfl, rfl, rfl, hx, hq⟩ := hq
  have hH : ∀ {h h' : Mh} {sw s' s1 : SesD}, CT Tryz.prog 38 [.agg (macL 0 h [sw, s1]), I 0] (.tup [.agg (macL 1 h' [s', s1]), I 0]) → smM h' [s', s1] = true → Zal Tryz.prog { hkX band bor [(25, sI)] [] [(38, Zfz Tryz.prog [34] (sAtL [.agg (macL 0 h [sw, s1]), I 0] (.tup [.agg (macL 1 h' [s', s1]), I 0])))] with spl := true, foc := true } := fun {h h' sw s' s1} hc hs =>
    (ZfC (.cons oNum .nil) .nil (.cons (Zch (oAtL Tryz.func38 (by kernel_rfl) rfl hc (Zk2 hs 0) rfl)) .nil) : Zal Tryz.prog (hkX band bor [(25, sI)] [] [(38, Zfz Tryz.prog [34] (sAtL [.agg (macL 0 h [sw, s1]), I 0] (.tup [.agg (macL 1 h' [s', s1]), I 0])))]))
  refine Zn7 (sw := [(57000, 14000), (57001, 14001), (57002, 14002), (57003, 14003), (57009, 14009), (57010, 14010), (107297155, 6), (107297162, 101793162), (107297163, 101793163), (107297172, 101793172), (107297179, 101793179), (107297180, 101793180)]) mixed (fun i => stSB (hS R i) (sS R n i) bB R n (bif decide (i = 0) then 0 else vL R (i - 1)) i (lsOf (hS R i) (sS R n i) bB)) (fun i => stSB (hS R i) (sS R n i) bB R n 0 i (lsOf (hS R i) (sS R n i) bB)) n (fun _ => false) .ret (.exit 2) (fun i hi _ => ⟨_, Zho (hS R (i + 1)) (sS R n (i + 1)) bB R n, fun _ => ZeK (hS R i) (sS R n i) bB R n (lsOf (hS R i) (sS R n i) bB), hH (ZtI R hi hn) (Zun R hn (by omega)), Zah rfl, Zme _ _ _ _ _, fun _ => ZfT _ _ _ _ _ _, fun N E _ q => ?_⟩) (fun _ => ⟨{ hkX band bor [(25, sI)] [] [] with spl := true, foc := true }, ZeK (hS R n) (sS R n n) bB R n (lsOf (hS R n) (sS R n n) bB), fun _ => ZeK (hS R n) (sS R n n) bB R n (lsOf (hS R n) (sS R n n) bB), (ZfC (.cons oNum .nil) .nil .nil : Zal Tryz.prog (hkX band bor [(25, sI)] [] [])), Zah rfl, ZfT _ _ _ _ _ _, fun _ => ZfT _ _ _ _ _ _, fun N E q => ?_⟩) Q x ⟨hx, fun i hf => by have := hf.2.1; simp at this, fun _ => by
    show Q (.exit 2) (stSB (hS R n) (sS R n n) bB R n (bif decide (n = 0) then 0 else vL R (n - 1)) n (lsOf (hS R n) (sS R n n) bB))
    rw [decide_eq_false (show ¬ n = 0 by omega)]
    exact hq⟩
  · have q := q rfl
    rw [rSB]
    have d0 : decide ((i : Int) < (n : Int)) = true := by simp; omega
    have d1 : rB R i = true := by unfold rB; simp; omega
    have d2 : rJ R i = true := by
      unfold rJ
      rw [Int.toNat_natCast]
      have e := (Zag hR).1
      rw [e]
      exact ZcZ (Zag hR).2.1 (by rw [Zau]; omega) (by omega)
    have wi : IntKind.wrap IntKind.i64 ((i : Int) + 1) = ((i + 1 : Nat) : Int) := Zat (n := 1) (by omega)
    have q : N (stSB (hS R (i + 1)) (sS R n (i + 1)) bB R n (vL R i) ((i + 1 : Nat) : Int) (lsOf (hS R (i + 1)) (sS R n (i + 1)) bB)) := q
    have eL : (⟨(hS R (i + 1)).w0, (hS R (i + 1)).w1, (hS R (i + 1)).w2, (hS R (i + 1)).w3, (hS R (i + 1)).tr, (sS R n (i + 1)).pg, (sS R n (i + 1)).rd, (sS R n (i + 1)).wt, bB.pg, bB.rd, bB.wt⟩ : Ls) = lsOf (hS R (i + 1)) (sS R n (i + 1)) bB := rfl
    have w0 : (lsOf (hS R i) (sS R n i) bB).W0 = (hS R i).w0 := rfl
    have w1 : (lsOf (hS R i) (sS R n i) bB).W1 = (hS R i).w1 := rfl
    have w2 : (lsOf (hS R i) (sS R n i) bB).W2 = (hS R i).w2 := rfl
    have w3 : (lsOf (hS R i) (sS R n i) bB).W3 = (hS R i).w3 := rfl
    have w4 : (lsOf (hS R i) (sS R n i) bB).T = (hS R i).tr := rfl
    have w5 : (lsOf (hS R i) (sS R n i) bB).P = (sS R n i).pg := rfl
    have w6 : (lsOf (hS R i) (sS R n i) bB).D0 = (sS R n i).rd := rfl
    have w7 : (lsOf (hS R i) (sS R n i) bB).V0 = (sS R n i).wt := rfl
    have w8 : (lsOf (hS R i) (sS R n i) bB).P1 = bB.pg := rfl
    have w9 : (lsOf (hS R i) (sS R n i) bB).D1 = bB.rd := rfl
    have w10 : (lsOf (hS R i) (sS R n i) bB).V1 = bB.wt := rfl
    have hv : band (rI R i) 255 = vL R i := rfl
    have hqv : band (i : Int) 3 = qL i := rfl
    have er : rgS R (i + 1) = ZhA (rgS R i).a (rgS R i).b (rgS R i).c (rgS R i).d (qL i) (vL R i) := rfl
    simp only [d0, d1, d2, cond_true, w0, w1, w2, w3, w4, w5, w6, w7, w8, w9, w10, lZ_t, ZtJ, ZtO, List.append_nil, wi, hv, hqv, eL]
    have fin : ∀ (a b c d : Int), rgS R (i + 1) = ⟨a, b, c, d, 0⟩ → Zl1 [.agg [.s 0 3 (hS R i).w0 [], .s 0 3 (hS R i).w1 [], .s 0 3 (hS R i).w2 [], .s 0 3 (hS R i).w3 [], vN (hS R i).c0, vN (hS R i).c1, vN (hS R i).c2, vN (hS R i).c3, vN (hS R i).ce, .s 0 17 [[vN (sS R n i).id, vN (sS R n i).lb, vN (sS R n i).cl, .s 0 4 (sS R n i).pg [], vN (sS R n i).st, vN (sS R n i).pc, vN a, vN b, vN c, vN d, .s 0 3 (sS R n i).rd [], .s 0 3 (sS R n i).wt [], vN (sS R n i).at', vN (sS R n i).sp, vN (sS R n i).tr, vN (sS R n i).rs, vN (sS R n i).to], sesL 0 bB] [], .s 0 4 (hS R i).tr []], I 0] [.agg (Zck 0 (hS R i) [sesL 0 (sW R n i), sesL 0 bB]), I 0] := by
      intro a b c d e
      have e2 : sesL 0 (sW R n i) = [vN (sS R n i).id, vN (sS R n i).lb, vN (sS R n i).cl, .s 0 4 (sS R n i).pg [], vN (sS R n i).st, vN (sS R n i).pc, vN (rgS R (i + 1)).a, vN (rgS R (i + 1)).b, vN (rgS R (i + 1)).c, vN (rgS R (i + 1)).d, .s 0 3 (sS R n i).rd [], .s 0 3 (sS R n i).wt [], vN (sS R n i).at', vN (sS R n i).sp, vN (sS R n i).tr, vN (sS R n i).rs, vN (sS R n i).to] := rfl
      rw [e2, e]
      exact .cons (.refl _) (.cons (.refl _) .nil)
    rcases ZdL (ZnL i) with h | h | h | h <;> rw [h] at er <;> rw [h] <;> simp only [Int.reduceEq, decide_true, decide_false, cond_true, cond_false]
    · exact ⟨fin _ _ _ _ er, trivial, q⟩
    · exact ⟨fin _ _ _ _ er, trivial, q⟩
    · exact ⟨fin _ _ _ _ er, trivial, q⟩
    · exact ⟨fin _ _ _ _ er, trivial, q⟩
  · rw [rSBe]
    have d0 : decide ((n : Int) < (n : Int)) = false := by simp
    simp only [d0, cond_false, true_and]
    exact q
theorem cSL (R : List (List D)) (hR : okZ 1 R = true) : CT Tryz.prog 17 [.c (.s 0 1 R [])] (B true) := by
  obtain ⟨n, hn, hl, hz, hnk⟩ : ∃ n : Nat, n ≤ 8 ∧ n ≤ R.length ∧ (R.length ≠ 0 → 0 < n) ∧ (if (8 : Int) < (R.length : Int) then 8 else (R.length : Int)) = (n : Int) := by
    by_cases h : (8 : Int) < (R.length : Int)
    · exact ⟨8, by omega, by omega, by omega, by rw [if_pos h]; rfl⟩
    · exact ⟨R.length, by omega, by omega, by omega, by rw [if_neg h]⟩
  have hG : (mZ (gS n)).length = n := by rw [Zaf, ZbN]
  have e0 : ({ bA0 with pg := mZ (gS n) } : SesD) = sS R n 0 := rfl
  have hst : Zad Tryz.prog 43 (sAtD [I 0, I 0] (.agg (macL 0 bH0 [bA0, bB]))) := oAtZ (Zar Tryz.func43 (by kernel_rfl) rfl) Zo2 rfl (Zqa (Zto _ _) rfl) rfl
  by_cases h0 : R.length = 0
  · obtain rfl := List.length_eq_zero_iff.1 h0
    refine Zrb (.cons Ztf .nil) .nil (.cons (Zch (tys := []) (oAtD (Zar Tryz.func44 (by kernel_rfl) rfl) ZkW rfl rfl)) .nil) mixed Tryz.func17 rfl rfl rfl ?_
    rw [eSL0]
    exact ⟨⟨rfl, rfl, AL.refl _⟩⟩
  · have hpos := hz h0
    have hL : ZmI Tryz.prog Tryz.f17 [(10, fSA bH0 bA0 bB R (mZ (gS n))), (16, fSB bH0 (hS R n) { bA0 with pg := mZ (gS n) } (sS R n n) bB R (mZ (gS n)).length (vL R (n - 1)))] := fun j hj s' hs' Q x hq => by
      have hj2 : j < 2 := hj
      have : j = 0 ∨ j = 1 := by omega
      rcases this with rfl | rfl
      · cases hs'; exact kSA hn _ _ _ Q x hq
      · cases hs'; rw [hG, e0] at hq; exact kSB hR hn hl hpos Q x hq
    refine ZuR (.cons Ztf (.cons oNum (.cons Zft (.cons hst .nil)))) .nil (.cons (Zch (tys := []) (oAtD (Zar Tryz.func44 (by kernel_rfl) rfl) ZkW rfl rfl)) .nil) mixed hL Tryz.func17 rfl rfl rfl ?_
    rw [eSL]
    have hnk : (Decidable.rec (fun h => (fun x => @Nat.cast Int _ (List.length R)) h) (fun h => (fun x => 8) h) (Int.decLt 8 (@Nat.cast Int _ (List.length R))) : Int) = (n : Int) := hnk
    have hb : (@Nat.cast Int _ (List.length R) == 0) = false := beq_eq_false_iff_ne.2 (by omega)
    refine ⟨rfl, rfl, ?_⟩
    rw [hnk, hG, hb]
    obtain ⟨m, rfl⟩ : ∃ m, n = m + 1 := ⟨n - 1, by omega⟩
    have c1 : cut (sS R (m + 1) (m + 1)).wt 0 (List.length (sS R (m + 1) (m + 1)).wt) = (sS R (m + 1) (m + 1)).wt := ZtX
    have c2 : (sS R (m + 1) (m + 1)).wt = [[vN 0, vN 0, vN (vL R m)]] := rfl
    have c3 : (@Nat.cast Int _ (List.length (hS R (m + 1)).tr) == ((m + 1 : Nat) : Int)) = true := by
      show (((mZ (trS R (m + 1))).length : Int) == ((m + 1 : Nat) : Int)) = true
      rw [Zaf, Zdv]; simp
    refine ⟨rfl, by simp, by simp, by simp, by simp, by simp, by simp, by simp, by simp, by simp, by simp, by simp, by simp, ?_⟩
    have c4 : decide (toZ [[vN 0, vN 0, vN (vL R m)]] = toZ [[vN 0, vN 0, vN (vL R (m + 1 - 1))]]) = true := decide_eq_true rfl
    rw [c3, c1, c2, c4]
    exact ⟨rfl, rfl, rfl, rfl, rfl, rfl, rfl, rfl, rfl, rfl, rfl, rfl, rfl, rfl, AL.refl _⟩
theorem cSLg (rows : List (List Int)) (hw : ∀ r ∈ rows, r.length = 1 ∧ ∀ n ∈ r, (Lit.int .i64 n).wf = true) (hl : rows.length * 8 ≤ 140737488351232) : CT Tryz.prog 17 [.c (.s 0 1 (rows.map fun r => r.map vi) [])] (B true) :=
  cSL (mZ rows) (Zdo (fun r hr => (hw r hr).1) (by omega))
end

end Vm
