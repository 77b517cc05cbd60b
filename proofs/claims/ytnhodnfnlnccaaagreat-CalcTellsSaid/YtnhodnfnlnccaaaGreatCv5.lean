/- An interpreter for Go's texts over plain data, its proof, and what it says of the functions that the law reaches. My own work. -/
import Derived.Test.YtnhodnfnlnccaaaGreatCv4
namespace Vm
section
open Go Go.Proofs
set_option linter.unusedSimpArgs false
set_option linter.unusedVariables false
set_option maxRecDepth 100000
def sLS : Spec := fun ds Q => match ds with
  | [.agg [p], e] => takeWP p fun R0 R1 R2 R3 => sesA e fun s => cond (okSes s) (Q (B (sesMay R0 R1 R2 R3 s))) False
  | _ => False
theorem oLS : SpecOK Tryz.prog 66 sLS := o_al Tryz.func66 (by kernel_rfl) rfl fun ds Q h => by
  unfold sLS at h; split at h
  · obtain ⟨R0, R1, R2, R3, h, r1, e1⟩ := takeWP_spec h
    obtain ⟨s, h, r2⟩ := sesA_spec h
    obtain ⟨h1, h2⟩ := cond_P h
    exact ⟨_, _, .cons (.agg (.cons r1 .nil) (by simp [e1]) rfl) (.cons r2 .nil), cLS R0 R1 R2 R3 s h1, rfl, rfl, h2⟩
  · exact h.elim
theorem eA1S (R0 R1 R2 R3 : List (List D)) (s : SesD) (K : DV → Prop) : (ask Tryz.prog [(66, sLS)] Tryz.f104 [.agg (sesL 0 s), .c (.p 0 [.f 66 [.f AG [] [.p 0 (wsL R0 R1 R2 R3) 0]] []] 0)] K) = (bif okSes s then K (DV.c (D.v (Value.bool !sesMay R0 R1 R2 R3 s))) else False) := by kernel_rfl
def sA1S : Spec := fun ds Q => match ds with
  | [e, .c (.p _ [c] 0)] => sesA e fun s => takeCl 66 c fun R0 R1 R2 R3 => cond (okSes s) (Q (B (!sesMay R0 R1 R2 R3 s))) False
  | _ => False
theorem oA1S : SpecOK Tryz.prog 104 sA1S := o_al Tryz.func104 (by kernel_rfl) rfl fun ds Q h => by
  unfold sA1S at h; split at h
  · obtain ⟨s, h, r2⟩ := sesA_spec h
    obtain ⟨R0, R1, R2, R3, h, r1, e1⟩ := takeCl_spec (by decide) h
    obtain ⟨h1, h2⟩ := cond_P h
    exact ⟨_, _, .cons r2 (.cons (.c (RD.cells (t' := 0) (.cons r1 .nil)) rfl rfl) .nil), ct_ask (.cons oLS .nil) mixed Tryz.func104 rfl rfl rfl (by rw [eA1S, h1]; rfl), rfl, rfl, h2⟩
  · exact h.elim
def iIxS : Inl := inlB Tryz.prog band bor [(104, sA1S)] [] [] Tryz.f152
def iCoS : Inl := inlB Tryz.prog band bor [] [] [(152, iIxS)] Tryz.f103
theorem iIxS_ok : InlOK Tryz.prog 152 iIxS := inlB_ok (.cons oA1S .nil) .nil .nil mixed Tryz.func152 rfl (goes_of Tryz.func152 (by kernel_rfl) rfl)
theorem iCoS_ok : InlOK Tryz.prog 103 iCoS := inlB_ok .nil .nil (.cons iIxS_ok .nil) mixed Tryz.func103 rfl (goes_of Tryz.func103 (by kernel_rfl) rfl)
theorem bifN (p q : Bool) (x : DV) : (bif !p then (DV.c (.v (.bool false)) = x) else (DV.c (.v (.bool q)) = x)) = (DV.c (.v (.bool (p && q))) = x) := by cases p <;> rfl
theorem eAllS0 (R0 R1 R2 R3 : List (List D)) (K : DV → Prop) : (askX Tryz.prog band bor [] [] [(103, iCoS)] Tryz.f65 [.c (.s 0 17 ([].map (sesL 0)) []), .c (.f 66 [.f AG [] [.p 0 (wsL R0 R1 R2 R3) 0]] [])] K) = (K (DV.c (D.v (Value.bool true)))) := by kernel_rfl
theorem eAllS1 (R0 R1 R2 R3 : List (List D)) (s0 : SesD) (K : DV → Prop) : (askX Tryz.prog band bor [] [] [(103, iCoS)] Tryz.f65 [.c (.s 0 17 ([s0].map (sesL 0)) []), .c (.f 66 [.f AG [] [.p 0 (wsL R0 R1 R2 R3) 0]] [])] K) = (bif okSes s0 then bif !sesMay R0 R1 R2 R3 s0 then K (DV.c (D.v (Value.bool false))) else K (DV.c (D.v (Value.bool true))) else False) := by kernel_rfl
theorem eAllS2 (R0 R1 R2 R3 : List (List D)) (s0 s1 : SesD) (K : DV → Prop) : (askX Tryz.prog band bor [] [] [(103, iCoS)] Tryz.f65 [.c (.s 0 17 ([s0, s1].map (sesL 0)) []), .c (.f 66 [.f AG [] [.p 0 (wsL R0 R1 R2 R3) 0]] [])] K) = (bif okSes s0 then bif !sesMay R0 R1 R2 R3 s0 then K (DV.c (D.v (Value.bool false))) else bif okSes s1 then bif !sesMay R0 R1 R2 R3 s1 then K (DV.c (D.v (Value.bool false))) else K (DV.c (D.v (Value.bool true))) else False else False) := by kernel_rfl
theorem eAllS3 (R0 R1 R2 R3 : List (List D)) (s0 s1 s2 : SesD) (K : DV → Prop) : (askX Tryz.prog band bor [] [] [(103, iCoS)] Tryz.f65 [.c (.s 0 17 ([s0, s1, s2].map (sesL 0)) []), .c (.f 66 [.f AG [] [.p 0 (wsL R0 R1 R2 R3) 0]] [])] K) = (bif okSes s0 then bif !sesMay R0 R1 R2 R3 s0 then K (DV.c (D.v (Value.bool false))) else bif okSes s1 then bif !sesMay R0 R1 R2 R3 s1 then K (DV.c (D.v (Value.bool false))) else bif okSes s2 then bif !sesMay R0 R1 R2 R3 s2 then K (DV.c (D.v (Value.bool false))) else K (DV.c (D.v (Value.bool true))) else False else False else False) := by kernel_rfl
theorem eAllS4 (R0 R1 R2 R3 : List (List D)) (s0 s1 s2 s3 : SesD) (K : DV → Prop) : (askX Tryz.prog band bor [] [] [(103, iCoS)] Tryz.f65 [.c (.s 0 17 ([s0, s1, s2, s3].map (sesL 0)) []), .c (.f 66 [.f AG [] [.p 0 (wsL R0 R1 R2 R3) 0]] [])] K) = (bif okSes s0 then bif !sesMay R0 R1 R2 R3 s0 then K (DV.c (D.v (Value.bool false))) else bif okSes s1 then bif !sesMay R0 R1 R2 R3 s1 then K (DV.c (D.v (Value.bool false))) else bif okSes s2 then bif !sesMay R0 R1 R2 R3 s2 then K (DV.c (D.v (Value.bool false))) else bif okSes s3 then bif !sesMay R0 R1 R2 R3 s3 then K (DV.c (D.v (Value.bool false))) else K (DV.c (D.v (Value.bool true))) else False else False else False else False) := by kernel_rfl
def okSS (ss : List SesD) : Bool := ss.all okSes
theorem cAllS (R0 R1 R2 R3 : List (List D)) : ∀ (ss : List SesD), ss.length ≤ 4 → okSS ss = true → CT Tryz.prog 65 [.c (.s 0 17 (ss.map (sesL 0)) []), .c (.f 66 [.f AG [] [.p 0 (wsL R0 R1 R2 R3) 0]] [])] (B (ss.all (sesMay R0 R1 R2 R3))) := by
  intro ss hl hok
  unfold okSS at hok
  rcases ss with _ | ⟨s0, _ | ⟨s1, _ | ⟨s2, _ | ⟨s3, _ | ⟨s4, l⟩⟩⟩⟩⟩
  · refine ct_x .nil .nil (.cons iCoS_ok .nil) mixed Tryz.func65 rfl rfl rfl ?_
    rw [eAllS0]
    refine ⟨?_⟩
    simp only [List.all_cons, List.all_nil, Bool.and_eq_true, Bool.and_true] at hok
    simp only [hok, cond_true, List.all_cons, List.all_nil, bifN, Bool.and_true, Bool.and_assoc]
  · refine ct_x .nil .nil (.cons iCoS_ok .nil) mixed Tryz.func65 rfl rfl rfl ?_
    rw [eAllS1]
    refine ⟨?_⟩
    simp only [List.all_cons, List.all_nil, Bool.and_eq_true, Bool.and_true] at hok
    simp only [hok, cond_true, List.all_cons, List.all_nil, bifN, Bool.and_true, Bool.and_assoc]
  · refine ct_x .nil .nil (.cons iCoS_ok .nil) mixed Tryz.func65 rfl rfl rfl ?_
    rw [eAllS2]
    refine ⟨?_⟩
    simp only [List.all_cons, List.all_nil, Bool.and_eq_true, Bool.and_true] at hok
    simp only [hok, cond_true, List.all_cons, List.all_nil, bifN, Bool.and_true, Bool.and_assoc]
  · refine ct_x .nil .nil (.cons iCoS_ok .nil) mixed Tryz.func65 rfl rfl rfl ?_
    rw [eAllS3]
    refine ⟨?_⟩
    simp only [List.all_cons, List.all_nil, Bool.and_eq_true, Bool.and_true] at hok
    simp only [hok, cond_true, List.all_cons, List.all_nil, bifN, Bool.and_true, Bool.and_assoc]
  · refine ct_x .nil .nil (.cons iCoS_ok .nil) mixed Tryz.func65 rfl rfl rfl ?_
    rw [eAllS4]
    refine ⟨?_⟩
    simp only [List.all_cons, List.all_nil, Bool.and_eq_true, Bool.and_true] at hok
    simp only [hok, cond_true, List.all_cons, List.all_nil, bifN, Bool.and_true, Bool.and_assoc]
  · simp at hl
def sAllS : Spec := fun ds Q => match ds with
  | [.c d, .c e] => cond d.isOwn False (takeSS d fun ss => takeCl 66 e fun R0 R1 R2 R3 => cond (Nat.ble ss.length 4 && okSS ss) (Q (B (ss.all (sesMay R0 R1 R2 R3)))) False)
  | _ => False
theorem oAllS : SpecOK Tryz.prog 65 sAllS := o_al Tryz.func65 (by kernel_rfl) rfl fun ds Q h => by
  unfold sAllS at h; split at h
  · rename_i d e
    cases hd : d.isOwn with
    | true => rw [hd] at h; exact h.elim
    | false =>
      rw [hd] at h
      obtain ⟨ss, h, r1⟩ := takeSS_spec h
      obtain ⟨R0, R1, R2, R3, h, r2, e2⟩ := takeCl_spec (by decide) h
      obtain ⟨h1, h2⟩ := cond_P h
      rw [Bool.and_eq_true] at h1
      exact ⟨_, _, .cons (.c r1 hd rfl) (.cons (.c r2 e2 rfl) .nil), cAllS R0 R1 R2 R3 ss (Nat.le_of_ble_eq_true h1.1) h1.2, rfl, rfl, h2⟩
  · exact h.elim
def idsUp : List SesD → Bool
  | a :: b :: l => !decide (a.id ≥ b.id) && idsUp (b :: l)
  | _ => true
def clkB (h : Mh) : Bool := ck4 h.c0 h.c1 h.c2 h.c3 && clk h.ce
def mmay (h : Mh) (ss : List SesD) : Bool := amay (toZ h.w0) (toZ h.w1) (toZ h.w2) (toZ h.w3) && (clkB h && (!decide (mx4 h.c0 h.c1 h.c2 h.c3 > h.ce) && (!decide ((ss.length : Int) > 4) && (!decide ((h.tr.length : Int) > 512) && (idsUp ss && (ss.all (sesMay h.w0 h.w1 h.w2 h.w3) && !(toZ h.tr).any noEv))))))
def okM (h : Mh) (ss : List SesD) : Bool := okA h.w0 h.w1 h.w2 h.w3 && (okZ 4 h.tr && okSS ss)
theorem eMM0 (h : Mh) (K : DV → Prop) : (ask Tryz.prog [(60, sAMay), (61, sCkM), (62, sMx), (65, sAllS), (67, sAllLE)] Tryz.f26 [.agg (macL 0 h [])] K) = (bif okA h.w0 h.w1 h.w2 h.w3 then bif !amay (toZ h.w0) (toZ h.w1) (toZ h.w2) (toZ h.w3) then K (DV.c (D.v (Value.bool false))) else bif !(ck4 h.c0 h.c1 h.c2 h.c3 && clk h.ce) then K (DV.c (D.v (Value.bool false))) else bif decide (mx4 h.c0 h.c1 h.c2 h.c3 > h.ce) then K (DV.c (D.v (Value.bool false))) else bif decide (@Nat.cast Int _ (List.length h.tr) > 512) then K (DV.c (D.v (Value.bool false))) else bif okZ (4) h.tr then K (DV.c (D.v (Value.bool !List.any (toZ h.tr) noEv))) else False else False) := by kernel_rfl
theorem eMM1 (h : Mh) (s0 : SesD) (K : DV → Prop) : (ask Tryz.prog [(60, sAMay), (61, sCkM), (62, sMx), (65, sAllS), (67, sAllLE)] Tryz.f26 [.agg (macL 0 h [s0])] K) = (bif okA h.w0 h.w1 h.w2 h.w3 then bif !amay (toZ h.w0) (toZ h.w1) (toZ h.w2) (toZ h.w3) then K (DV.c (D.v (Value.bool false))) else bif !(ck4 h.c0 h.c1 h.c2 h.c3 && clk h.ce) then K (DV.c (D.v (Value.bool false))) else bif decide (mx4 h.c0 h.c1 h.c2 h.c3 > h.ce) then K (DV.c (D.v (Value.bool false))) else bif decide (@Nat.cast Int _ (List.length h.tr) > 512) then K (DV.c (D.v (Value.bool false))) else bif Nat.ble (1) (OfNat.ofNat (4)) && okSS [s0] then bif List.all [s0] (sesMay h.w0 h.w1 h.w2 h.w3) then bif okZ (4) h.tr then K (DV.c (D.v (Value.bool !List.any (toZ h.tr) noEv))) else False else K (DV.c (D.v (Value.bool false))) else False else False) := by kernel_rfl
theorem eMM2 (h : Mh) (s0 s1 : SesD) (K : DV → Prop) : (ask Tryz.prog [(60, sAMay), (61, sCkM), (62, sMx), (65, sAllS), (67, sAllLE)] Tryz.f26 [.agg (macL 0 h [s0, s1])] K) = (bif okA h.w0 h.w1 h.w2 h.w3 then bif !amay (toZ h.w0) (toZ h.w1) (toZ h.w2) (toZ h.w3) then K (DV.c (D.v (Value.bool false))) else bif !(ck4 h.c0 h.c1 h.c2 h.c3 && clk h.ce) then K (DV.c (D.v (Value.bool false))) else bif decide (mx4 h.c0 h.c1 h.c2 h.c3 > h.ce) then K (DV.c (D.v (Value.bool false))) else bif decide (@Nat.cast Int _ (List.length h.tr) > 512) then K (DV.c (D.v (Value.bool false))) else bif decide (s0.id ≥ s1.id) then K (DV.c (D.v (Value.bool false))) else bif Nat.ble (2) (OfNat.ofNat (4)) && okSS [s0, s1] then bif List.all [s0, s1] (sesMay h.w0 h.w1 h.w2 h.w3) then bif okZ (4) h.tr then K (DV.c (D.v (Value.bool !List.any (toZ h.tr) noEv))) else False else K (DV.c (D.v (Value.bool false))) else False else False) := by kernel_rfl
theorem eMM3 (h : Mh) (s0 s1 s2 : SesD) (K : DV → Prop) : (ask Tryz.prog [(60, sAMay), (61, sCkM), (62, sMx), (65, sAllS), (67, sAllLE)] Tryz.f26 [.agg (macL 0 h [s0, s1, s2])] K) = (bif okA h.w0 h.w1 h.w2 h.w3 then bif !amay (toZ h.w0) (toZ h.w1) (toZ h.w2) (toZ h.w3) then K (DV.c (D.v (Value.bool false))) else bif !(ck4 h.c0 h.c1 h.c2 h.c3 && clk h.ce) then K (DV.c (D.v (Value.bool false))) else bif decide (mx4 h.c0 h.c1 h.c2 h.c3 > h.ce) then K (DV.c (D.v (Value.bool false))) else bif decide (@Nat.cast Int _ (List.length h.tr) > 512) then K (DV.c (D.v (Value.bool false))) else bif decide (s0.id ≥ s1.id) then K (DV.c (D.v (Value.bool false))) else bif decide (s1.id ≥ s2.id) then K (DV.c (D.v (Value.bool false))) else bif Nat.ble (3) (OfNat.ofNat (4)) && okSS [s0, s1, s2] then bif List.all [s0, s1, s2] (sesMay h.w0 h.w1 h.w2 h.w3) then bif okZ (4) h.tr then K (DV.c (D.v (Value.bool !List.any (toZ h.tr) noEv))) else False else K (DV.c (D.v (Value.bool false))) else False else False) := by kernel_rfl
theorem eMM4 (h : Mh) (s0 s1 s2 s3 : SesD) (K : DV → Prop) : (ask Tryz.prog [(60, sAMay), (61, sCkM), (62, sMx), (65, sAllS), (67, sAllLE)] Tryz.f26 [.agg (macL 0 h [s0, s1, s2, s3])] K) = (bif okA h.w0 h.w1 h.w2 h.w3 then bif !amay (toZ h.w0) (toZ h.w1) (toZ h.w2) (toZ h.w3) then K (DV.c (D.v (Value.bool false))) else bif !(ck4 h.c0 h.c1 h.c2 h.c3 && clk h.ce) then K (DV.c (D.v (Value.bool false))) else bif decide (mx4 h.c0 h.c1 h.c2 h.c3 > h.ce) then K (DV.c (D.v (Value.bool false))) else bif decide (@Nat.cast Int _ (List.length h.tr) > 512) then K (DV.c (D.v (Value.bool false))) else bif decide (s0.id ≥ s1.id) then K (DV.c (D.v (Value.bool false))) else bif decide (s1.id ≥ s2.id) then K (DV.c (D.v (Value.bool false))) else bif decide (s2.id ≥ s3.id) then K (DV.c (D.v (Value.bool false))) else bif Nat.ble (4) (OfNat.ofNat (4)) && okSS [s0, s1, s2, s3] then bif List.all [s0, s1, s2, s3] (sesMay h.w0 h.w1 h.w2 h.w3) then bif okZ (4) h.tr then K (DV.c (D.v (Value.bool !List.any (toZ h.tr) noEv))) else False else K (DV.c (D.v (Value.bool false))) else False else False) := by kernel_rfl
theorem eMMB (h : Mh) (R sp : List (List D)) (K : DV → Prop) : (askL Tryz.prog [(60, sAMay), (61, sCkM), (62, sMx)] [(4, fun _ _ => False)] Tryz.f26 [.agg [.s 0 3 h.w0 [], .s 0 3 h.w1 [], .s 0 3 h.w2 [], .s 0 3 h.w3 [], vN h.c0, vN h.c1, vN h.c2, vN h.c3, vN h.ce, .s 0 17 R sp, .s 0 4 h.tr []]] K) = (bif okA h.w0 h.w1 h.w2 h.w3 then bif !amay (toZ h.w0) (toZ h.w1) (toZ h.w2) (toZ h.w3) then K (DV.c (D.v (Value.bool false))) else bif !(ck4 h.c0 h.c1 h.c2 h.c3 && clk h.ce) then K (DV.c (D.v (Value.bool false))) else bif decide (mx4 h.c0 h.c1 h.c2 h.c3 > h.ce) then K (DV.c (D.v (Value.bool false))) else bif decide (@Nat.cast Int _ (List.length R) > 4) then K (DV.c (D.v (Value.bool false))) else bif decide (@Nat.cast Int _ (List.length h.tr) > 512) then K (DV.c (D.v (Value.bool false))) else False else False) := by kernel_rfl
theorem bifP (p q : Bool) (x : DV) : (bif p then (DV.c (.v (.bool false)) = x) else (DV.c (.v (.bool q)) = x)) = (DV.c (.v (.bool (!p && q))) = x) := by cases p <;> rfl
theorem loops_no {P : Program} {l : List (FuncId × Spec)} {k : Nat} {c : Code} : LoopsOK P (hkl l [(k, fun _ _ => False)]) c := fun b hb s hs Q x hq => by
  have hs' : lookL [(k, fun _ _ => False)] (loopId b) = some s := hs
  unfold lookL at hs'
  split at hs'
  · cases hs'; exact hq.elim
  · cases hs'
theorem okM_spec {h : Mh} {ss : List SesD} (hm : okM h ss = true) : okA h.w0 h.w1 h.w2 h.w3 = true ∧ okZ 4 h.tr = true ∧ okSS ss = true := by
  unfold okM at hm; simpa [Bool.and_eq_true] using hm
theorem cMMay (h : Mh) (ss : List SesD) (hok : okM h ss = true) : CT Tryz.prog 26 [.agg (macL 0 h ss)] (B (mmay h ss)) := by
  obtain ⟨h1, h2, h3⟩ := okM_spec hok
  rcases ss with _ | ⟨s0, _ | ⟨s1, _ | ⟨s2, _ | ⟨s3, _ | ⟨s4, l⟩⟩⟩⟩⟩
  · refine ct_s (.cons oAMay (.cons oCkM (.cons oMx (.cons oAllS (.cons oAllLE .nil))))) mixed Tryz.func26 rfl rfl rfl ?_
    rw [eMM0]
    refine ⟨?_⟩
    simp only [h1, h2, h3, cond_true, bifN, bifP, bifK, Bool.and_true, (by decide : Nat.ble 0 4 = true), Bool.true_and]
    unfold mmay clkB
    simp [idsUp, Bool.and_assoc]
  · refine ct_s (.cons oAMay (.cons oCkM (.cons oMx (.cons oAllS (.cons oAllLE .nil))))) mixed Tryz.func26 rfl rfl rfl ?_
    rw [eMM1]
    refine ⟨?_⟩
    simp only [h1, h2, h3, cond_true, bifN, bifP, bifK, Bool.and_true, (by decide : Nat.ble 1 4 = true), Bool.true_and]
    unfold mmay clkB
    simp [idsUp, Bool.and_assoc]
  · refine ct_s (.cons oAMay (.cons oCkM (.cons oMx (.cons oAllS (.cons oAllLE .nil))))) mixed Tryz.func26 rfl rfl rfl ?_
    rw [eMM2]
    refine ⟨?_⟩
    simp only [h1, h2, h3, cond_true, bifN, bifP, bifK, Bool.and_true, (by decide : Nat.ble 2 4 = true), Bool.true_and]
    unfold mmay clkB
    simp [idsUp, Bool.and_assoc]
  · refine ct_s (.cons oAMay (.cons oCkM (.cons oMx (.cons oAllS (.cons oAllLE .nil))))) mixed Tryz.func26 rfl rfl rfl ?_
    rw [eMM3]
    refine ⟨?_⟩
    simp only [h1, h2, h3, cond_true, bifN, bifP, bifK, Bool.and_true, (by decide : Nat.ble 3 4 = true), Bool.true_and]
    unfold mmay clkB
    simp [idsUp, Bool.and_assoc]
  · refine ct_s (.cons oAMay (.cons oCkM (.cons oMx (.cons oAllS (.cons oAllLE .nil))))) mixed Tryz.func26 rfl rfl rfl ?_
    rw [eMM4]
    refine ⟨?_⟩
    simp only [h1, h2, h3, cond_true, bifN, bifP, bifK, Bool.and_true, (by decide : Nat.ble 4 4 = true), Bool.true_and]
    unfold mmay clkB
    simp [idsUp, Bool.and_assoc]
  · refine ct_sL (l := [(60, sAMay), (61, sCkM), (62, sMx)]) (m := [(4, fun _ _ => False)]) (.cons oAMay (.cons oCkM (.cons oMx .nil))) mixed loops_no Tryz.func26 rfl rfl rfl ?_
    unfold macL
    rw [eMMB]
    refine ⟨?_⟩
    have h5 : decide (((List.map (sesL 0) (s0 :: s1 :: s2 :: s3 :: s4 :: l)).length : Int) > 4) = true := by simp; omega
    have h6 : decide (((s0 :: s1 :: s2 :: s3 :: s4 :: l).length : Int) > 4) = true := by simp; omega
    unfold mmay clkB
    simp only [h1, h5, h6, cond_true, bifN, bifP, Bool.not_true, Bool.false_and, Bool.not_not]
theorem eThe (h : Mh) (ss : List SesD) (at' : Int) (K : DV → Prop) : (ask Tryz.prog [(26, sAtD [.agg (macL 0 h ss)] (B (mmay h ss)))] Tryz.f52 [.c (.p 0 (macL 0 h ss) 0), I at'] K) = ([DV.agg (macL (0) h ss)] = [DV.agg (macL (0) h ss)] ∧ bif mmay h ss then bif decide (at' ≥ 0) then K (DV.c (D.v (Value.bool (decide (at' < @Nat.cast Int _ (List.length (List.map (sesL (0)) ss))))))) else K (DV.c (D.v (Value.bool false))) else K (DV.c (D.v (Value.bool false)))) := by kernel_rfl
def mthere (h : Mh) (ss : List SesD) (i : Int) : Bool := mmay h ss && (decide (i ≥ 0) && decide (i < ss.length))
theorem gMMay : Goes Tryz.prog 26 := goes_of Tryz.func26 (by kernel_rfl) rfl
theorem cThe (h : Mh) (ss : List SesD) (i : Int) (hok : okM h ss = true) : CT Tryz.prog 52 [.c (.p 0 (macL 0 h ss) 0), I i] (B (mthere h ss i)) := by
  refine ct_s (.cons (oAtD gMMay (cMMay h ss hok) rfl rfl) .nil) mixed Tryz.func52 rfl rfl rfl ?_
  rw [eThe]
  refine ⟨rfl, ?_⟩
  unfold mthere
  rw [List.length_map]
  simp only [bifK]
end

section
open Go Go.Proofs
set_option linter.unusedSimpArgs false
set_option linter.unusedVariables false
set_option maxRecDepth 100000
def iIxI : Inl := inlM Tryz.prog [] [] [] Tryz.f179
theorem iIxI_ok : InlOK Tryz.prog 179 iIxI := inlM_ok .nil .nil .nil mixed Tryz.func179 rfl (goes_of Tryz.func179 (by kernel_rfl) rfl)
theorem eHas1 (a x : Int) (K : DV → Prop) : (askH Tryz.prog (hkM [] [] [(179, iIxI)]) Tryz.f134 [.c (.s 0 1 [[vi a]] []), I x] K) = (bif x == a then K (DV.c (D.v (Value.bool true))) else K (DV.c (D.v (Value.bool false)))) := by kernel_rfl
theorem eHas3 (a b c x : Int) (K : DV → Prop) : (askH Tryz.prog (hkM [] [] [(179, iIxI)]) Tryz.f134 [.c (.s 0 1 [[vi a], [vi b], [vi c]] []), I x] K) = (bif x == a then K (DV.c (D.v (Value.bool true))) else bif x == b then K (DV.c (D.v (Value.bool true))) else bif x == c then K (DV.c (D.v (Value.bool true))) else K (DV.c (D.v (Value.bool false)))) := by kernel_rfl
def has1 (a x : Int) : Bool := bif x == a then true else false
def has3 (a b c x : Int) : Bool := bif x == a then true else bif x == b then true else bif x == c then true else false
def sHas : Spec := fun ds Q => match ds with
  | [.c (.s 0 1 [[.v (.int .i64 a)]] []), .c (.v (.int .i64 x))] => Q (B (has1 a x))
  | [.c (.s 0 1 [[.v (.int .i64 a)], [.v (.int .i64 b)], [.v (.int .i64 c)]] []), .c (.v (.int .i64 x))] => Q (B (has3 a b c x))
  | _ => False
theorem oHas : SpecOK Tryz.prog 134 sHas := o_of Tryz.func134 (by kernel_rfl) rfl fun ds Q h => by
  unfold sHas at h; split at h
  · rename_i a x
    refine ⟨_, ct_m .nil .nil (.cons iIxI_ok .nil) mixed Tryz.func134 rfl rfl rfl ?_, rfl, rfl, h⟩
    rw [eHas1]
    refine ⟨?_⟩
    unfold has1; cases x == a <;> rfl
  · rename_i a b c x
    refine ⟨_, ct_m .nil .nil (.cons iIxI_ok .nil) mixed Tryz.func134 rfl rfl rfl ?_, rfl, rfl, h⟩
    rw [eHas3]
    refine ⟨?_⟩
    unfold has3; cases x == a <;> cases x == b <;> cases x == c <;> rfl
  · exact h.elim
def codeAt (s : SesD) : Int := hdJ (s.pg.getD s.pc.toNat [])
def atS (p : Int → Bool) (s : SesD) : Bool := (s.st == 0) && (decide (s.pc < s.pg.length) && p (codeAt s))
def mAt (p : Int → Bool) (h : Mh) (ss : List SesD) (i : Int) : Bool := mthere h ss i && (match ss[i.toNat]? with | some s => atS p s | none => false)
theorem okZ_isJ {z : Nat} {R : List (List D)} (h : okZ (z + 1) R = true) {k : Nat} (hk : k < R.length) : isJ [IntKind.i64] (R.getD k []) = true := by
  obtain ⟨e, w, _⟩ := okZ_spec h
  rw [e] at hk ⊢
  rw [mZ_len] at hk
  exact isJ_mZ (j := 0) (n := 1) w hk (by omega)
theorem at_leaf {s : SesD} (hs : okSes s = true) (h0 : 0 ≤ s.pc) (p : Int → Bool) (K : DV → Prop) :
    (bif s.st == 0 then bif decide (s.pc < @Nat.cast Int _ (List.length s.pg)) then bif decide (0 ≤ s.pc) && decide (s.pc < @Nat.cast Int _ (List.length s.pg)) then bif isJ [IntKind.i64] (List.drop 0 (List.getD s.pg (Int.toNat s.pc) [])) then K (DV.c (D.v (Value.bool (p (hdJ (List.drop 0 (List.getD s.pg (Int.toNat s.pc) []))))))) else False else False else K (DV.c (D.v (Value.bool false))) else K (DV.c (D.v (Value.bool false)))) = K (.c (.v (.bool (atS p s)))) := by
  unfold atS codeAt
  rw [List.drop_zero]
  cases hst : s.st == 0
  · simp only [cond_false, Bool.false_and]
  · cases hl : decide (s.pc < @Nat.cast Int _ (List.length s.pg))
    · simp only [cond_true, cond_false, Bool.true_and, Bool.false_and]
    · have hl' := of_decide_eq_true hl
      have hj := okZ_isJ (z := 3) (by unfold okSes at hs; simp only [Bool.and_eq_true] at hs; exact hs.1) (show s.pc.toNat < s.pg.length by omega)
      simp only [cond_true, Bool.true_and, decide_eq_true h0, hj]
theorem mthere_spec {h : Mh} {ss : List SesD} {i : Int} (hm : mthere h ss i = true) : mmay h ss = true ∧ 0 ≤ i ∧ i < ss.length := by
  unfold mthere at hm; simpa [Bool.and_eq_true] using hm
theorem mmay_ses {h : Mh} {ss : List SesD} (hm : mmay h ss = true) : ss.length ≤ 4 ∧ ∀ s ∈ ss, sesMay h.w0 h.w1 h.w2 h.w3 s = true := by
  unfold mmay at hm
  simp only [Bool.and_eq_true, Bool.not_eq_true', decide_eq_false_iff_not, List.all_eq_true] at hm
  exact ⟨by omega, hm.2.2.2.2.2.2.1⟩
theorem sesMay_pc {R0 R1 R2 R3 : List (List D)} {s : SesD} (h : sesMay R0 R1 R2 R3 s = true) : 0 ≤ s.pc ∧ s.pc ≤ s.pg.length := by
  unfold sesMay farB upto at h
  simp only [Bool.and_eq_true, decide_eq_true_eq] at h
  omega
theorem mthere_at {h : Mh} {ss : List SesD} {i : Int} (hok : okM h ss = true) (hm : mthere h ss i = true) : ∃ s, ss[i.toNat]? = some s ∧ okSes s = true ∧ sesMay h.w0 h.w1 h.w2 h.w3 s = true := by
  obtain ⟨g0, g1, g2⟩ := mthere_spec hm
  have hl : i.toNat < ss.length := by omega
  have hmem : ss[i.toNat] ∈ ss := List.getElem_mem hl
  exact ⟨ss[i.toNat], List.getElem?_eq_getElem hl, List.all_eq_true.1 (okM_spec hok).2.2 _ hmem, (mmay_ses g0).2 _ hmem⟩
theorem eAt3 (h : Mh) (ss : List SesD) (i : Int) (a b c : Int) (t : Bool) (K : DV → Prop) : (askH Tryz.prog (hkF [(52, sAtD [.c (.p 0 (macL 0 h ss) 0), I i] (B t)), (134, sHas)] [] []) Tryz.f80 [.c (.p 0 (macL 0 h ss) 0), I i, .c (.s 0 1 [[vi a], [vi b], [vi c]] [])] K) = ([DV.c (D.p (0) (macL (0) h ss) (0)), I i] = [DV.c (D.p (0) (macL (0) h ss) (0)), I i] ∧ bif !t then K (DV.c (D.v (Value.bool false))) else bif decide (0 ≤ i) && decide (i < @Nat.cast Int _ (List.length (List.map (sesL (0)) ss))) then ∃ s, sesAt (List.map (sesL (0)) ss) (Int.toNat i) (0) s ∧ bif s.st == 0 then bif decide (s.pc < @Nat.cast Int _ (List.length s.pg)) then bif decide (0 ≤ s.pc) && decide (s.pc < @Nat.cast Int _ (List.length s.pg)) then bif isJ [IntKind.i64] (List.drop (0) (List.getD s.pg (Int.toNat s.pc) [])) then K (DV.c (D.v (Value.bool (has3 a b c (hdJ (List.drop (0) (List.getD s.pg (Int.toNat s.pc) []))))))) else False else False else K (DV.c (D.v (Value.bool false))) else K (DV.c (D.v (Value.bool false))) else False) := by kernel_rfl
theorem cAt3 (h : Mh) (ss : List SesD) (i : Int) (a b c : Int) (hok : okM h ss = true) : CT Tryz.prog 80 [.c (.p 0 (macL 0 h ss) 0), I i, .c (.s 0 1 [[vi a], [vi b], [vi c]] [])] (B (mAt (has3 a b c) h ss i)) := by
  refine ct_hA (hkF_ok (.cons (oAtD (goes_of Tryz.func52 (by kernel_rfl) rfl) (cThe h ss i hok) rfl rfl) (.cons oHas .nil)) .nil .nil) mixed hkF_loops Tryz.func80 rfl rfl rfl ?_
  rw [eAt3]
  refine ⟨⟨rfl, ?_⟩⟩
  unfold mAt
  cases hm : mthere h ss i with
  | false => exact AL.refl _
  | true =>
    obtain ⟨g0, g1, g2⟩ := mthere_spec hm
    obtain ⟨s, hs, ho, hy⟩ := mthere_at hok hm
    simp only [Bool.not_true, cond_false, cond_true, decide_eq_true g1, List.length_map, decide_eq_true g2, Bool.and_self, hs, Bool.true_and]
    refine ⟨s, sesAt_map hs, ?_⟩
    have e := at_leaf ho (sesMay_pc hy).1 (has3 a b c) (fun r => AL r (B (atS (has3 a b c) s)))
    simp only [e]
    exact AL.refl _
end

section
open Go Go.Proofs
set_option linter.unusedSimpArgs false
set_option linter.unusedVariables false
set_option maxRecDepth 100000
theorem eSesC (s : SesD) (K : DV → Prop) : (ask Tryz.prog [(90, sCloneInsts), (149, sCloneReads), (137, sCloneWrites)] Tryz.f96 [.agg (sesL 0 s)] K) = (bif allV s.pg && decide (List.length s.pg ≤ 4398046510977) then bif allV s.rd && decide (List.length s.rd ≤ 5864062014635) then bif allV s.wt && decide (List.length s.wt ≤ 5864062014635) then bif decide (List.length s.pg ≤ List.length (s.pg ++ [])) && List.all (s.pg ++ []) fun r => List.all r D.keeps then bif decide (List.length s.rd ≤ List.length (s.rd ++ [])) && List.all (s.rd ++ []) fun r => List.all r D.keeps then bif decide (List.length s.wt ≤ List.length (s.wt ++ [])) && List.all (s.wt ++ []) fun r => List.all r D.keeps then K (DV.agg [D.v (Value.int IntKind.i64 s.id), D.v (Value.int IntKind.i64 s.lb), D.v (Value.int IntKind.i64 s.cl), D.s (1) (4) (List.take (List.length s.pg) (s.pg ++ [])) (List.take (List.length s.pg + 0 - List.length s.pg) (List.drop (List.length s.pg) (s.pg ++ []))), D.v (Value.int IntKind.i64 s.st), D.v (Value.int IntKind.i64 s.pc), D.v (Value.int IntKind.i64 s.r0), D.v (Value.int IntKind.i64 s.r1), D.v (Value.int IntKind.i64 s.r2), D.v (Value.int IntKind.i64 s.r3), D.s (1) (3) (List.take (List.length s.rd) (s.rd ++ [])) (List.take (List.length s.rd + 0 - List.length s.rd) (List.drop (List.length s.rd) (s.rd ++ []))), D.s (1) (3) (List.take (List.length s.wt) (s.wt ++ [])) (List.take (List.length s.wt + 0 - List.length s.wt) (List.drop (List.length s.wt) (s.wt ++ []))), D.v (Value.int IntKind.i64 s.at'), D.v (Value.int IntKind.i64 s.sp), D.v (Value.int IntKind.i64 s.tr), D.v (Value.int IntKind.i64 s.rs), D.v (Value.int IntKind.i64 s.to)]) else False else False else False else False else False else False) := by kernel_rfl
def smR (n : Nat) (R : List (List D)) : Bool := allV R && decide (R.length ≤ n)
def smS (s : SesD) : Bool := smR 4398046510977 s.pg && (smR 5864062014635 s.rd && smR 5864062014635 s.wt)
def smM (h : Mh) (ss : List SesD) : Bool := okC4 h.w0 h.w1 h.w2 h.w3 && (smR 4398046510977 h.tr && ss.all smS)
theorem smR_spec {n : Nat} {R : List (List D)} (h : smR n R = true) : allV R = true ∧ R.length ≤ n ∧ (R.all fun r => r.all D.keeps) = true := by
  unfold smR at h
  simp only [Bool.and_eq_true, decide_eq_true_eq] at h
  exact ⟨h.1, h.2, keeps_of h.1⟩
theorem smR_of {n z m : Nat} {R : List (List D)} (h : okZ z R = true) (hl : R.length ≤ m) (hm : m ≤ n) : smR n R = true := by
  unfold smR
  rw [allV_ok h, decide_eq_true (by omega : R.length ≤ n)]; rfl
theorem smS_spec {s : SesD} (h : smS s = true) : smR 4398046510977 s.pg = true ∧ smR 5864062014635 s.rd = true ∧ smR 5864062014635 s.wt = true := by
  unfold smS at h; simpa [Bool.and_eq_true] using h
theorem takeAll (R : List (List D)) : List.take R.length R = R := List.take_length
theorem ownL_ses {s : SesD} (h : smS s = true) : ownL (sesL 1 s) = true := by
  obtain ⟨h1, h2, h3⟩ := smS_spec h
  simp only [sesL, ownL, D.pureOwn, ownLL_of (smR_spec h1).1, ownLL_of (smR_spec h2).1, ownLL_of (smR_spec h3).1, ownLL]; rfl
theorem cSesC (s : SesD) (hs : smS s = true) : CT Tryz.prog 96 [.agg (sesL 0 s)] (.agg (sesL 1 s)) := by
  obtain ⟨h1, h2, h3⟩ := smS_spec hs
  obtain ⟨a1, a2, a3⟩ := smR_spec h1
  obtain ⟨b1, b2, b3⟩ := smR_spec h2
  obtain ⟨c1, c2, c3⟩ := smR_spec h3
  refine ct_s (.cons oCloneInsts (.cons oCloneReads (.cons oCloneWrites .nil))) mixed Tryz.func96 rfl rfl rfl ?_
  rw [eSesC]
  refine ⟨?_⟩
  simp only [a1, a2, a3, b1, b2, b3, c1, c2, c3, List.append_nil, Nat.le_refl, decide_true, Bool.and_self, cond_true, takeAll, Nat.add_zero, Nat.sub_self, List.take_zero]
  rfl
def sSesC : Spec := fun ds Q => match ds with
  | [d] => sesA d fun s => cond (smS s) (Q (.agg (sesL 1 s))) False
  | _ => False
theorem oSesC : SpecOK Tryz.prog 96 sSesC := o_al Tryz.func96 (by kernel_rfl) rfl fun ds Q h => by
  unfold sSesC at h; split at h
  · obtain ⟨s, h, r⟩ := sesA_spec h
    obtain ⟨h1, h2⟩ := cond_P h
    exact ⟨_, _, .cons r .nil, cSesC s h1, ownL_ses h1, rfl, h2⟩
  · exact h.elim
theorem eClS0 (K : DV → Prop) : (ask Tryz.prog [] Tryz.f94 [.c (.s 0 17 ([].map (sesL 0)) [])] K) = (K (DV.c (D.s (1) (17) [] [])) ∧ K (DV.c (D.s (1) (17) [] []))) := by kernel_rfl
theorem eClS1 (s0 : SesD) (K : DV → Prop) : (ask Tryz.prog [] Tryz.f94 [.c (.s 0 17 ([s0].map (sesL 0)) [])] K) = (True ∧ K (DV.c (D.s (1) (17) [[D.v (Value.int IntKind.i64 s0.id), D.v (Value.int IntKind.i64 s0.lb), D.v (Value.int IntKind.i64 s0.cl), D.s (0) (4) s0.pg [], D.v (Value.int IntKind.i64 s0.st), D.v (Value.int IntKind.i64 s0.pc), D.v (Value.int IntKind.i64 s0.r0), D.v (Value.int IntKind.i64 s0.r1), D.v (Value.int IntKind.i64 s0.r2), D.v (Value.int IntKind.i64 s0.r3), D.s (0) (3) s0.rd [], D.s (0) (3) s0.wt [], D.v (Value.int IntKind.i64 s0.at'), D.v (Value.int IntKind.i64 s0.sp), D.v (Value.int IntKind.i64 s0.tr), D.v (Value.int IntKind.i64 s0.rs), D.v (Value.int IntKind.i64 s0.to)]] []))) := by kernel_rfl
theorem eClS2 (s0 s1 : SesD) (K : DV → Prop) : (ask Tryz.prog [] Tryz.f94 [.c (.s 0 17 ([s0, s1].map (sesL 0)) [])] K) = (True ∧ K (DV.c (D.s (1) (17) [[D.v (Value.int IntKind.i64 s0.id), D.v (Value.int IntKind.i64 s0.lb), D.v (Value.int IntKind.i64 s0.cl), D.s (0) (4) s0.pg [], D.v (Value.int IntKind.i64 s0.st), D.v (Value.int IntKind.i64 s0.pc), D.v (Value.int IntKind.i64 s0.r0), D.v (Value.int IntKind.i64 s0.r1), D.v (Value.int IntKind.i64 s0.r2), D.v (Value.int IntKind.i64 s0.r3), D.s (0) (3) s0.rd [], D.s (0) (3) s0.wt [], D.v (Value.int IntKind.i64 s0.at'), D.v (Value.int IntKind.i64 s0.sp), D.v (Value.int IntKind.i64 s0.tr), D.v (Value.int IntKind.i64 s0.rs), D.v (Value.int IntKind.i64 s0.to)], [D.v (Value.int IntKind.i64 s1.id), D.v (Value.int IntKind.i64 s1.lb), D.v (Value.int IntKind.i64 s1.cl), D.s (0) (4) s1.pg [], D.v (Value.int IntKind.i64 s1.st), D.v (Value.int IntKind.i64 s1.pc), D.v (Value.int IntKind.i64 s1.r0), D.v (Value.int IntKind.i64 s1.r1), D.v (Value.int IntKind.i64 s1.r2), D.v (Value.int IntKind.i64 s1.r3), D.s (0) (3) s1.rd [], D.s (0) (3) s1.wt [], D.v (Value.int IntKind.i64 s1.at'), D.v (Value.int IntKind.i64 s1.sp), D.v (Value.int IntKind.i64 s1.tr), D.v (Value.int IntKind.i64 s1.rs), D.v (Value.int IntKind.i64 s1.to)]] []))) := by kernel_rfl
theorem eClS3 (s0 s1 s2 : SesD) (K : DV → Prop) : (ask Tryz.prog [] Tryz.f94 [.c (.s 0 17 ([s0, s1, s2].map (sesL 0)) [])] K) = (True ∧ K (DV.c (D.s (1) (17) [[D.v (Value.int IntKind.i64 s0.id), D.v (Value.int IntKind.i64 s0.lb), D.v (Value.int IntKind.i64 s0.cl), D.s (0) (4) s0.pg [], D.v (Value.int IntKind.i64 s0.st), D.v (Value.int IntKind.i64 s0.pc), D.v (Value.int IntKind.i64 s0.r0), D.v (Value.int IntKind.i64 s0.r1), D.v (Value.int IntKind.i64 s0.r2), D.v (Value.int IntKind.i64 s0.r3), D.s (0) (3) s0.rd [], D.s (0) (3) s0.wt [], D.v (Value.int IntKind.i64 s0.at'), D.v (Value.int IntKind.i64 s0.sp), D.v (Value.int IntKind.i64 s0.tr), D.v (Value.int IntKind.i64 s0.rs), D.v (Value.int IntKind.i64 s0.to)], [D.v (Value.int IntKind.i64 s1.id), D.v (Value.int IntKind.i64 s1.lb), D.v (Value.int IntKind.i64 s1.cl), D.s (0) (4) s1.pg [], D.v (Value.int IntKind.i64 s1.st), D.v (Value.int IntKind.i64 s1.pc), D.v (Value.int IntKind.i64 s1.r0), D.v (Value.int IntKind.i64 s1.r1), D.v (Value.int IntKind.i64 s1.r2), D.v (Value.int IntKind.i64 s1.r3), D.s (0) (3) s1.rd [], D.s (0) (3) s1.wt [], D.v (Value.int IntKind.i64 s1.at'), D.v (Value.int IntKind.i64 s1.sp), D.v (Value.int IntKind.i64 s1.tr), D.v (Value.int IntKind.i64 s1.rs), D.v (Value.int IntKind.i64 s1.to)], [D.v (Value.int IntKind.i64 s2.id), D.v (Value.int IntKind.i64 s2.lb), D.v (Value.int IntKind.i64 s2.cl), D.s (0) (4) s2.pg [], D.v (Value.int IntKind.i64 s2.st), D.v (Value.int IntKind.i64 s2.pc), D.v (Value.int IntKind.i64 s2.r0), D.v (Value.int IntKind.i64 s2.r1), D.v (Value.int IntKind.i64 s2.r2), D.v (Value.int IntKind.i64 s2.r3), D.s (0) (3) s2.rd [], D.s (0) (3) s2.wt [], D.v (Value.int IntKind.i64 s2.at'), D.v (Value.int IntKind.i64 s2.sp), D.v (Value.int IntKind.i64 s2.tr), D.v (Value.int IntKind.i64 s2.rs), D.v (Value.int IntKind.i64 s2.to)]] []))) := by kernel_rfl
theorem eClS4 (s0 s1 s2 s3 : SesD) (K : DV → Prop) : (ask Tryz.prog [] Tryz.f94 [.c (.s 0 17 ([s0, s1, s2, s3].map (sesL 0)) [])] K) = (True ∧ K (DV.c (D.s (1) (17) [[D.v (Value.int IntKind.i64 s0.id), D.v (Value.int IntKind.i64 s0.lb), D.v (Value.int IntKind.i64 s0.cl), D.s (0) (4) s0.pg [], D.v (Value.int IntKind.i64 s0.st), D.v (Value.int IntKind.i64 s0.pc), D.v (Value.int IntKind.i64 s0.r0), D.v (Value.int IntKind.i64 s0.r1), D.v (Value.int IntKind.i64 s0.r2), D.v (Value.int IntKind.i64 s0.r3), D.s (0) (3) s0.rd [], D.s (0) (3) s0.wt [], D.v (Value.int IntKind.i64 s0.at'), D.v (Value.int IntKind.i64 s0.sp), D.v (Value.int IntKind.i64 s0.tr), D.v (Value.int IntKind.i64 s0.rs), D.v (Value.int IntKind.i64 s0.to)], [D.v (Value.int IntKind.i64 s1.id), D.v (Value.int IntKind.i64 s1.lb), D.v (Value.int IntKind.i64 s1.cl), D.s (0) (4) s1.pg [], D.v (Value.int IntKind.i64 s1.st), D.v (Value.int IntKind.i64 s1.pc), D.v (Value.int IntKind.i64 s1.r0), D.v (Value.int IntKind.i64 s1.r1), D.v (Value.int IntKind.i64 s1.r2), D.v (Value.int IntKind.i64 s1.r3), D.s (0) (3) s1.rd [], D.s (0) (3) s1.wt [], D.v (Value.int IntKind.i64 s1.at'), D.v (Value.int IntKind.i64 s1.sp), D.v (Value.int IntKind.i64 s1.tr), D.v (Value.int IntKind.i64 s1.rs), D.v (Value.int IntKind.i64 s1.to)], [D.v (Value.int IntKind.i64 s2.id), D.v (Value.int IntKind.i64 s2.lb), D.v (Value.int IntKind.i64 s2.cl), D.s (0) (4) s2.pg [], D.v (Value.int IntKind.i64 s2.st), D.v (Value.int IntKind.i64 s2.pc), D.v (Value.int IntKind.i64 s2.r0), D.v (Value.int IntKind.i64 s2.r1), D.v (Value.int IntKind.i64 s2.r2), D.v (Value.int IntKind.i64 s2.r3), D.s (0) (3) s2.rd [], D.s (0) (3) s2.wt [], D.v (Value.int IntKind.i64 s2.at'), D.v (Value.int IntKind.i64 s2.sp), D.v (Value.int IntKind.i64 s2.tr), D.v (Value.int IntKind.i64 s2.rs), D.v (Value.int IntKind.i64 s2.to)], [D.v (Value.int IntKind.i64 s3.id), D.v (Value.int IntKind.i64 s3.lb), D.v (Value.int IntKind.i64 s3.cl), D.s (0) (4) s3.pg [], D.v (Value.int IntKind.i64 s3.st), D.v (Value.int IntKind.i64 s3.pc), D.v (Value.int IntKind.i64 s3.r0), D.v (Value.int IntKind.i64 s3.r1), D.v (Value.int IntKind.i64 s3.r2), D.v (Value.int IntKind.i64 s3.r3), D.s (0) (3) s3.rd [], D.s (0) (3) s3.wt [], D.v (Value.int IntKind.i64 s3.at'), D.v (Value.int IntKind.i64 s3.sp), D.v (Value.int IntKind.i64 s3.tr), D.v (Value.int IntKind.i64 s3.rs), D.v (Value.int IntKind.i64 s3.to)]] []))) := by kernel_rfl
theorem cClS (ss : List SesD) (hl : ss.length ≤ 4) : CT Tryz.prog 94 [.c (.s 0 17 (ss.map (sesL 0)) [])] (.c (.s 1 17 (ss.map (sesL 0)) [])) := by
  rcases ss with _ | ⟨s0, _ | ⟨s1, _ | ⟨s2, _ | ⟨s3, _ | ⟨s4, l⟩⟩⟩⟩⟩
  · refine ct_s .nil mixed Tryz.func94 rfl rfl rfl ?_
    rw [eClS0]
    exact ⟨⟨rfl, rfl⟩⟩
  · refine ct_s .nil mixed Tryz.func94 rfl rfl rfl ?_
    rw [eClS1]
    exact ⟨⟨trivial, rfl⟩⟩
  · refine ct_s .nil mixed Tryz.func94 rfl rfl rfl ?_
    rw [eClS2]
    exact ⟨⟨trivial, rfl⟩⟩
  · refine ct_s .nil mixed Tryz.func94 rfl rfl rfl ?_
    rw [eClS3]
    exact ⟨⟨trivial, rfl⟩⟩
  · refine ct_s .nil mixed Tryz.func94 rfl rfl rfl ?_
    rw [eClS4]
    exact ⟨⟨trivial, rfl⟩⟩
  · simp at hl
def sClS : Spec := fun ds Q => match ds with
  | [.c d] => cond d.isOwn False (takeSS d fun ss => cond (Nat.ble ss.length 4) (Q (.c (.s 1 17 (ss.map (sesL 0)) []))) False)
  | _ => False
theorem oClS : SpecFOK Tryz.prog 94 sClS := fun ds Q h => by
  refine ⟨goes_of Tryz.func94 (by kernel_rfl) rfl, ?_⟩
  unfold sClS at h; split at h
  · rename_i d
    cases hd : d.isOwn with
    | true => rw [hd] at h; exact h.elim
    | false =>
      rw [hd] at h
      obtain ⟨ss, h, r⟩ := takeSS_spec h
      obtain ⟨h1, h2⟩ := cond_P h
      exact ⟨_, (cClS ss (Nat.le_of_ble_eq_true h1)).args (.cons (.c r hd rfl) .nil), rfl, h2⟩
  · exact h.elim
theorem eCop0 (h : Mh) (K : DV → Prop) : (askH Tryz.prog (hkM [(93, sACopy), (95, sCloneEvents), (96, sSesC)] [(94, sClS)] []) Tryz.f53 [.agg (macL 0 h [])] K) = (bif okC4 h.w0 h.w1 h.w2 h.w3 then bif allV h.tr && decide (List.length h.tr ≤ 4398046510977) then bif decide (List.length h.w0 ≤ List.length (h.w0 ++ [])) && List.all (h.w0 ++ []) fun r => List.all r D.keeps then bif decide (List.length h.w1 ≤ List.length (h.w1 ++ [])) && List.all (h.w1 ++ []) fun r => List.all r D.keeps then bif decide (List.length h.w2 ≤ List.length (h.w2 ++ [])) && List.all (h.w2 ++ []) fun r => List.all r D.keeps then bif decide (List.length h.w3 ≤ List.length (h.w3 ++ [])) && List.all (h.w3 ++ []) fun r => List.all r D.keeps then bif decide (List.length h.tr ≤ List.length (h.tr ++ [])) && List.all (h.tr ++ []) fun r => List.all r D.keeps then K (DV.agg [D.s (1) (3) (List.take (List.length h.w0) (h.w0 ++ [])) (List.take (List.length h.w0 + 0 - List.length h.w0) (List.drop (List.length h.w0) (h.w0 ++ []))), D.s (1) (3) (List.take (List.length h.w1) (h.w1 ++ [])) (List.take (List.length h.w1 + 0 - List.length h.w1) (List.drop (List.length h.w1) (h.w1 ++ []))), D.s (1) (3) (List.take (List.length h.w2) (h.w2 ++ [])) (List.take (List.length h.w2 + 0 - List.length h.w2) (List.drop (List.length h.w2) (h.w2 ++ []))), D.s (1) (3) (List.take (List.length h.w3) (h.w3 ++ [])) (List.take (List.length h.w3 + 0 - List.length h.w3) (List.drop (List.length h.w3) (h.w3 ++ []))), D.v (Value.int IntKind.i64 h.c0), D.v (Value.int IntKind.i64 h.c1), D.v (Value.int IntKind.i64 h.c2), D.v (Value.int IntKind.i64 h.c3), D.v (Value.int IntKind.i64 h.ce), D.s (1) (17) [] [], D.s (1) (4) (List.take (List.length h.tr) (h.tr ++ [])) (List.take (List.length h.tr + 0 - List.length h.tr) (List.drop (List.length h.tr) (h.tr ++ [])))]) else False else False else False else False else False else False else False) := by kernel_rfl
theorem eCop1 (h : Mh) (s0 : SesD) (K : DV → Prop) : (askH Tryz.prog (hkM [(93, sACopy), (95, sCloneEvents), (96, sSesC)] [(94, sClS)] []) Tryz.f53 [.agg (macL 0 h [s0])] K) = (bif okC4 h.w0 h.w1 h.w2 h.w3 then bif allV h.tr && decide (List.length h.tr ≤ 4398046510977) then bif smS s0 then bif decide (List.length h.w0 ≤ List.length (h.w0 ++ [])) && List.all (h.w0 ++ []) fun r => List.all r D.keeps then bif decide (List.length h.w1 ≤ List.length (h.w1 ++ [])) && List.all (h.w1 ++ []) fun r => List.all r D.keeps then bif decide (List.length h.w2 ≤ List.length (h.w2 ++ [])) && List.all (h.w2 ++ []) fun r => List.all r D.keeps then bif decide (List.length h.w3 ≤ List.length (h.w3 ++ [])) && List.all (h.w3 ++ []) fun r => List.all r D.keeps then bif decide (List.length s0.pg ≤ List.length (s0.pg ++ [])) && List.all (s0.pg ++ []) fun r => List.all r D.keeps then bif decide (List.length s0.rd ≤ List.length (s0.rd ++ [])) && List.all (s0.rd ++ []) fun r => List.all r D.keeps then bif decide (List.length s0.wt ≤ List.length (s0.wt ++ [])) && List.all (s0.wt ++ []) fun r => List.all r D.keeps then bif decide (List.length h.tr ≤ List.length (h.tr ++ [])) && List.all (h.tr ++ []) fun r => List.all r D.keeps then K (DV.agg [D.s (1) (3) (List.take (List.length h.w0) (h.w0 ++ [])) (List.take (List.length h.w0 + 0 - List.length h.w0) (List.drop (List.length h.w0) (h.w0 ++ []))), D.s (1) (3) (List.take (List.length h.w1) (h.w1 ++ [])) (List.take (List.length h.w1 + 0 - List.length h.w1) (List.drop (List.length h.w1) (h.w1 ++ []))), D.s (1) (3) (List.take (List.length h.w2) (h.w2 ++ [])) (List.take (List.length h.w2 + 0 - List.length h.w2) (List.drop (List.length h.w2) (h.w2 ++ []))), D.s (1) (3) (List.take (List.length h.w3) (h.w3 ++ [])) (List.take (List.length h.w3 + 0 - List.length h.w3) (List.drop (List.length h.w3) (h.w3 ++ []))), D.v (Value.int IntKind.i64 h.c0), D.v (Value.int IntKind.i64 h.c1), D.v (Value.int IntKind.i64 h.c2), D.v (Value.int IntKind.i64 h.c3), D.v (Value.int IntKind.i64 h.ce), D.s (1) (17) [[D.v (Value.int IntKind.i64 s0.id), D.v (Value.int IntKind.i64 s0.lb), D.v (Value.int IntKind.i64 s0.cl), D.s (1) (4) (List.take (List.length s0.pg) (s0.pg ++ [])) (List.take (List.length s0.pg + 0 - List.length s0.pg) (List.drop (List.length s0.pg) (s0.pg ++ []))), D.v (Value.int IntKind.i64 s0.st), D.v (Value.int IntKind.i64 s0.pc), D.v (Value.int IntKind.i64 s0.r0), D.v (Value.int IntKind.i64 s0.r1), D.v (Value.int IntKind.i64 s0.r2), D.v (Value.int IntKind.i64 s0.r3), D.s (1) (3) (List.take (List.length s0.rd) (s0.rd ++ [])) (List.take (List.length s0.rd + 0 - List.length s0.rd) (List.drop (List.length s0.rd) (s0.rd ++ []))), D.s (1) (3) (List.take (List.length s0.wt) (s0.wt ++ [])) (List.take (List.length s0.wt + 0 - List.length s0.wt) (List.drop (List.length s0.wt) (s0.wt ++ []))), D.v (Value.int IntKind.i64 s0.at'), D.v (Value.int IntKind.i64 s0.sp), D.v (Value.int IntKind.i64 s0.tr), D.v (Value.int IntKind.i64 s0.rs), D.v (Value.int IntKind.i64 s0.to)]] [], D.s (1) (4) (List.take (List.length h.tr) (h.tr ++ [])) (List.take (List.length h.tr + 0 - List.length h.tr) (List.drop (List.length h.tr) (h.tr ++ [])))]) else False else False else False else False else False else False else False else False else False else False else False) := by kernel_rfl
theorem eCop2 (h : Mh) (s0 s1 : SesD) (K : DV → Prop) : (askH Tryz.prog (hkM [(93, sACopy), (95, sCloneEvents), (96, sSesC)] [(94, sClS)] []) Tryz.f53 [.agg (macL 0 h [s0, s1])] K) = (bif okC4 h.w0 h.w1 h.w2 h.w3 then bif allV h.tr && decide (List.length h.tr ≤ 4398046510977) then bif smS s0 then bif smS s1 then bif decide (List.length h.w0 ≤ List.length (h.w0 ++ [])) && List.all (h.w0 ++ []) fun r => List.all r D.keeps then bif decide (List.length h.w1 ≤ List.length (h.w1 ++ [])) && List.all (h.w1 ++ []) fun r => List.all r D.keeps then bif decide (List.length h.w2 ≤ List.length (h.w2 ++ [])) && List.all (h.w2 ++ []) fun r => List.all r D.keeps then bif decide (List.length h.w3 ≤ List.length (h.w3 ++ [])) && List.all (h.w3 ++ []) fun r => List.all r D.keeps then bif decide (List.length s0.pg ≤ List.length (s0.pg ++ [])) && List.all (s0.pg ++ []) fun r => List.all r D.keeps then bif decide (List.length s0.rd ≤ List.length (s0.rd ++ [])) && List.all (s0.rd ++ []) fun r => List.all r D.keeps then bif decide (List.length s0.wt ≤ List.length (s0.wt ++ [])) && List.all (s0.wt ++ []) fun r => List.all r D.keeps then bif decide (List.length s1.pg ≤ List.length (s1.pg ++ [])) && List.all (s1.pg ++ []) fun r => List.all r D.keeps then bif decide (List.length s1.rd ≤ List.length (s1.rd ++ [])) && List.all (s1.rd ++ []) fun r => List.all r D.keeps then bif decide (List.length s1.wt ≤ List.length (s1.wt ++ [])) && List.all (s1.wt ++ []) fun r => List.all r D.keeps then bif decide (List.length h.tr ≤ List.length (h.tr ++ [])) && List.all (h.tr ++ []) fun r => List.all r D.keeps then K (DV.agg [D.s (1) (3) (List.take (List.length h.w0) (h.w0 ++ [])) (List.take (List.length h.w0 + 0 - List.length h.w0) (List.drop (List.length h.w0) (h.w0 ++ []))), D.s (1) (3) (List.take (List.length h.w1) (h.w1 ++ [])) (List.take (List.length h.w1 + 0 - List.length h.w1) (List.drop (List.length h.w1) (h.w1 ++ []))), D.s (1) (3) (List.take (List.length h.w2) (h.w2 ++ [])) (List.take (List.length h.w2 + 0 - List.length h.w2) (List.drop (List.length h.w2) (h.w2 ++ []))), D.s (1) (3) (List.take (List.length h.w3) (h.w3 ++ [])) (List.take (List.length h.w3 + 0 - List.length h.w3) (List.drop (List.length h.w3) (h.w3 ++ []))), D.v (Value.int IntKind.i64 h.c0), D.v (Value.int IntKind.i64 h.c1), D.v (Value.int IntKind.i64 h.c2), D.v (Value.int IntKind.i64 h.c3), D.v (Value.int IntKind.i64 h.ce), D.s (1) (17) [[D.v (Value.int IntKind.i64 s0.id), D.v (Value.int IntKind.i64 s0.lb), D.v (Value.int IntKind.i64 s0.cl), D.s (1) (4) (List.take (List.length s0.pg) (s0.pg ++ [])) (List.take (List.length s0.pg + 0 - List.length s0.pg) (List.drop (List.length s0.pg) (s0.pg ++ []))), D.v (Value.int IntKind.i64 s0.st), D.v (Value.int IntKind.i64 s0.pc), D.v (Value.int IntKind.i64 s0.r0), D.v (Value.int IntKind.i64 s0.r1), D.v (Value.int IntKind.i64 s0.r2), D.v (Value.int IntKind.i64 s0.r3), D.s (1) (3) (List.take (List.length s0.rd) (s0.rd ++ [])) (List.take (List.length s0.rd + 0 - List.length s0.rd) (List.drop (List.length s0.rd) (s0.rd ++ []))), D.s (1) (3) (List.take (List.length s0.wt) (s0.wt ++ [])) (List.take (List.length s0.wt + 0 - List.length s0.wt) (List.drop (List.length s0.wt) (s0.wt ++ []))), D.v (Value.int IntKind.i64 s0.at'), D.v (Value.int IntKind.i64 s0.sp), D.v (Value.int IntKind.i64 s0.tr), D.v (Value.int IntKind.i64 s0.rs), D.v (Value.int IntKind.i64 s0.to)], [D.v (Value.int IntKind.i64 s1.id), D.v (Value.int IntKind.i64 s1.lb), D.v (Value.int IntKind.i64 s1.cl), D.s (1) (4) (List.take (List.length s1.pg) (s1.pg ++ [])) (List.take (List.length s1.pg + 0 - List.length s1.pg) (List.drop (List.length s1.pg) (s1.pg ++ []))), D.v (Value.int IntKind.i64 s1.st), D.v (Value.int IntKind.i64 s1.pc), D.v (Value.int IntKind.i64 s1.r0), D.v (Value.int IntKind.i64 s1.r1), D.v (Value.int IntKind.i64 s1.r2), D.v (Value.int IntKind.i64 s1.r3), D.s (1) (3) (List.take (List.length s1.rd) (s1.rd ++ [])) (List.take (List.length s1.rd + 0 - List.length s1.rd) (List.drop (List.length s1.rd) (s1.rd ++ []))), D.s (1) (3) (List.take (List.length s1.wt) (s1.wt ++ [])) (List.take (List.length s1.wt + 0 - List.length s1.wt) (List.drop (List.length s1.wt) (s1.wt ++ []))), D.v (Value.int IntKind.i64 s1.at'), D.v (Value.int IntKind.i64 s1.sp), D.v (Value.int IntKind.i64 s1.tr), D.v (Value.int IntKind.i64 s1.rs), D.v (Value.int IntKind.i64 s1.to)]] [], D.s (1) (4) (List.take (List.length h.tr) (h.tr ++ [])) (List.take (List.length h.tr + 0 - List.length h.tr) (List.drop (List.length h.tr) (h.tr ++ [])))]) else False else False else False else False else False else False else False else False else False else False else False else False else False else False else False) := by kernel_rfl
theorem eCop3 (h : Mh) (s0 s1 s2 : SesD) (K : DV → Prop) : (askH Tryz.prog (hkM [(93, sACopy), (95, sCloneEvents), (96, sSesC)] [(94, sClS)] []) Tryz.f53 [.agg (macL 0 h [s0, s1, s2])] K) = (bif okC4 h.w0 h.w1 h.w2 h.w3 then bif allV h.tr && decide (List.length h.tr ≤ 4398046510977) then bif smS s0 then bif smS s1 then bif smS s2 then bif decide (List.length h.w0 ≤ List.length (h.w0 ++ [])) && List.all (h.w0 ++ []) fun r => List.all r D.keeps then bif decide (List.length h.w1 ≤ List.length (h.w1 ++ [])) && List.all (h.w1 ++ []) fun r => List.all r D.keeps then bif decide (List.length h.w2 ≤ List.length (h.w2 ++ [])) && List.all (h.w2 ++ []) fun r => List.all r D.keeps then bif decide (List.length h.w3 ≤ List.length (h.w3 ++ [])) && List.all (h.w3 ++ []) fun r => List.all r D.keeps then bif decide (List.length s0.pg ≤ List.length (s0.pg ++ [])) && List.all (s0.pg ++ []) fun r => List.all r D.keeps then bif decide (List.length s0.rd ≤ List.length (s0.rd ++ [])) && List.all (s0.rd ++ []) fun r => List.all r D.keeps then bif decide (List.length s0.wt ≤ List.length (s0.wt ++ [])) && List.all (s0.wt ++ []) fun r => List.all r D.keeps then bif decide (List.length s1.pg ≤ List.length (s1.pg ++ [])) && List.all (s1.pg ++ []) fun r => List.all r D.keeps then bif decide (List.length s1.rd ≤ List.length (s1.rd ++ [])) && List.all (s1.rd ++ []) fun r => List.all r D.keeps then bif decide (List.length s1.wt ≤ List.length (s1.wt ++ [])) && List.all (s1.wt ++ []) fun r => List.all r D.keeps then bif decide (List.length s2.pg ≤ List.length (s2.pg ++ [])) && List.all (s2.pg ++ []) fun r => List.all r D.keeps then bif decide (List.length s2.rd ≤ List.length (s2.rd ++ [])) && List.all (s2.rd ++ []) fun r => List.all r D.keeps then bif decide (List.length s2.wt ≤ List.length (s2.wt ++ [])) && List.all (s2.wt ++ []) fun r => List.all r D.keeps then bif decide (List.length h.tr ≤ List.length (h.tr ++ [])) && List.all (h.tr ++ []) fun r => List.all r D.keeps then K (DV.agg [D.s (1) (3) (List.take (List.length h.w0) (h.w0 ++ [])) (List.take (List.length h.w0 + 0 - List.length h.w0) (List.drop (List.length h.w0) (h.w0 ++ []))), D.s (1) (3) (List.take (List.length h.w1) (h.w1 ++ [])) (List.take (List.length h.w1 + 0 - List.length h.w1) (List.drop (List.length h.w1) (h.w1 ++ []))), D.s (1) (3) (List.take (List.length h.w2) (h.w2 ++ [])) (List.take (List.length h.w2 + 0 - List.length h.w2) (List.drop (List.length h.w2) (h.w2 ++ []))), D.s (1) (3) (List.take (List.length h.w3) (h.w3 ++ [])) (List.take (List.length h.w3 + 0 - List.length h.w3) (List.drop (List.length h.w3) (h.w3 ++ []))), D.v (Value.int IntKind.i64 h.c0), D.v (Value.int IntKind.i64 h.c1), D.v (Value.int IntKind.i64 h.c2), D.v (Value.int IntKind.i64 h.c3), D.v (Value.int IntKind.i64 h.ce), D.s (1) (17) [[D.v (Value.int IntKind.i64 s0.id), D.v (Value.int IntKind.i64 s0.lb), D.v (Value.int IntKind.i64 s0.cl), D.s (1) (4) (List.take (List.length s0.pg) (s0.pg ++ [])) (List.take (List.length s0.pg + 0 - List.length s0.pg) (List.drop (List.length s0.pg) (s0.pg ++ []))), D.v (Value.int IntKind.i64 s0.st), D.v (Value.int IntKind.i64 s0.pc), D.v (Value.int IntKind.i64 s0.r0), D.v (Value.int IntKind.i64 s0.r1), D.v (Value.int IntKind.i64 s0.r2), D.v (Value.int IntKind.i64 s0.r3), D.s (1) (3) (List.take (List.length s0.rd) (s0.rd ++ [])) (List.take (List.length s0.rd + 0 - List.length s0.rd) (List.drop (List.length s0.rd) (s0.rd ++ []))), D.s (1) (3) (List.take (List.length s0.wt) (s0.wt ++ [])) (List.take (List.length s0.wt + 0 - List.length s0.wt) (List.drop (List.length s0.wt) (s0.wt ++ []))), D.v (Value.int IntKind.i64 s0.at'), D.v (Value.int IntKind.i64 s0.sp), D.v (Value.int IntKind.i64 s0.tr), D.v (Value.int IntKind.i64 s0.rs), D.v (Value.int IntKind.i64 s0.to)], [D.v (Value.int IntKind.i64 s1.id), D.v (Value.int IntKind.i64 s1.lb), D.v (Value.int IntKind.i64 s1.cl), D.s (1) (4) (List.take (List.length s1.pg) (s1.pg ++ [])) (List.take (List.length s1.pg + 0 - List.length s1.pg) (List.drop (List.length s1.pg) (s1.pg ++ []))), D.v (Value.int IntKind.i64 s1.st), D.v (Value.int IntKind.i64 s1.pc), D.v (Value.int IntKind.i64 s1.r0), D.v (Value.int IntKind.i64 s1.r1), D.v (Value.int IntKind.i64 s1.r2), D.v (Value.int IntKind.i64 s1.r3), D.s (1) (3) (List.take (List.length s1.rd) (s1.rd ++ [])) (List.take (List.length s1.rd + 0 - List.length s1.rd) (List.drop (List.length s1.rd) (s1.rd ++ []))), D.s (1) (3) (List.take (List.length s1.wt) (s1.wt ++ [])) (List.take (List.length s1.wt + 0 - List.length s1.wt) (List.drop (List.length s1.wt) (s1.wt ++ []))), D.v (Value.int IntKind.i64 s1.at'), D.v (Value.int IntKind.i64 s1.sp), D.v (Value.int IntKind.i64 s1.tr), D.v (Value.int IntKind.i64 s1.rs), D.v (Value.int IntKind.i64 s1.to)], [D.v (Value.int IntKind.i64 s2.id), D.v (Value.int IntKind.i64 s2.lb), D.v (Value.int IntKind.i64 s2.cl), D.s (1) (4) (List.take (List.length s2.pg) (s2.pg ++ [])) (List.take (List.length s2.pg + 0 - List.length s2.pg) (List.drop (List.length s2.pg) (s2.pg ++ []))), D.v (Value.int IntKind.i64 s2.st), D.v (Value.int IntKind.i64 s2.pc), D.v (Value.int IntKind.i64 s2.r0), D.v (Value.int IntKind.i64 s2.r1), D.v (Value.int IntKind.i64 s2.r2), D.v (Value.int IntKind.i64 s2.r3), D.s (1) (3) (List.take (List.length s2.rd) (s2.rd ++ [])) (List.take (List.length s2.rd + 0 - List.length s2.rd) (List.drop (List.length s2.rd) (s2.rd ++ []))), D.s (1) (3) (List.take (List.length s2.wt) (s2.wt ++ [])) (List.take (List.length s2.wt + 0 - List.length s2.wt) (List.drop (List.length s2.wt) (s2.wt ++ []))), D.v (Value.int IntKind.i64 s2.at'), D.v (Value.int IntKind.i64 s2.sp), D.v (Value.int IntKind.i64 s2.tr), D.v (Value.int IntKind.i64 s2.rs), D.v (Value.int IntKind.i64 s2.to)]] [], D.s (1) (4) (List.take (List.length h.tr) (h.tr ++ [])) (List.take (List.length h.tr + 0 - List.length h.tr) (List.drop (List.length h.tr) (h.tr ++ [])))]) else False else False else False else False else False else False else False else False else False else False else False else False else False else False else False else False else False else False else False) := by kernel_rfl
theorem eCop4 (h : Mh) (s0 s1 s2 s3 : SesD) (K : DV → Prop) : (askH Tryz.prog (hkM [(93, sACopy), (95, sCloneEvents), (96, sSesC)] [(94, sClS)] []) Tryz.f53 [.agg (macL 0 h [s0, s1, s2, s3])] K) = (bif okC4 h.w0 h.w1 h.w2 h.w3 then bif allV h.tr && decide (List.length h.tr ≤ 4398046510977) then bif smS s0 then bif smS s1 then bif smS s2 then bif smS s3 then bif decide (List.length h.w0 ≤ List.length (h.w0 ++ [])) && List.all (h.w0 ++ []) fun r => List.all r D.keeps then bif decide (List.length h.w1 ≤ List.length (h.w1 ++ [])) && List.all (h.w1 ++ []) fun r => List.all r D.keeps then bif decide (List.length h.w2 ≤ List.length (h.w2 ++ [])) && List.all (h.w2 ++ []) fun r => List.all r D.keeps then bif decide (List.length h.w3 ≤ List.length (h.w3 ++ [])) && List.all (h.w3 ++ []) fun r => List.all r D.keeps then bif decide (List.length s0.pg ≤ List.length (s0.pg ++ [])) && List.all (s0.pg ++ []) fun r => List.all r D.keeps then bif decide (List.length s0.rd ≤ List.length (s0.rd ++ [])) && List.all (s0.rd ++ []) fun r => List.all r D.keeps then bif decide (List.length s0.wt ≤ List.length (s0.wt ++ [])) && List.all (s0.wt ++ []) fun r => List.all r D.keeps then bif decide (List.length s1.pg ≤ List.length (s1.pg ++ [])) && List.all (s1.pg ++ []) fun r => List.all r D.keeps then bif decide (List.length s1.rd ≤ List.length (s1.rd ++ [])) && List.all (s1.rd ++ []) fun r => List.all r D.keeps then bif decide (List.length s1.wt ≤ List.length (s1.wt ++ [])) && List.all (s1.wt ++ []) fun r => List.all r D.keeps then bif decide (List.length s2.pg ≤ List.length (s2.pg ++ [])) && List.all (s2.pg ++ []) fun r => List.all r D.keeps then bif decide (List.length s2.rd ≤ List.length (s2.rd ++ [])) && List.all (s2.rd ++ []) fun r => List.all r D.keeps then bif decide (List.length s2.wt ≤ List.length (s2.wt ++ [])) && List.all (s2.wt ++ []) fun r => List.all r D.keeps then bif decide (List.length s3.pg ≤ List.length (s3.pg ++ [])) && List.all (s3.pg ++ []) fun r => List.all r D.keeps then bif decide (List.length s3.rd ≤ List.length (s3.rd ++ [])) && List.all (s3.rd ++ []) fun r => List.all r D.keeps then bif decide (List.length s3.wt ≤ List.length (s3.wt ++ [])) && List.all (s3.wt ++ []) fun r => List.all r D.keeps then bif decide (List.length h.tr ≤ List.length (h.tr ++ [])) && List.all (h.tr ++ []) fun r => List.all r D.keeps then K (DV.agg [D.s (1) (3) (List.take (List.length h.w0) (h.w0 ++ [])) (List.take (List.length h.w0 + 0 - List.length h.w0) (List.drop (List.length h.w0) (h.w0 ++ []))), D.s (1) (3) (List.take (List.length h.w1) (h.w1 ++ [])) (List.take (List.length h.w1 + 0 - List.length h.w1) (List.drop (List.length h.w1) (h.w1 ++ []))), D.s (1) (3) (List.take (List.length h.w2) (h.w2 ++ [])) (List.take (List.length h.w2 + 0 - List.length h.w2) (List.drop (List.length h.w2) (h.w2 ++ []))), D.s (1) (3) (List.take (List.length h.w3) (h.w3 ++ [])) (List.take (List.length h.w3 + 0 - List.length h.w3) (List.drop (List.length h.w3) (h.w3 ++ []))), D.v (Value.int IntKind.i64 h.c0), D.v (Value.int IntKind.i64 h.c1), D.v (Value.int IntKind.i64 h.c2), D.v (Value.int IntKind.i64 h.c3), D.v (Value.int IntKind.i64 h.ce), D.s (1) (17) [[D.v (Value.int IntKind.i64 s0.id), D.v (Value.int IntKind.i64 s0.lb), D.v (Value.int IntKind.i64 s0.cl), D.s (1) (4) (List.take (List.length s0.pg) (s0.pg ++ [])) (List.take (List.length s0.pg + 0 - List.length s0.pg) (List.drop (List.length s0.pg) (s0.pg ++ []))), D.v (Value.int IntKind.i64 s0.st), D.v (Value.int IntKind.i64 s0.pc), D.v (Value.int IntKind.i64 s0.r0), D.v (Value.int IntKind.i64 s0.r1), D.v (Value.int IntKind.i64 s0.r2), D.v (Value.int IntKind.i64 s0.r3), D.s (1) (3) (List.take (List.length s0.rd) (s0.rd ++ [])) (List.take (List.length s0.rd + 0 - List.length s0.rd) (List.drop (List.length s0.rd) (s0.rd ++ []))), D.s (1) (3) (List.take (List.length s0.wt) (s0.wt ++ [])) (List.take (List.length s0.wt + 0 - List.length s0.wt) (List.drop (List.length s0.wt) (s0.wt ++ []))), D.v (Value.int IntKind.i64 s0.at'), D.v (Value.int IntKind.i64 s0.sp), D.v (Value.int IntKind.i64 s0.tr), D.v (Value.int IntKind.i64 s0.rs), D.v (Value.int IntKind.i64 s0.to)], [D.v (Value.int IntKind.i64 s1.id), D.v (Value.int IntKind.i64 s1.lb), D.v (Value.int IntKind.i64 s1.cl), D.s (1) (4) (List.take (List.length s1.pg) (s1.pg ++ [])) (List.take (List.length s1.pg + 0 - List.length s1.pg) (List.drop (List.length s1.pg) (s1.pg ++ []))), D.v (Value.int IntKind.i64 s1.st), D.v (Value.int IntKind.i64 s1.pc), D.v (Value.int IntKind.i64 s1.r0), D.v (Value.int IntKind.i64 s1.r1), D.v (Value.int IntKind.i64 s1.r2), D.v (Value.int IntKind.i64 s1.r3), D.s (1) (3) (List.take (List.length s1.rd) (s1.rd ++ [])) (List.take (List.length s1.rd + 0 - List.length s1.rd) (List.drop (List.length s1.rd) (s1.rd ++ []))), D.s (1) (3) (List.take (List.length s1.wt) (s1.wt ++ [])) (List.take (List.length s1.wt + 0 - List.length s1.wt) (List.drop (List.length s1.wt) (s1.wt ++ []))), D.v (Value.int IntKind.i64 s1.at'), D.v (Value.int IntKind.i64 s1.sp), D.v (Value.int IntKind.i64 s1.tr), D.v (Value.int IntKind.i64 s1.rs), D.v (Value.int IntKind.i64 s1.to)], [D.v (Value.int IntKind.i64 s2.id), D.v (Value.int IntKind.i64 s2.lb), D.v (Value.int IntKind.i64 s2.cl), D.s (1) (4) (List.take (List.length s2.pg) (s2.pg ++ [])) (List.take (List.length s2.pg + 0 - List.length s2.pg) (List.drop (List.length s2.pg) (s2.pg ++ []))), D.v (Value.int IntKind.i64 s2.st), D.v (Value.int IntKind.i64 s2.pc), D.v (Value.int IntKind.i64 s2.r0), D.v (Value.int IntKind.i64 s2.r1), D.v (Value.int IntKind.i64 s2.r2), D.v (Value.int IntKind.i64 s2.r3), D.s (1) (3) (List.take (List.length s2.rd) (s2.rd ++ [])) (List.take (List.length s2.rd + 0 - List.length s2.rd) (List.drop (List.length s2.rd) (s2.rd ++ []))), D.s (1) (3) (List.take (List.length s2.wt) (s2.wt ++ [])) (List.take (List.length s2.wt + 0 - List.length s2.wt) (List.drop (List.length s2.wt) (s2.wt ++ []))), D.v (Value.int IntKind.i64 s2.at'), D.v (Value.int IntKind.i64 s2.sp), D.v (Value.int IntKind.i64 s2.tr), D.v (Value.int IntKind.i64 s2.rs), D.v (Value.int IntKind.i64 s2.to)], [D.v (Value.int IntKind.i64 s3.id), D.v (Value.int IntKind.i64 s3.lb), D.v (Value.int IntKind.i64 s3.cl), D.s (1) (4) (List.take (List.length s3.pg) (s3.pg ++ [])) (List.take (List.length s3.pg + 0 - List.length s3.pg) (List.drop (List.length s3.pg) (s3.pg ++ []))), D.v (Value.int IntKind.i64 s3.st), D.v (Value.int IntKind.i64 s3.pc), D.v (Value.int IntKind.i64 s3.r0), D.v (Value.int IntKind.i64 s3.r1), D.v (Value.int IntKind.i64 s3.r2), D.v (Value.int IntKind.i64 s3.r3), D.s (1) (3) (List.take (List.length s3.rd) (s3.rd ++ [])) (List.take (List.length s3.rd + 0 - List.length s3.rd) (List.drop (List.length s3.rd) (s3.rd ++ []))), D.s (1) (3) (List.take (List.length s3.wt) (s3.wt ++ [])) (List.take (List.length s3.wt + 0 - List.length s3.wt) (List.drop (List.length s3.wt) (s3.wt ++ []))), D.v (Value.int IntKind.i64 s3.at'), D.v (Value.int IntKind.i64 s3.sp), D.v (Value.int IntKind.i64 s3.tr), D.v (Value.int IntKind.i64 s3.rs), D.v (Value.int IntKind.i64 s3.to)]] [], D.s (1) (4) (List.take (List.length h.tr) (h.tr ++ [])) (List.take (List.length h.tr + 0 - List.length h.tr) (List.drop (List.length h.tr) (h.tr ++ [])))]) else False else False else False else False else False else False else False else False else False else False else False else False else False else False else False else False else False else False else False else False else False else False else False) := by kernel_rfl
theorem smM_spec {h : Mh} {ss : List SesD} (hm : smM h ss = true) : (smR 5864062014635 h.w0 = true ∧ smR 5864062014635 h.w1 = true ∧ smR 5864062014635 h.w2 = true ∧ smR 5864062014635 h.w3 = true) ∧ smR 4398046510977 h.tr = true ∧ ∀ s ∈ ss, smS s = true := by
  unfold smM okC4 okC at hm
  simp only [Bool.and_eq_true, List.all_eq_true] at hm
  unfold smR
  simp only [Bool.and_eq_true]
  refine ⟨⟨hm.1.1, hm.1.2.1, hm.1.2.2.1, hm.1.2.2.2⟩, ?_, hm.2.2⟩
  have := hm.2.1
  unfold smR at this
  rw [Bool.and_eq_true] at this
  exact this
theorem smM_C4 {h : Mh} {ss : List SesD} (hm : smM h ss = true) : okC4 h.w0 h.w1 h.w2 h.w3 = true := by unfold smM at hm; rw [Bool.and_eq_true] at hm; exact hm.1
theorem ownL_mac {h : Mh} {ss : List SesD} (hm : smM h ss = true) : ownL (macL 1 h ss) = true := by
  obtain ⟨⟨a0, a1, a2, a3⟩, a4, a5⟩ := smM_spec hm
  have h6 : ownLL (ss.map (sesL 1)) = true := by
    clear hm
    induction ss with
    | nil => rfl
    | cons s l ih => simp only [List.map_cons, ownLL, ownL_ses (a5 s (by simp)), ih fun q hq => a5 q (by simp [hq])]; rfl
  simp only [macL, ownL, D.pureOwn, ownLL_of (smR_spec a0).1, ownLL_of (smR_spec a1).1, ownLL_of (smR_spec a2).1, ownLL_of (smR_spec a3).1, ownLL_of (smR_spec a4).1, h6, ownLL]; rfl
theorem cCop (h : Mh) (ss : List SesD) (hl : ss.length ≤ 4) (hm : smM h ss = true) : CT Tryz.prog 53 [.agg (macL 0 h ss)] (.agg (macL 1 h ss)) := by
  have h4 := smM_C4 hm
  obtain ⟨⟨a0, a1, a2, a3⟩, a4, a5⟩ := smM_spec hm
  obtain ⟨_, _, b0⟩ := smR_spec a0
  obtain ⟨_, _, b1⟩ := smR_spec a1
  obtain ⟨_, _, b2⟩ := smR_spec a2
  obtain ⟨_, _, b3⟩ := smR_spec a3
  obtain ⟨t1, t2, t3⟩ := smR_spec a4
  rcases ss with _ | ⟨s0, _ | ⟨s1, _ | ⟨s2, _ | ⟨s3, _ | ⟨s4, l⟩⟩⟩⟩⟩
  · refine ct_m (.cons oACopy (.cons oCloneEvents (.cons oSesC .nil))) (.cons oClS .nil) .nil mixed Tryz.func53 rfl rfl rfl ?_
    rw [eCop0]
    refine ⟨?_⟩
    simp only [h4, b0, b1, b2, b3, t1, t2, t3, List.append_nil, Nat.le_refl, decide_true, Bool.and_self, cond_true, takeAll, Nat.add_zero, Nat.sub_self, List.take_zero]
    rfl
  · have q0 := a5 s0 (by simp)
    obtain ⟨p0, r0, w0⟩ := smS_spec q0
    obtain ⟨_, _, x0⟩ := smR_spec p0
    obtain ⟨_, _, y0⟩ := smR_spec r0
    obtain ⟨_, _, z0⟩ := smR_spec w0
    refine ct_m (.cons oACopy (.cons oCloneEvents (.cons oSesC .nil))) (.cons oClS .nil) .nil mixed Tryz.func53 rfl rfl rfl ?_
    rw [eCop1]
    refine ⟨?_⟩
    simp only [h4, b0, b1, b2, b3, t1, t2, t3, q0, x0, y0, z0, List.append_nil, Nat.le_refl, decide_true, Bool.and_self, cond_true, takeAll, Nat.add_zero, Nat.sub_self, List.take_zero]
    rfl
  · have q0 := a5 s0 (by simp)
    obtain ⟨p0, r0, w0⟩ := smS_spec q0
    obtain ⟨_, _, x0⟩ := smR_spec p0
    obtain ⟨_, _, y0⟩ := smR_spec r0
    obtain ⟨_, _, z0⟩ := smR_spec w0
    have q1 := a5 s1 (by simp)
    obtain ⟨p1, r1, w1⟩ := smS_spec q1
    obtain ⟨_, _, x1⟩ := smR_spec p1
    obtain ⟨_, _, y1⟩ := smR_spec r1
    obtain ⟨_, _, z1⟩ := smR_spec w1
    refine ct_m (.cons oACopy (.cons oCloneEvents (.cons oSesC .nil))) (.cons oClS .nil) .nil mixed Tryz.func53 rfl rfl rfl ?_
    rw [eCop2]
    refine ⟨?_⟩
    simp only [h4, b0, b1, b2, b3, t1, t2, t3, q0, x0, y0, z0, q1, x1, y1, z1, List.append_nil, Nat.le_refl, decide_true, Bool.and_self, cond_true, takeAll, Nat.add_zero, Nat.sub_self, List.take_zero]
    rfl
  · have q0 := a5 s0 (by simp)
    obtain ⟨p0, r0, w0⟩ := smS_spec q0
    obtain ⟨_, _, x0⟩ := smR_spec p0
    obtain ⟨_, _, y0⟩ := smR_spec r0
    obtain ⟨_, _, z0⟩ := smR_spec w0
    have q1 := a5 s1 (by simp)
    obtain ⟨p1, r1, w1⟩ := smS_spec q1
    obtain ⟨_, _, x1⟩ := smR_spec p1
    obtain ⟨_, _, y1⟩ := smR_spec r1
    obtain ⟨_, _, z1⟩ := smR_spec w1
    have q2 := a5 s2 (by simp)
    obtain ⟨p2, r2, w2⟩ := smS_spec q2
    obtain ⟨_, _, x2⟩ := smR_spec p2
    obtain ⟨_, _, y2⟩ := smR_spec r2
    obtain ⟨_, _, z2⟩ := smR_spec w2
    refine ct_m (.cons oACopy (.cons oCloneEvents (.cons oSesC .nil))) (.cons oClS .nil) .nil mixed Tryz.func53 rfl rfl rfl ?_
    rw [eCop3]
    refine ⟨?_⟩
    simp only [h4, b0, b1, b2, b3, t1, t2, t3, q0, x0, y0, z0, q1, x1, y1, z1, q2, x2, y2, z2, List.append_nil, Nat.le_refl, decide_true, Bool.and_self, cond_true, takeAll, Nat.add_zero, Nat.sub_self, List.take_zero]
    rfl
  · have q0 := a5 s0 (by simp)
    obtain ⟨p0, r0, w0⟩ := smS_spec q0
    obtain ⟨_, _, x0⟩ := smR_spec p0
    obtain ⟨_, _, y0⟩ := smR_spec r0
    obtain ⟨_, _, z0⟩ := smR_spec w0
    have q1 := a5 s1 (by simp)
    obtain ⟨p1, r1, w1⟩ := smS_spec q1
    obtain ⟨_, _, x1⟩ := smR_spec p1
    obtain ⟨_, _, y1⟩ := smR_spec r1
    obtain ⟨_, _, z1⟩ := smR_spec w1
    have q2 := a5 s2 (by simp)
    obtain ⟨p2, r2, w2⟩ := smS_spec q2
    obtain ⟨_, _, x2⟩ := smR_spec p2
    obtain ⟨_, _, y2⟩ := smR_spec r2
    obtain ⟨_, _, z2⟩ := smR_spec w2
    have q3 := a5 s3 (by simp)
    obtain ⟨p3, r3, w3⟩ := smS_spec q3
    obtain ⟨_, _, x3⟩ := smR_spec p3
    obtain ⟨_, _, y3⟩ := smR_spec r3
    obtain ⟨_, _, z3⟩ := smR_spec w3
    refine ct_m (.cons oACopy (.cons oCloneEvents (.cons oSesC .nil))) (.cons oClS .nil) .nil mixed Tryz.func53 rfl rfl rfl ?_
    rw [eCop4]
    refine ⟨?_⟩
    simp only [h4, b0, b1, b2, b3, t1, t2, t3, q0, x0, y0, z0, q1, x1, y1, z1, q2, x2, y2, z2, q3, x3, y3, z3, List.append_nil, Nat.le_refl, decide_true, Bool.and_self, cond_true, takeAll, Nat.add_zero, Nat.sub_self, List.take_zero]
    rfl
  · simp at hl
def sCop : Spec := fun ds Q => match ds with
  | [d] => macA d fun h ss => cond (Nat.ble ss.length 4 && smM h ss) (Q (.agg (macL 1 h ss))) False
  | _ => False
end

section
set_option maxHeartbeats 2000000
open Go Go.Proofs
set_option linter.unusedSimpArgs false
set_option linter.unusedVariables false
set_option maxRecDepth 100000
instance : Inhabited SesD := ⟨⟨0, 0, 0, [], 0, 0, 0, 0, 0, 0, [], [], 0, 0, 0, 0, 0⟩⟩
theorem pmay_len {l : List (List Int)} (h : pmay l = true) : l.length ≤ 16 := by unfold pmay at h; simp only [Bool.and_eq_true, decide_eq_true_eq] at h; exact h.2
theorem rmay_len {l : List (List Int)} (h : rmay l = true) : l.length ≤ 16 := by unfold rmay at h; simp only [Bool.and_eq_true, decide_eq_true_eq] at h; exact h.1
theorem wrmay_len {l : List (List Int)} (h : wrmay l = true) : l.length ≤ 16 := by unfold wrmay at h; simp only [Bool.and_eq_true, decide_eq_true_eq] at h; exact h.1
theorem rowMay_len {l : List (List Int)} (h : rowMay l = true) : l.length ≤ 4 := by
  unfold rowMay at h
  simp only [Bool.not_eq_true', Bool.or_eq_false_iff, decide_eq_false_iff_not] at h
  omega
theorem sesMay_sm {R0 R1 R2 R3 : List (List D)} {s : SesD} (hs : okSes s = true) (h : sesMay R0 R1 R2 R3 s = true) : smS s = true := by
  unfold sesMay setsB smay at h
  simp only [Bool.and_eq_true] at h
  unfold okSes at hs
  simp only [Bool.and_eq_true] at hs
  have a1 := pmay_len h.1.2.2.2.2
  have a2 := rmay_len h.2.1.1
  have a3 := wrmay_len h.2.1.2.1
  rw [toZ_len] at a1 a2 a3
  unfold smS
  rw [smR_of hs.1 a1 (by omega), smR_of hs.2.1 a2 (by omega), smR_of hs.2.2 a3 (by omega)]; rfl
theorem mmay_sm {h : Mh} {ss : List SesD} (ho : okM h ss = true) (hm : mmay h ss = true) : smM h ss = true := by
  obtain ⟨h1, h2, h3⟩ := okM_spec ho
  obtain ⟨_, g5⟩ := mmay_ses hm
  unfold mmay amay at hm
  simp only [Bool.and_eq_true, Bool.not_eq_true', decide_eq_false_iff_not] at hm
  obtain ⟨⟨a0, a1, a2, a3⟩, _, _, _, htr, _⟩ := hm
  unfold okA at h1
  simp only [Bool.and_eq_true] at h1
  have l0 := rowMay_len a0
  have l1 := rowMay_len a1
  have l2 := rowMay_len a2
  have l3 := rowMay_len a3
  rw [toZ_len] at l0 l1 l2 l3
  have e0 : okC h.w0 = true := smR_of (n := 5864062014635) h1.1 l0 (by omega)
  have e1 : okC h.w1 = true := smR_of (n := 5864062014635) h1.2.1 l1 (by omega)
  have e2 : okC h.w2 = true := smR_of (n := 5864062014635) h1.2.2.1 l2 (by omega)
  have e3 : okC h.w3 = true := smR_of (n := 5864062014635) h1.2.2.2 l3 (by omega)
  unfold smM okC4
  rw [e0, e1, e2, e3, smR_of (n := 4398046510977) (m := 512) h2 (by omega) (by omega)]
  simp only [Bool.and_self, Bool.true_and, List.all_eq_true]
  intro s hs
  exact sesMay_sm (List.all_eq_true.1 h3 s hs) (g5 s hs)
abbrev macE (e : Int) : DV := .tup [.agg (macL 1 h0 []), I e]
abbrev macR (h : Mh) (ss : List SesD) (e : Int) : DV := .tup [.agg (macL 1 h ss), I e]
theorem sm_facts {h : Mh} {ss : List SesD} (hm : smM h ss = true) : ((h.w0.all fun r => r.all D.keeps) = true ∧ (h.w1.all fun r => r.all D.keeps) = true ∧ (h.w2.all fun r => r.all D.keeps) = true ∧ (h.w3.all fun r => r.all D.keeps) = true) ∧ (h.tr.all fun r => r.all D.keeps) = true ∧ ∀ s ∈ ss, (s.pg.all fun r => r.all D.keeps) = true ∧ (s.rd.all fun r => r.all D.keeps) = true ∧ (s.wt.all fun r => r.all D.keeps) = true := by
  obtain ⟨⟨a0, a1, a2, a3⟩, a4, a5⟩ := smM_spec hm
  exact ⟨⟨(smR_spec a0).2.2, (smR_spec a1).2.2, (smR_spec a2).2.2, (smR_spec a3).2.2⟩, (smR_spec a4).2.2, fun s hs => by
    obtain ⟨p, r, w⟩ := smS_spec (a5 s hs)
    exact ⟨(smR_spec p).2.2, (smR_spec r).2.2, (smR_spec w).2.2⟩⟩
structure Foc (h : Mh) (ss : List SesD) (i : Int) (s : SesD) : Prop where
  at' : ss[i.toNat]? = some s
  ok : okSes s = true
  may : sesMay h.w0 h.w1 h.w2 h.w3 s = true
  lt : i.toNat < ss.length
  i0 : 0 ≤ i
  i1 : i < ss.length
  sm : smM h ss = true
  len : ss.length ≤ 4
  mm : mmay h ss = true
  w0 : allK h.w0 = true
  w1 : allK h.w1 = true
  w2 : allK h.w2 = true
  w3 : allK h.w3 = true
  tr : allK h.tr = true
  tl : h.tr.length ≤ 512
theorem foc {h : Mh} {ss : List SesD} {i : Int} (hok : okM h ss = true) (hm : mthere h ss i = true) : ∃ s, Foc h ss i s := by
  obtain ⟨s, h1, h2, h3⟩ := mthere_at hok hm
  obtain ⟨g0, g1, g2⟩ := mthere_spec hm
  have hsm := mmay_sm hok g0
  obtain ⟨⟨b0, b1, b2, b3⟩, t3, _⟩ := sm_facts hsm
  refine ⟨s, h1, h2, h3, by omega, g1, g2, hsm, (mmay_ses g0).1, g0, b0, b1, b2, b3, t3, ?_⟩
  unfold mmay at g0
  simp only [Bool.and_eq_true, Bool.not_eq_true', decide_eq_false_iff_not] at g0
  omega
theorem Foc.getD {h : Mh} {ss : List SesD} {i : Int} {s : SesD} (f : Foc h ss i s) : ss.getD i.toNat default = s := by
  rw [List.getD_eq_getElem?_getD, f.at']; rfl
theorem Foc.foAt {h : Mh} {ss : List SesD} {i : Int} {s : SesD} (f : Foc h ss i s) : Vm.foAt (addN 0 i.toNat) i.toNat (List.length (List.map (sesL 1) ss)) := foAt_iff.2 ⟨rfl, by rw [List.length_map]; exact f.lt⟩
theorem Foc.ix {h : Mh} {ss : List SesD} {i : Int} {s : SesD} (f : Foc h ss i s) : (decide (0 ≤ i) && decide (i < @Nat.cast Int _ (List.length (List.map (sesL 1) ss)))) = true := by
  rw [List.length_map, decide_eq_true f.i0, decide_eq_true f.i1]; rfl
theorem Foc.row {h : Mh} {ss : List SesD} {i : Int} {s : SesD} (f : Foc h ss i s) : sesAt (List.map (sesL 1) ss) (Int.toNat i) 1 s := sesAt_map f.at'
theorem Foc.ow0 {h : Mh} {ss : List SesD} {i : Int} {s : SesD} (f : Foc h ss i s) : whole h.w0.length h.w0 := whole_self f.w0
theorem Foc.ow1 {h : Mh} {ss : List SesD} {i : Int} {s : SesD} (f : Foc h ss i s) : whole h.w1.length h.w1 := whole_self f.w1
theorem Foc.ow2 {h : Mh} {ss : List SesD} {i : Int} {s : SesD} (f : Foc h ss i s) : whole h.w2.length h.w2 := whole_self f.w2
theorem Foc.ow3 {h : Mh} {ss : List SesD} {i : Int} {s : SesD} (f : Foc h ss i s) : whole h.w3.length h.w3 := whole_self f.w3
theorem Foc.otr {h : Mh} {ss : List SesD} {i : Int} {s : SesD} (f : Foc h ss i s) : whole h.tr.length h.tr := whole_self f.tr
theorem Foc.oss {h : Mh} {ss : List SesD} {i : Int} {s : SesD} (f : Foc h ss i s) (j : Nat) (s' : SesD) : whole (List.length (List.map (sesL 1) ss)) (List.set (List.map (sesL 1) ss) j (sesL 1 s')) := whole_ses (List.length_map _)
theorem Foc.set {h : Mh} {ss : List SesD} {i : Int} {s : SesD} (f : Foc h ss i s) : List.set ss i.toNat s = ss := set_same' _ _ _ f.at'
theorem al_macR (h : Mh) (ss : List SesD) (j : Nat) (s : SesD) (e : Int) : AL (.tup [.agg (macLR 1 h (List.set (List.map (sesL 1) ss) j (sesL 1 s))), I e]) (macR h (ss.set j s) e) := by
  rw [set_ses, macLR_eq]; exact AL.refl _
theorem al_e0 (e : Int) : AL (.tup [.agg mac0, I e]) (macE e) := al_err e
theorem gCop : Goes Tryz.prog 53 := goes_of Tryz.func53 (by kernel_rfl) rfl
theorem gAt : Goes Tryz.prog 80 := goes_of Tryz.func80 (by kernel_rfl) rfl
def iCpF (t : Bool) (h : Mh) (ss : List SesD) (i : Int) (s : SesD) : Inl := callM Tryz.prog [34] (sIf t (sAtD [.agg (macL 0 h ss)] (.agg (macL 1 h ss)))) (matF i.toNat s)
theorem own_mac {h : Mh} {ss : List SesD} (hm : smM h ss = true) : (DV.agg (macL 1 h ss)).pureOwn = true := ownL_mac hm
theorem iCpF_ok {t : Bool} {h : Mh} {ss : List SesD} (i : Int) (s : SesD) (hl : t = true → smM h ss = true ∧ ss.length ≤ 4) : InlOK Tryz.prog 53 (iCpF t h ss i s) :=
  callM_ok (matF_ok _ _) (oIf fun ht => oAtD gCop (cCop h ss (hl ht).2 (hl ht).1) (own_mac (hl ht).1) rfl)
theorem there_cpF {h : Mh} {ss : List SesD} (i : Int) (hok : okM h ss = true) : mthere h ss i = true → smM h ss = true ∧ ss.length ≤ 4 := fun hm => by
  obtain ⟨g0, _, _⟩ := mthere_spec hm
  exact ⟨mmay_sm hok g0, (mmay_ses g0).1⟩
theorem own_macR {h : Mh} {ss : List SesD} (hm : smM h ss = true) (e : Int) : (macR h ss e).pureOwn = true := by
  have := ownL_mac hm
  simp only [macR, DV.pureOwn, DV.pureOwn.go, this]
  rfl
end

section
open Go Go.Proofs
set_option linter.unusedSimpArgs false
set_option linter.unusedVariables false
set_option maxRecDepth 100000
def wdsB (R0 R1 R2 R3 : List (List D)) (s : SesD) : Bool := !(toZ s.pg).any (noIn R0 R1 R2 R3) && (!(toZ s.wt).any (noWr R0 R1 R2 R3) && !(toZ s.rd).any (noRd R0 R1 R2 R3))
theorem thv_noRd (a b c d : List (List Int)) (l : List (List Int)) : l.all (thv a b c d) = !l.any (noRd (mZ a) (mZ b) (mZ c) (mZ d)) := by
  rw [List.all_eq_not_any_not]
  congr 2
  funext r
  unfold thv noRd thW
  rw [mZ_len, mZ_len, mZ_len, mZ_len]
theorem cWds (R0 R1 R2 R3 : List (List D)) (s : SesD) (hA : okA R0 R1 R2 R3 = true) (hs : okSes s = true) : CT Tryz.prog 120 [.agg (wsL R0 R1 R2 R3), .agg (sesL 0 s)] (B (wdsB R0 R1 R2 R3 s)) := by
  obtain ⟨q0, q1, q2, q3⟩ := okA_spec hA
  obtain ⟨a1, a2, _⟩ := okZ_spec q0
  obtain ⟨b1, b2, _⟩ := okZ_spec q1
  obtain ⟨c1, c2, _⟩ := okZ_spec q2
  obtain ⟨d1, d2, _⟩ := okZ_spec q3
  obtain ⟨e, ⟨hp, hpl⟩, ⟨hr, hrl⟩, ⟨hw, hwl⟩⟩ := okSes_spec hs
  have hz : okZ 3 s.rd = true := by unfold okSes at hs; simp only [Bool.and_eq_true] at hs; exact hs.2.1
  rw [a1, b1, c1, d1] at hA ⊢
  have hz2 : okZ 3 (mZ (toZ s.rd)) = true := by rw [← (okZ_spec hz).1]; exact hz
  rw [e]
  generalize toZ R0 = a at *
  generalize toZ R1 = b at *
  generalize toZ R2 = c at *
  generalize toZ R3 = d at *
  generalize toZ s.pg = p at *
  generalize toZ s.rd = r at *
  generalize toZ s.wt = w at *
  refine ct_sL (m := [(2, fWd1 a b c d s p r w), (8, fWd2 a b c d s p r w)]) (.cons oRThr (.cons oRT .nil)) mixed (loopsAB rfl (by kernel_rfl) (by kernel_rfl) rfl (kWd1 hp hpl) (kWd2 hw hwl)) Tryz.func120 rfl rfl rfl ?_
  rw [eWds]
  unfold wdsB SesD.on
  simp only [toZ_mZ]
  refine ⟨⟨trivial, fun i hi => ?_, fun hn => ⟨trivial, fun i hi => ?_, fun hn2 => ?_⟩⟩⟩
  · rw [hi.any]; rfl
  · rw [hn.any, hi.any]; rfl
  · rw [hn.any, hn2.any, hA, hz2, thv_noRd]; rfl
def sWds : Spec := fun ds Q => match ds with
  | [.agg cs, e] => cond (noOwn cs && Nat.beq cs.length 4) (takeW4 cs fun R0 R1 R2 R3 => sesA e fun s => cond (okA R0 R1 R2 R3 && okSes s) (Q (B (wdsB R0 R1 R2 R3 s))) False) False
  | _ => False
theorem oWds : SpecOK Tryz.prog 120 sWds := o_al Tryz.func120 (by kernel_rfl) rfl fun ds Q h => by
  unfold sWds at h; split at h
  · obtain ⟨h0, h⟩ := cond_P h
    rw [Bool.and_eq_true] at h0
    have hl := beq_true h0.2
    obtain ⟨R0, R1, R2, R3, h, r1⟩ := takeW4_spec h
    obtain ⟨s, h, r2⟩ := sesA_spec h
    obtain ⟨h1, h2⟩ := cond_P h
    rw [Bool.and_eq_true] at h1
    rw [List.take_of_length_le (Nat.le_of_eq hl)] at r1
    exact ⟨_, _, .cons (.agg r1 h0.1 rfl) (.cons r2 .nil), cWds R0 R1 R2 R3 s h1.1 h1.2, rfl, rfl, h2⟩
  · exact h.elim
theorem eUp2 (x l m : Int) (K : DV → Prop) : (ask Tryz.prog [] Tryz.f56 [I x, I l, I m] K) = (bif decide (x ≥ l) then K (DV.c (D.v (Value.bool (decide (x ≤ m))))) else K (DV.c (D.v (Value.bool false)))) := by kernel_rfl
theorem oUp2 : SpecOK Tryz.prog 56 sUp := o_of Tryz.func56 (by kernel_rfl) rfl fun ds Q h => by
  unfold sUp at h; split at h
  · refine ⟨_, ct_ask .nil mixed Tryz.func56 rfl rfl rfl ?_, rfl, rfl, h⟩
    rw [eUp2]; rename_i x l m; unfold upto; cases decide (x ≥ l) <;> rfl
  · exact h.elim
theorem eRSes (h : Mh) (ss : List SesD) (s : SesD) (K : DV → Prop) : (ask Tryz.prog [(92, sSMay), (120, sWds), (56, sUp), (121, sRRgM), (122, sRM), (123, sWMy), (69, sB clk), (91, sB val8)] Tryz.f70 [.agg (macL 0 h ss), .agg (sesL 0 s)] K) = (bif okZ (4) s.pg then bif !smay s.id s.lb s.cl (toZ s.pg) then K (DV.c (D.v (Value.bool false))) else bif okA h.w0 h.w1 h.w2 h.w3 && okSes s then bif !wdsB h.w0 h.w1 h.w2 h.w3 s then K (DV.c (D.v (Value.bool false))) else bif !upto s.st (0) (6) then K (DV.c (D.v (Value.bool false))) else bif !upto s.pc (0) (@Nat.cast Int _ (List.length s.pg)) then K (DV.c (D.v (Value.bool false))) else bif !v4 s.r0 s.r1 s.r2 s.r3 then K (DV.c (D.v (Value.bool false))) else bif okZ (3) s.rd then bif !rmay (toZ s.rd) then K (DV.c (D.v (Value.bool false))) else bif okZ (3) s.wt then bif !wrmay (toZ s.wt) then K (DV.c (D.v (Value.bool false))) else bif upto s.at' (0) (@Nat.cast Int _ (List.length s.wt)) then bif clk s.sp then bif clk s.tr then bif upto s.rs (0) (5) then K (DV.c (D.v (Value.bool (val8 s.to)))) else K (DV.c (D.v (Value.bool false))) else K (DV.c (D.v (Value.bool false))) else K (DV.c (D.v (Value.bool false))) else K (DV.c (D.v (Value.bool false))) else False else False else False else False) := by kernel_rfl
theorem cRSes (h : Mh) (ss : List SesD) (s : SesD) (hA : okA h.w0 h.w1 h.w2 h.w3 = true) (hs : okSes s = true) : CT Tryz.prog 70 [.agg (macL 0 h ss), .agg (sesL 0 s)] (B (sesMay h.w0 h.w1 h.w2 h.w3 s)) := by
  refine ct_s (.cons oRSMay (.cons oWds (.cons oUp2 (.cons oRRgM (.cons oQM (.cons oWPy (.cons oRClk (.cons oRVal .nil)))))))) mixed Tryz.func70 rfl rfl rfl ?_
  rw [eRSes]
  refine ⟨?_⟩
  have hz := hs
  unfold okSes at hz
  simp only [Bool.and_eq_true] at hz
  simp only [hz.1, hz.2.1, hz.2.2, hA, hs, Bool.and_self, cond_true, bifN, bifK]
  unfold sesMay setsB farB numB' wdsB
  congr 3
  ac_rfl
def sRSes : Spec := fun ds Q => match ds with
  | [d, e] => macA d fun h _ => sesA e fun s => cond (okA h.w0 h.w1 h.w2 h.w3 && okSes s) (Q (B (sesMay h.w0 h.w1 h.w2 h.w3 s))) False
  | _ => False
theorem oRSes : SpecOK Tryz.prog 70 sRSes := o_al Tryz.func70 (by kernel_rfl) rfl fun ds Q hq => by
  unfold sRSes at hq; split at hq
  · obtain ⟨h, ss, hq, r1⟩ := macA_spec hq
    obtain ⟨s, hq, r⟩ := sesA_spec hq
    obtain ⟨h1, h2⟩ := cond_P hq
    rw [Bool.and_eq_true] at h1
    exact ⟨_, _, .cons r1 (.cons r .nil), cRSes h ss s h1.1 h1.2, rfl, rfl, h2⟩
  · exact hq.elim
def stTr (h : Mh) (ss : List SesD) (v : Bool) (i : Int) : X := ⟨mkT 90 [(1, .c (.rp 2 0 11 0 0)), (2, ab v), (5, ai i)], [(2, .bx 0 11 ((macL 0 h ss).map C.d))], [], []⟩
def v_stTr (h : Mh) (ss : List SesD) : Vw := fun y K => wB y 2 fun v => wI y 5 fun i => K (stTr h ss v i)
theorem v_stTr_ok (h : Mh) (ss : List SesD) : VwOK (v_stTr h ss) := fun y K h => by
  unfold v_stTr at h
  obtain ⟨v, h⟩ := wB_ex h
  obtain ⟨i, h⟩ := wI_ex h
  exact ⟨_, h⟩
theorem rTr (h : Mh) (ss : List SesD) (v : Bool) (i : Int) (N : X → Prop) (E : Exit → X → Prop) : (roundV Tryz.prog (hkA band bor [(71, sB lab)] []) Tryz.f27 2 [] [1, 2, 5] [2] (v_stTr h ss) (fun _ => v_stTr h ss) N E (stTr h ss v i)) = (bif decide (i < @Nat.cast Int _ (List.length h.tr)) then bif decide (0 ≤ i) && decide (i < @Nat.cast Int _ (List.length h.tr)) then bif isJ [IntKind.i64] (List.drop (1) (List.getD h.tr (Int.toNat i) [])) then bif !lab (hdJ (List.drop (1) (List.getD h.tr (Int.toNat i) []))) then stTr h ss false i = stTr h ss false i ∧ E Exit.ret (stTr h ss false i) else stTr h ss v (IntKind.wrap IntKind.i64 (i + 1)) = stTr h ss v (IntKind.wrap IntKind.i64 (i + 1)) ∧ N (stTr h ss v (IntKind.wrap IntKind.i64 (i + 1))) else False else False else stTr h ss v i = stTr h ss v i ∧ E (Exit.exit (4)) (stTr h ss v i)) := by kernel_rfl
def Mh.on (h : Mh) (t : List (List Int)) : Mh := { h with tr := mZ t }
def fTr (h : Mh) (ss : List SesD) (t : List (List Int)) : LSum := findS [1, 2, 5] [2] (fun i => stTr (h.on t) ss false i) (fun i => stTr (h.on t) ss false i) t.length (fun i => noEv (t.getD i [])) .ret (.exit 4)
theorem kTr {h : Mh} {ss : List SesD} {t : List (List Int)} (hw : wid 4 t) (hn : t.length ≤ 9223372036854775807) (Q : Exit → X → Prop) (x : X) (hq : fTr h ss t Q x) : XWP Tryz.prog (.loop (bodyL Tryz.f27 2)) Q x := by
  refine xwp_findV (sw := []) (V := v_stTr (h.on t) ss) (VE := fun _ => v_stTr (h.on t) ss) mixed (v_stTr_ok (h.on t) ss) (fun _ => v_stTr_ok (h.on t) ss) _ _ _ _ _ _ (fun i hl => ⟨hkA band bor [(71, sB lab)] [], hkl_ok (.cons oRLab .nil), loops_nil rfl, fun N E h1 h2 => ?_⟩) ⟨hkA band bor [(71, sB lab)] [], hkl_ok (.cons oRLab .nil), loops_nil rfl, fun N E h1 => ?_⟩ Q x hq
  · rw [rTr]
    have wi : IntKind.wrap .i64 ((i : Int) + 1) = ((i + 1 : Nat) : Int) := wrap_nat (n := 1) (by omega)
    have a1 : isJ [IntKind.i64] (List.drop 1 ((mZ t).getD i [])) = true := isJ_mZ (j := 1) (n := 1) hw hl (by omega)
    simp only [Mh.on, mZ_len, Int.ofNat_lt, hl, decide_true, cond_true, Int.natCast_nonneg, Bool.and_self, Int.toNat_natCast, a1, hdJ_mZ, true_and, wi] at h1 h2 ⊢
    unfold noEv at h1 h2
    generalize lab ((t.getD i []).getD 1 0) = u at h1 h2 ⊢
    cases u <;> simp only [cond_true, cond_false, Bool.not_true, Bool.not_false, forall_const, reduceCtorEq, false_implies] at h1 h2 ⊢ <;> first | exact h1 | exact h2 | exact h1 trivial | exact h2 trivial
  · rw [rTr]
    simp only [Mh.on, mZ_len, Int.ofNat_lt, Nat.lt_irrefl, decide_false, cond_false, true_and]
    exact h1
theorem eRM_0 (h : Mh) (t : List (List Int)) (K : DV → Prop) : (askL Tryz.prog [(68, sAMay), (69, sB clk), (56, sUp), (70, sRSes)] [(14, fTr h [] t)] Tryz.f27 [.agg (macL 0 (h.on t) [])] K) = (bif okA h.w0 h.w1 h.w2 h.w3 then bif !amay (toZ h.w0) (toZ h.w1) (toZ h.w2) (toZ h.w3) then K (DV.c (D.v (Value.bool false))) else bif !clk h.ce then K (DV.c (D.v (Value.bool false))) else bif decide (@Nat.cast Int _ (List.length (mZ t)) > 512) then K (DV.c (D.v (Value.bool false))) else bif !upto h.c0 (0) h.ce then K (DV.c (D.v (Value.bool false))) else bif !upto h.c1 (0) h.ce then K (DV.c (D.v (Value.bool false))) else bif !upto h.c2 (0) h.ce then K (DV.c (D.v (Value.bool false))) else bif !upto h.c3 (0) h.ce then K (DV.c (D.v (Value.bool false))) else stTr { w0 := h.w0, w1 := h.w1, w2 := h.w2, w3 := h.w3, c0 := h.c0, c1 := h.c1, c2 := h.c2, c3 := h.c3, ce := h.ce, tr := mZ t } [] false (0) = stTr { w0 := h.w0, w1 := h.w1, w2 := h.w2, w3 := h.w3, c0 := h.c0, c1 := h.c1, c2 := h.c2, c3 := h.c3, ce := h.ce, tr := mZ t } [] false (0) ∧ (∀ (i : Nat), firstAt (fun i => noEv (List.getD t i [])) (List.length t) i → K (DV.c (D.v (Value.bool false)))) ∧ (noneTo (fun i => noEv (List.getD t i [])) (List.length t) → K (DV.c (D.v (Value.bool true)))) else False) := by kernel_rfl
theorem eRM_1 (h : Mh) (s0 : SesD) (t : List (List Int)) (K : DV → Prop) : (askL Tryz.prog [(68, sAMay), (69, sB clk), (56, sUp), (70, sRSes)] [(14, fTr h [s0] t)] Tryz.f27 [.agg (macL 0 (h.on t) [s0])] K) = (bif okA h.w0 h.w1 h.w2 h.w3 then bif !amay (toZ h.w0) (toZ h.w1) (toZ h.w2) (toZ h.w3) then K (DV.c (D.v (Value.bool false))) else bif !clk h.ce then K (DV.c (D.v (Value.bool false))) else bif decide (@Nat.cast Int _ (List.length (mZ t)) > 512) then K (DV.c (D.v (Value.bool false))) else bif !upto h.c0 (0) h.ce then K (DV.c (D.v (Value.bool false))) else bif !upto h.c1 (0) h.ce then K (DV.c (D.v (Value.bool false))) else bif !upto h.c2 (0) h.ce then K (DV.c (D.v (Value.bool false))) else bif !upto h.c3 (0) h.ce then K (DV.c (D.v (Value.bool false))) else bif okA h.w0 h.w1 h.w2 h.w3 && okSes s0 then bif !sesMay h.w0 h.w1 h.w2 h.w3 s0 then K (DV.c (D.v (Value.bool false))) else stTr { w0 := h.w0, w1 := h.w1, w2 := h.w2, w3 := h.w3, c0 := h.c0, c1 := h.c1, c2 := h.c2, c3 := h.c3, ce := h.ce, tr := mZ t } [s0] false (0) = stTr { w0 := h.w0, w1 := h.w1, w2 := h.w2, w3 := h.w3, c0 := h.c0, c1 := h.c1, c2 := h.c2, c3 := h.c3, ce := h.ce, tr := mZ t } [s0] false (0) ∧ (∀ (i : Nat), firstAt (fun i => noEv (List.getD t i [])) (List.length t) i → K (DV.c (D.v (Value.bool false)))) ∧ (noneTo (fun i => noEv (List.getD t i [])) (List.length t) → K (DV.c (D.v (Value.bool true)))) else False else False) := by kernel_rfl
theorem eRM_2 (h : Mh) (s0 s1 : SesD) (t : List (List Int)) (K : DV → Prop) : (askL Tryz.prog [(68, sAMay), (69, sB clk), (56, sUp), (70, sRSes)] [(14, fTr h [s0, s1] t)] Tryz.f27 [.agg (macL 0 (h.on t) [s0, s1])] K) = (bif okA h.w0 h.w1 h.w2 h.w3 then bif !amay (toZ h.w0) (toZ h.w1) (toZ h.w2) (toZ h.w3) then K (DV.c (D.v (Value.bool false))) else bif !clk h.ce then K (DV.c (D.v (Value.bool false))) else bif decide (@Nat.cast Int _ (List.length (mZ t)) > 512) then K (DV.c (D.v (Value.bool false))) else bif !upto h.c0 (0) h.ce then K (DV.c (D.v (Value.bool false))) else bif !upto h.c1 (0) h.ce then K (DV.c (D.v (Value.bool false))) else bif !upto h.c2 (0) h.ce then K (DV.c (D.v (Value.bool false))) else bif !upto h.c3 (0) h.ce then K (DV.c (D.v (Value.bool false))) else bif okA h.w0 h.w1 h.w2 h.w3 && okSes s0 then bif !sesMay h.w0 h.w1 h.w2 h.w3 s0 then K (DV.c (D.v (Value.bool false))) else bif okA h.w0 h.w1 h.w2 h.w3 && okSes s1 then bif !sesMay h.w0 h.w1 h.w2 h.w3 s1 then K (DV.c (D.v (Value.bool false))) else bif decide (s1.id ≤ s0.id) then K (DV.c (D.v (Value.bool false))) else stTr { w0 := h.w0, w1 := h.w1, w2 := h.w2, w3 := h.w3, c0 := h.c0, c1 := h.c1, c2 := h.c2, c3 := h.c3, ce := h.ce, tr := mZ t } [s0, s1] false (0) = stTr { w0 := h.w0, w1 := h.w1, w2 := h.w2, w3 := h.w3, c0 := h.c0, c1 := h.c1, c2 := h.c2, c3 := h.c3, ce := h.ce, tr := mZ t } [s0, s1] false (0) ∧ (∀ (i : Nat), firstAt (fun i => noEv (List.getD t i [])) (List.length t) i → K (DV.c (D.v (Value.bool false)))) ∧ (noneTo (fun i => noEv (List.getD t i [])) (List.length t) → K (DV.c (D.v (Value.bool true)))) else False else False else False) := by kernel_rfl
theorem eRM_3 (h : Mh) (s0 s1 s2 : SesD) (t : List (List Int)) (K : DV → Prop) : (askL Tryz.prog [(68, sAMay), (69, sB clk), (56, sUp), (70, sRSes)] [(14, fTr h [s0, s1, s2] t)] Tryz.f27 [.agg (macL 0 (h.on t) [s0, s1, s2])] K) = (bif okA h.w0 h.w1 h.w2 h.w3 then bif !amay (toZ h.w0) (toZ h.w1) (toZ h.w2) (toZ h.w3) then K (DV.c (D.v (Value.bool false))) else bif !clk h.ce then K (DV.c (D.v (Value.bool false))) else bif decide (@Nat.cast Int _ (List.length (mZ t)) > 512) then K (DV.c (D.v (Value.bool false))) else bif !upto h.c0 (0) h.ce then K (DV.c (D.v (Value.bool false))) else bif !upto h.c1 (0) h.ce then K (DV.c (D.v (Value.bool false))) else bif !upto h.c2 (0) h.ce then K (DV.c (D.v (Value.bool false))) else bif !upto h.c3 (0) h.ce then K (DV.c (D.v (Value.bool false))) else bif okA h.w0 h.w1 h.w2 h.w3 && okSes s0 then bif !sesMay h.w0 h.w1 h.w2 h.w3 s0 then K (DV.c (D.v (Value.bool false))) else bif okA h.w0 h.w1 h.w2 h.w3 && okSes s1 then bif !sesMay h.w0 h.w1 h.w2 h.w3 s1 then K (DV.c (D.v (Value.bool false))) else bif decide (s1.id ≤ s0.id) then K (DV.c (D.v (Value.bool false))) else bif okA h.w0 h.w1 h.w2 h.w3 && okSes s2 then bif !sesMay h.w0 h.w1 h.w2 h.w3 s2 then K (DV.c (D.v (Value.bool false))) else bif decide (s2.id ≤ s1.id) then K (DV.c (D.v (Value.bool false))) else stTr { w0 := h.w0, w1 := h.w1, w2 := h.w2, w3 := h.w3, c0 := h.c0, c1 := h.c1, c2 := h.c2, c3 := h.c3, ce := h.ce, tr := mZ t } [s0, s1, s2] false (0) = stTr { w0 := h.w0, w1 := h.w1, w2 := h.w2, w3 := h.w3, c0 := h.c0, c1 := h.c1, c2 := h.c2, c3 := h.c3, ce := h.ce, tr := mZ t } [s0, s1, s2] false (0) ∧ (∀ (i : Nat), firstAt (fun i => noEv (List.getD t i [])) (List.length t) i → K (DV.c (D.v (Value.bool false)))) ∧ (noneTo (fun i => noEv (List.getD t i [])) (List.length t) → K (DV.c (D.v (Value.bool true)))) else False else False else False else False) := by kernel_rfl
theorem eRM_4 (h : Mh) (s0 s1 s2 s3 : SesD) (t : List (List Int)) (K : DV → Prop) : (askL Tryz.prog [(68, sAMay), (69, sB clk), (56, sUp), (70, sRSes)] [(14, fTr h [s0, s1, s2, s3] t)] Tryz.f27 [.agg (macL 0 (h.on t) [s0, s1, s2, s3])] K) = (bif okA h.w0 h.w1 h.w2 h.w3 then bif !amay (toZ h.w0) (toZ h.w1) (toZ h.w2) (toZ h.w3) then K (DV.c (D.v (Value.bool false))) else bif !clk h.ce then K (DV.c (D.v (Value.bool false))) else bif decide (@Nat.cast Int _ (List.length (mZ t)) > 512) then K (DV.c (D.v (Value.bool false))) else bif !upto h.c0 (0) h.ce then K (DV.c (D.v (Value.bool false))) else bif !upto h.c1 (0) h.ce then K (DV.c (D.v (Value.bool false))) else bif !upto h.c2 (0) h.ce then K (DV.c (D.v (Value.bool false))) else bif !upto h.c3 (0) h.ce then K (DV.c (D.v (Value.bool false))) else bif okA h.w0 h.w1 h.w2 h.w3 && okSes s0 then bif !sesMay h.w0 h.w1 h.w2 h.w3 s0 then K (DV.c (D.v (Value.bool false))) else bif okA h.w0 h.w1 h.w2 h.w3 && okSes s1 then bif !sesMay h.w0 h.w1 h.w2 h.w3 s1 then K (DV.c (D.v (Value.bool false))) else bif decide (s1.id ≤ s0.id) then K (DV.c (D.v (Value.bool false))) else bif okA h.w0 h.w1 h.w2 h.w3 && okSes s2 then bif !sesMay h.w0 h.w1 h.w2 h.w3 s2 then K (DV.c (D.v (Value.bool false))) else bif decide (s2.id ≤ s1.id) then K (DV.c (D.v (Value.bool false))) else bif okA h.w0 h.w1 h.w2 h.w3 && okSes s3 then bif !sesMay h.w0 h.w1 h.w2 h.w3 s3 then K (DV.c (D.v (Value.bool false))) else bif decide (s3.id ≤ s2.id) then K (DV.c (D.v (Value.bool false))) else stTr { w0 := h.w0, w1 := h.w1, w2 := h.w2, w3 := h.w3, c0 := h.c0, c1 := h.c1, c2 := h.c2, c3 := h.c3, ce := h.ce, tr := mZ t } [s0, s1, s2, s3] false (0) = stTr { w0 := h.w0, w1 := h.w1, w2 := h.w2, w3 := h.w3, c0 := h.c0, c1 := h.c1, c2 := h.c2, c3 := h.c3, ce := h.ce, tr := mZ t } [s0, s1, s2, s3] false (0) ∧ (∀ (i : Nat), firstAt (fun i => noEv (List.getD t i [])) (List.length t) i → K (DV.c (D.v (Value.bool false)))) ∧ (noneTo (fun i => noEv (List.getD t i [])) (List.length t) → K (DV.c (D.v (Value.bool true)))) else False else False else False else False else False) := by kernel_rfl
theorem eRM_B (h : Mh) (ss : List SesD) (K : DV → Prop) : (askL Tryz.prog [(68, sAMay), (69, sB clk), (56, sUp)] [(4, fun _ _ => False)] Tryz.f27 [.agg (macL 0 h ss)] K) = (bif okA h.w0 h.w1 h.w2 h.w3 then bif !amay (toZ h.w0) (toZ h.w1) (toZ h.w2) (toZ h.w3) then K (DV.c (D.v (Value.bool false))) else bif !clk h.ce then K (DV.c (D.v (Value.bool false))) else bif decide (@Nat.cast Int _ (List.length (List.map (sesL (0)) ss)) > 4) then K (DV.c (D.v (Value.bool false))) else bif decide (@Nat.cast Int _ (List.length h.tr) > 512) then K (DV.c (D.v (Value.bool false))) else False else False) := by kernel_rfl
end

section
set_option maxHeartbeats 2000000
open Go Go.Proofs
set_option linter.unusedSimpArgs false
set_option linter.unusedVariables false
set_option maxRecDepth 100000
theorem mx_le (a b e : Int) : decide (mx a b > e) = (decide (a > e) || decide (b > e)) := by
  rw [Bool.eq_iff_iff]
  simp only [Bool.or_eq_true, decide_eq_true_eq]
  unfold mx
  split <;> omega
theorem ck_up (c0 c1 c2 c3 e : Int) : ((ck4 c0 c1 c2 c3 && clk e) && !decide (mx4 c0 c1 c2 c3 > e)) = (clk e && (upto c0 0 e && (upto c1 0 e && (upto c2 0 e && upto c3 0 e)))) := by
  unfold mx4
  rw [mx_le, mx_le, mx_le, Bool.eq_iff_iff]
  unfold ck4 clk upto
  simp only [Bool.and_eq_true, Bool.not_eq_true', Bool.or_eq_false_iff, decide_eq_true_eq, decide_eq_false_iff_not]
  omega
theorem idsNot (a b : Int) : (!decide (a ≥ b)) = !decide (b ≤ a) := rfl
theorem bN {p : Bool} {R : Prop} {q : Bool} (h : p = true → R) (h2 : p = false → q = false) : bif !p then (DV.c (.v (.bool false)) = B q) else R := by
  cases p
  · rw [h2 rfl]; rfl
  · exact h rfl
theorem bP {p : Bool} {R : Prop} {q : Bool} (h : p = false → R) (h2 : p = true → q = false) : bif p then (DV.c (.v (.bool false)) = B q) else R := by
  cases p
  · exact h rfl
  · rw [h2 rfl]; rfl
theorem bO {p : Bool} {R : Prop} (hp : p = true) (h : R) : bif p then R else False := by rw [hp]; exact h
theorem bT {T : Prop} {t : List (List Int)} {q : Bool} (hT : T) (h1 : t.any noEv = true → q = false) (h2 : t.any noEv = false → q = true) : T ∧ (∀ i : Nat, firstAt (fun i => noEv (List.getD t i [])) (List.length t) i → (DV.c (.v (.bool false)) = B q)) ∧ (noneTo (fun i => noEv (List.getD t i [])) (List.length t) → (DV.c (.v (.bool true)) = B q)) :=
  ⟨hT, fun i hi => by rw [h1 hi.any], fun hn => by rw [h2 hn.any]⟩
theorem loopsD {P : Program} {l : List (FuncId × Spec)} {fn : Func} {k1 k2 k3 : Nat} {s3 : LSum} (hn : (loopsOf (bodyOf fn)).length = 3) (e1 : loopId (bodyL fn 0) = k1) (e2 : loopId (bodyL fn 1) = k2) (e3 : loopId (bodyL fn 2) = k3) (n1 : Nat.beq k3 k1 = false) (n2 : Nat.beq k3 k2 = false) (h3 : ∀ Q x, s3 Q x → XWP P (.loop (bodyL fn 2)) Q x) : LoopsOK P (hkl l [(k3, s3)]) (bodyOf fn) :=
  loops_ok 3 hn fun i hi s hs Q x hq => by
    match i, hi with
    | 0, _ =>
      rw [e1] at hs
      have hs' : lookL [(k3, s3)] k1 = some s := hs
      simp only [lookL, n1] at hs'
      cases hs'
    | 1, _ =>
      rw [e2] at hs
      have hs' : lookL [(k3, s3)] k2 = some s := hs
      simp only [lookL, n2] at hs'
      cases hs'
    | 2, _ =>
      rw [e3] at hs
      have hs' : some s3 = some s := by simpa [lookL, hkl, hkA, beq_self] using hs
      cases hs'
      exact h3 Q x hq
theorem loopsTr {h : Mh} {ss : List SesD} {t : List (List Int)} (hw : wid 4 t) (hl : t.length ≤ 9223372036854775807) : LoopsOK Tryz.prog (hkl [(68, sAMay), (69, sB clk), (56, sUp), (70, sRSes)] [(14, fTr h ss t)]) (bodyOf Tryz.f27) :=
  loopsD rfl rfl rfl (by kernel_rfl) (by kernel_rfl) (by kernel_rfl) (fun Q x hq => kTr hw hl Q x hq)
theorem cRMt (h : Mh) (ss : List SesD) (t : List (List Int)) (hA : okA h.w0 h.w1 h.w2 h.w3 = true) (hw : wid 4 t) (hl : t.length ≤ 9223372036854775807) (hs : okSS ss = true) : CT Tryz.prog 27 [.agg (macL 0 (h.on t) ss)] (B (mmay (h.on t) ss)) := by
  have hq : ∀ s ∈ ss, okSes s = true := List.all_eq_true.1 hs
  rcases ss with _ | ⟨s0, _ | ⟨s1, _ | ⟨s2, _ | ⟨s3, _ | ⟨s4, l⟩⟩⟩⟩⟩
  · 
    have key : mmay (h.on t) [] = (amay (toZ h.w0) (toZ h.w1) (toZ h.w2) (toZ h.w3) && (clk h.ce && (!decide (((mZ t).length : Int) > 512) && (upto h.c0 0 h.ce && (upto h.c1 0 h.ce && (upto h.c2 0 h.ce && (upto h.c3 0 h.ce && !t.any noEv))))))) := by
      show (amay (toZ h.w0) (toZ h.w1) (toZ h.w2) (toZ h.w3) && ((ck4 h.c0 h.c1 h.c2 h.c3 && clk h.ce) && (!decide (mx4 h.c0 h.c1 h.c2 h.c3 > h.ce) && (!decide ((([] : List SesD).length : Int) > 4) && (!decide (((mZ t).length : Int) > 512) && (idsUp [] && (([] : List SesD).all (sesMay h.w0 h.w1 h.w2 h.w3) && !(toZ (mZ t)).any noEv))))))) = _
      rw [toZ_mZ, ← Bool.and_assoc (ck4 h.c0 h.c1 h.c2 h.c3 && clk h.ce), ck_up]
      simp only [idsUp, List.all_cons, List.all_nil, Bool.and_true, Bool.true_and, idsNot, (by simp : (!decide ((([] : List SesD).length : Int) > 4)) = true)]
      try ac_rfl
    refine ct_sL (m := [(14, fTr h [] t)]) (.cons oRAMay (.cons oRClk (.cons oUp2 (.cons oRSes .nil)))) mixed (loopsTr hw hl) Tryz.func27 rfl rfl rfl ?_
    rw [eRM_0]
    refine ⟨?_⟩
    refine bO hA ?_
    refine bN (fun gA => ?_) (fun g => by rw [key, g]; rfl)
    refine bN (fun gC => ?_) (fun g => by rw [key, gA, g]; rfl)
    refine bP (fun gT => ?_) (fun g => by rw [key, gA, gC, g]; rfl)
    refine bN (fun gc0 => ?_) (fun g => by rw [key, gA, gC, gT, g]; simp)
    refine bN (fun gc1 => ?_) (fun g => by rw [key, gA, gC, gT, gc0, g]; simp)
    refine bN (fun gc2 => ?_) (fun g => by rw [key, gA, gC, gT, gc0, gc1, g]; simp)
    refine bN (fun gc3 => ?_) (fun g => by rw [key, gA, gC, gT, gc0, gc1, gc2, g]; simp)
    exact bT rfl (fun g => by rw [key, gA, gC, gT, gc0, gc1, gc2, gc3, g]; rfl) (fun g => by rw [key, gA, gC, gT, gc0, gc1, gc2, gc3, g]; rfl)
  · 
    have q0 : okSes s0 = true := hq s0 (by simp)
    have key : mmay (h.on t) [s0] = (amay (toZ h.w0) (toZ h.w1) (toZ h.w2) (toZ h.w3) && (clk h.ce && (!decide (((mZ t).length : Int) > 512) && (upto h.c0 0 h.ce && (upto h.c1 0 h.ce && (upto h.c2 0 h.ce && (upto h.c3 0 h.ce && (sesMay h.w0 h.w1 h.w2 h.w3 s0 && !t.any noEv)))))))) := by
      show (amay (toZ h.w0) (toZ h.w1) (toZ h.w2) (toZ h.w3) && ((ck4 h.c0 h.c1 h.c2 h.c3 && clk h.ce) && (!decide (mx4 h.c0 h.c1 h.c2 h.c3 > h.ce) && (!decide ((([s0] : List SesD).length : Int) > 4) && (!decide (((mZ t).length : Int) > 512) && (idsUp [s0] && (([s0] : List SesD).all (sesMay h.w0 h.w1 h.w2 h.w3) && !(toZ (mZ t)).any noEv))))))) = _
      rw [toZ_mZ, ← Bool.and_assoc (ck4 h.c0 h.c1 h.c2 h.c3 && clk h.ce), ck_up]
      simp only [idsUp, List.all_cons, List.all_nil, Bool.and_true, Bool.true_and, idsNot, (by simp : (!decide ((([s0] : List SesD).length : Int) > 4)) = true)]
      try ac_rfl
    refine ct_sL (m := [(14, fTr h [s0] t)]) (.cons oRAMay (.cons oRClk (.cons oUp2 (.cons oRSes .nil)))) mixed (loopsTr hw hl) Tryz.func27 rfl rfl rfl ?_
    rw [eRM_1]
    refine ⟨?_⟩
    refine bO hA ?_
    refine bN (fun gA => ?_) (fun g => by rw [key, g]; rfl)
    refine bN (fun gC => ?_) (fun g => by rw [key, gA, g]; rfl)
    refine bP (fun gT => ?_) (fun g => by rw [key, gA, gC, g]; rfl)
    refine bN (fun gc0 => ?_) (fun g => by rw [key, gA, gC, gT, g]; simp)
    refine bN (fun gc1 => ?_) (fun g => by rw [key, gA, gC, gT, gc0, g]; simp)
    refine bN (fun gc2 => ?_) (fun g => by rw [key, gA, gC, gT, gc0, gc1, g]; simp)
    refine bN (fun gc3 => ?_) (fun g => by rw [key, gA, gC, gT, gc0, gc1, gc2, g]; simp)
    refine bO (by rw [hA, q0]; rfl) ?_
    refine bN (fun gs0 => ?_) (fun g => by rw [key, gA, gC, gT, gc0, gc1, gc2, gc3, g]; simp)
    exact bT rfl (fun g => by rw [key, gA, gC, gT, gc0, gc1, gc2, gc3, gs0, g]; rfl) (fun g => by rw [key, gA, gC, gT, gc0, gc1, gc2, gc3, gs0, g]; rfl)
  · 
    have q0 : okSes s0 = true := hq s0 (by simp)
    have q1 : okSes s1 = true := hq s1 (by simp)
    have key : mmay (h.on t) [s0, s1] = (amay (toZ h.w0) (toZ h.w1) (toZ h.w2) (toZ h.w3) && (clk h.ce && (!decide (((mZ t).length : Int) > 512) && (upto h.c0 0 h.ce && (upto h.c1 0 h.ce && (upto h.c2 0 h.ce && (upto h.c3 0 h.ce && (sesMay h.w0 h.w1 h.w2 h.w3 s0 && (sesMay h.w0 h.w1 h.w2 h.w3 s1 && (!decide (s1.id ≤ s0.id) && !t.any noEv)))))))))) := by
      show (amay (toZ h.w0) (toZ h.w1) (toZ h.w2) (toZ h.w3) && ((ck4 h.c0 h.c1 h.c2 h.c3 && clk h.ce) && (!decide (mx4 h.c0 h.c1 h.c2 h.c3 > h.ce) && (!decide ((([s0, s1] : List SesD).length : Int) > 4) && (!decide (((mZ t).length : Int) > 512) && (idsUp [s0, s1] && (([s0, s1] : List SesD).all (sesMay h.w0 h.w1 h.w2 h.w3) && !(toZ (mZ t)).any noEv))))))) = _
      rw [toZ_mZ, ← Bool.and_assoc (ck4 h.c0 h.c1 h.c2 h.c3 && clk h.ce), ck_up]
      simp only [idsUp, List.all_cons, List.all_nil, Bool.and_true, Bool.true_and, idsNot, (by simp : (!decide ((([s0, s1] : List SesD).length : Int) > 4)) = true)]
      try ac_rfl
    refine ct_sL (m := [(14, fTr h [s0, s1] t)]) (.cons oRAMay (.cons oRClk (.cons oUp2 (.cons oRSes .nil)))) mixed (loopsTr hw hl) Tryz.func27 rfl rfl rfl ?_
    rw [eRM_2]
    refine ⟨?_⟩
    refine bO hA ?_
    refine bN (fun gA => ?_) (fun g => by rw [key, g]; rfl)
    refine bN (fun gC => ?_) (fun g => by rw [key, gA, g]; rfl)
    refine bP (fun gT => ?_) (fun g => by rw [key, gA, gC, g]; rfl)
    refine bN (fun gc0 => ?_) (fun g => by rw [key, gA, gC, gT, g]; simp)
    refine bN (fun gc1 => ?_) (fun g => by rw [key, gA, gC, gT, gc0, g]; simp)
    refine bN (fun gc2 => ?_) (fun g => by rw [key, gA, gC, gT, gc0, gc1, g]; simp)
    refine bN (fun gc3 => ?_) (fun g => by rw [key, gA, gC, gT, gc0, gc1, gc2, g]; simp)
    refine bO (by rw [hA, q0]; rfl) ?_
    refine bN (fun gs0 => ?_) (fun g => by rw [key, gA, gC, gT, gc0, gc1, gc2, gc3, g]; simp)
    refine bO (by rw [hA, q1]; rfl) ?_
    refine bN (fun gs1 => ?_) (fun g => by rw [key, gA, gC, gT, gc0, gc1, gc2, gc3, gs0, g]; simp)
    refine bP (fun gi1 => ?_) (fun g => by rw [key, gA, gC, gT, gc0, gc1, gc2, gc3, gs0, gs1, g]; simp)
    exact bT rfl (fun g => by rw [key, gA, gC, gT, gc0, gc1, gc2, gc3, gs0, gs1, gi1, g]; rfl) (fun g => by rw [key, gA, gC, gT, gc0, gc1, gc2, gc3, gs0, gs1, gi1, g]; rfl)
  · 
    have q0 : okSes s0 = true := hq s0 (by simp)
    have q1 : okSes s1 = true := hq s1 (by simp)
    have q2 : okSes s2 = true := hq s2 (by simp)
    have key : mmay (h.on t) [s0, s1, s2] = (amay (toZ h.w0) (toZ h.w1) (toZ h.w2) (toZ h.w3) && (clk h.ce && (!decide (((mZ t).length : Int) > 512) && (upto h.c0 0 h.ce && (upto h.c1 0 h.ce && (upto h.c2 0 h.ce && (upto h.c3 0 h.ce && (sesMay h.w0 h.w1 h.w2 h.w3 s0 && (sesMay h.w0 h.w1 h.w2 h.w3 s1 && (!decide (s1.id ≤ s0.id) && (sesMay h.w0 h.w1 h.w2 h.w3 s2 && (!decide (s2.id ≤ s1.id) && !t.any noEv)))))))))))) := by
      show (amay (toZ h.w0) (toZ h.w1) (toZ h.w2) (toZ h.w3) && ((ck4 h.c0 h.c1 h.c2 h.c3 && clk h.ce) && (!decide (mx4 h.c0 h.c1 h.c2 h.c3 > h.ce) && (!decide ((([s0, s1, s2] : List SesD).length : Int) > 4) && (!decide (((mZ t).length : Int) > 512) && (idsUp [s0, s1, s2] && (([s0, s1, s2] : List SesD).all (sesMay h.w0 h.w1 h.w2 h.w3) && !(toZ (mZ t)).any noEv))))))) = _
      rw [toZ_mZ, ← Bool.and_assoc (ck4 h.c0 h.c1 h.c2 h.c3 && clk h.ce), ck_up]
      simp only [idsUp, List.all_cons, List.all_nil, Bool.and_true, Bool.true_and, idsNot, (by simp : (!decide ((([s0, s1, s2] : List SesD).length : Int) > 4)) = true)]
      try ac_rfl
    refine ct_sL (m := [(14, fTr h [s0, s1, s2] t)]) (.cons oRAMay (.cons oRClk (.cons oUp2 (.cons oRSes .nil)))) mixed (loopsTr hw hl) Tryz.func27 rfl rfl rfl ?_
    rw [eRM_3]
    refine ⟨?_⟩
    refine bO hA ?_
    refine bN (fun gA => ?_) (fun g => by rw [key, g]; rfl)
    refine bN (fun gC => ?_) (fun g => by rw [key, gA, g]; rfl)
    refine bP (fun gT => ?_) (fun g => by rw [key, gA, gC, g]; rfl)
    refine bN (fun gc0 => ?_) (fun g => by rw [key, gA, gC, gT, g]; simp)
    refine bN (fun gc1 => ?_) (fun g => by rw [key, gA, gC, gT, gc0, g]; simp)
    refine bN (fun gc2 => ?_) (fun g => by rw [key, gA, gC, gT, gc0, gc1, g]; simp)
    refine bN (fun gc3 => ?_) (fun g => by rw [key, gA, gC, gT, gc0, gc1, gc2, g]; simp)
    refine bO (by rw [hA, q0]; rfl) ?_
    refine bN (fun gs0 => ?_) (fun g => by rw [key, gA, gC, gT, gc0, gc1, gc2, gc3, g]; simp)
    refine bO (by rw [hA, q1]; rfl) ?_
    refine bN (fun gs1 => ?_) (fun g => by rw [key, gA, gC, gT, gc0, gc1, gc2, gc3, gs0, g]; simp)
    refine bP (fun gi1 => ?_) (fun g => by rw [key, gA, gC, gT, gc0, gc1, gc2, gc3, gs0, gs1, g]; simp)
    refine bO (by rw [hA, q2]; rfl) ?_
    refine bN (fun gs2 => ?_) (fun g => by rw [key, gA, gC, gT, gc0, gc1, gc2, gc3, gs0, gs1, gi1, g]; simp)
    refine bP (fun gi2 => ?_) (fun g => by rw [key, gA, gC, gT, gc0, gc1, gc2, gc3, gs0, gs1, gi1, gs2, g]; simp)
    exact bT rfl (fun g => by rw [key, gA, gC, gT, gc0, gc1, gc2, gc3, gs0, gs1, gi1, gs2, gi2, g]; rfl) (fun g => by rw [key, gA, gC, gT, gc0, gc1, gc2, gc3, gs0, gs1, gi1, gs2, gi2, g]; rfl)
  · 
    have q0 : okSes s0 = true := hq s0 (by simp)
    have q1 : okSes s1 = true := hq s1 (by simp)
    have q2 : okSes s2 = true := hq s2 (by simp)
    have q3 : okSes s3 = true := hq s3 (by simp)
    have key : mmay (h.on t) [s0, s1, s2, s3] = (amay (toZ h.w0) (toZ h.w1) (toZ h.w2) (toZ h.w3) && (clk h.ce && (!decide (((mZ t).length : Int) > 512) && (upto h.c0 0 h.ce && (upto h.c1 0 h.ce && (upto h.c2 0 h.ce && (upto h.c3 0 h.ce && (sesMay h.w0 h.w1 h.w2 h.w3 s0 && (sesMay h.w0 h.w1 h.w2 h.w3 s1 && (!decide (s1.id ≤ s0.id) && (sesMay h.w0 h.w1 h.w2 h.w3 s2 && (!decide (s2.id ≤ s1.id) && (sesMay h.w0 h.w1 h.w2 h.w3 s3 && (!decide (s3.id ≤ s2.id) && !t.any noEv)))))))))))))) := by
      show (amay (toZ h.w0) (toZ h.w1) (toZ h.w2) (toZ h.w3) && ((ck4 h.c0 h.c1 h.c2 h.c3 && clk h.ce) && (!decide (mx4 h.c0 h.c1 h.c2 h.c3 > h.ce) && (!decide ((([s0, s1, s2, s3] : List SesD).length : Int) > 4) && (!decide (((mZ t).length : Int) > 512) && (idsUp [s0, s1, s2, s3] && (([s0, s1, s2, s3] : List SesD).all (sesMay h.w0 h.w1 h.w2 h.w3) && !(toZ (mZ t)).any noEv))))))) = _
      rw [toZ_mZ, ← Bool.and_assoc (ck4 h.c0 h.c1 h.c2 h.c3 && clk h.ce), ck_up]
      simp only [idsUp, List.all_cons, List.all_nil, Bool.and_true, Bool.true_and, idsNot, (by simp : (!decide ((([s0, s1, s2, s3] : List SesD).length : Int) > 4)) = true)]
      try ac_rfl
    refine ct_sL (m := [(14, fTr h [s0, s1, s2, s3] t)]) (.cons oRAMay (.cons oRClk (.cons oUp2 (.cons oRSes .nil)))) mixed (loopsTr hw hl) Tryz.func27 rfl rfl rfl ?_
    rw [eRM_4]
    refine ⟨?_⟩
    refine bO hA ?_
    refine bN (fun gA => ?_) (fun g => by rw [key, g]; rfl)
    refine bN (fun gC => ?_) (fun g => by rw [key, gA, g]; rfl)
    refine bP (fun gT => ?_) (fun g => by rw [key, gA, gC, g]; rfl)
    refine bN (fun gc0 => ?_) (fun g => by rw [key, gA, gC, gT, g]; simp)
    refine bN (fun gc1 => ?_) (fun g => by rw [key, gA, gC, gT, gc0, g]; simp)
    refine bN (fun gc2 => ?_) (fun g => by rw [key, gA, gC, gT, gc0, gc1, g]; simp)
    refine bN (fun gc3 => ?_) (fun g => by rw [key, gA, gC, gT, gc0, gc1, gc2, g]; simp)
    refine bO (by rw [hA, q0]; rfl) ?_
    refine bN (fun gs0 => ?_) (fun g => by rw [key, gA, gC, gT, gc0, gc1, gc2, gc3, g]; simp)
    refine bO (by rw [hA, q1]; rfl) ?_
    refine bN (fun gs1 => ?_) (fun g => by rw [key, gA, gC, gT, gc0, gc1, gc2, gc3, gs0, g]; simp)
    refine bP (fun gi1 => ?_) (fun g => by rw [key, gA, gC, gT, gc0, gc1, gc2, gc3, gs0, gs1, g]; simp)
    refine bO (by rw [hA, q2]; rfl) ?_
    refine bN (fun gs2 => ?_) (fun g => by rw [key, gA, gC, gT, gc0, gc1, gc2, gc3, gs0, gs1, gi1, g]; simp)
    refine bP (fun gi2 => ?_) (fun g => by rw [key, gA, gC, gT, gc0, gc1, gc2, gc3, gs0, gs1, gi1, gs2, g]; simp)
    refine bO (by rw [hA, q3]; rfl) ?_
    refine bN (fun gs3 => ?_) (fun g => by rw [key, gA, gC, gT, gc0, gc1, gc2, gc3, gs0, gs1, gi1, gs2, gi2, g]; simp)
    refine bP (fun gi3 => ?_) (fun g => by rw [key, gA, gC, gT, gc0, gc1, gc2, gc3, gs0, gs1, gi1, gs2, gi2, gs3, g]; simp)
    exact bT rfl (fun g => by rw [key, gA, gC, gT, gc0, gc1, gc2, gc3, gs0, gs1, gi1, gs2, gi2, gs3, gi3, g]; rfl) (fun g => by rw [key, gA, gC, gT, gc0, gc1, gc2, gc3, gs0, gs1, gi1, gs2, gi2, gs3, gi3, g]; rfl)
  · refine ct_sL (l := [(68, sAMay), (69, sB clk), (56, sUp)]) (m := [(4, fun _ _ => False)]) (.cons oRAMay (.cons oRClk (.cons oUp2 .nil))) mixed loops_no Tryz.func27 rfl rfl rfl ?_
    rw [eRM_B]
    refine ⟨?_⟩
    have h6 : mmay (h.on t) (s0 :: s1 :: s2 :: s3 :: s4 :: l) = false := by
      unfold mmay
      rw [(by simp; omega : (!decide (((s0 :: s1 :: s2 :: s3 :: s4 :: l).length : Int) > 4)) = false)]
      simp
    rw [h6]
    refine bO hA (bN (fun _ => bN (fun _ => bP (fun g => ?_) fun _ => rfl) fun _ => rfl) fun _ => rfl)
    simp at g
    omega
theorem cRM (h : Mh) (ss : List SesD) (hok : okM h ss = true) : CT Tryz.prog 27 [.agg (macL 0 h ss)] (B (mmay h ss)) := by
  obtain ⟨h1, h2, h3⟩ := okM_spec hok
  obtain ⟨e, hw, hl⟩ := okZ_spec h2
  have := cRMt h ss (toZ h.tr) h1 hw (by rw [toZ_len]; exact hl) h3
  have eh : h.on (toZ h.tr) = h := by unfold Mh.on; rw [← e]
  rwa [eh] at this
def sRMm : Spec := fun ds Q => match ds with
  | [d] => macA d fun h ss => cond (okM h ss) (Q (B (mmay h ss))) False
  | _ => False
theorem oRMm : SpecOK Tryz.prog 27 sRMm := o_al Tryz.func27 (by kernel_rfl) rfl fun ds Q h => by
  unfold sRMm at h; split at h
  · obtain ⟨m, ss, h, r⟩ := macA_spec h
    obtain ⟨h1, h2⟩ := cond_P h
    exact ⟨_, _, .cons r .nil, cRM m ss h1, rfl, rfl, h2⟩
  · exact h.elim
end

section
set_option maxHeartbeats 2000000
open Go Go.Proofs
set_option linter.unusedSimpArgs false
set_option linter.unusedVariables false
set_option maxRecDepth 100000
theorem smR_f4 {R : List (List D)} (h : smR 4398046510977 R = true) : allV R = true ∧ decide (R.length * 32 ≤ 140737488355328) = true ∧ decide (R.length ≤ 9223372036854775807) = true ∧ (R.all fun r => r.all D.keeps) = true := by
  obtain ⟨a, b, c⟩ := smR_spec h
  exact ⟨a, decide_eq_true (by omega), decide_eq_true (by omega), c⟩
theorem smR_f3 {R : List (List D)} (h : smR 5864062014635 R = true) : allV R = true ∧ decide (R.length * 24 ≤ 140737488355328) = true ∧ decide (R.length ≤ 9223372036854775807) = true ∧ (R.all fun r => r.all D.keeps) = true := by
  obtain ⟨a, b, c⟩ := smR_spec h
  exact ⟨a, decide_eq_true (by omega), decide_eq_true (by omega), c⟩
theorem eRSeC (s : SesD) (K : DV → Prop) : (ask Tryz.prog [] Tryz.f98 [.agg (sesL 0 s)] K) = (bif allV s.pg then bif true && (decide ((0 + List.length s.pg) * 32 ≤ 140737488355328) && decide (0 + List.length s.pg ≤ 9223372036854775807)) then bif allV s.rd then bif true && (decide ((0 + List.length s.rd) * 24 ≤ 140737488355328) && decide (0 + List.length s.rd ≤ 9223372036854775807)) then bif allV s.wt then bif true && (decide ((0 + List.length s.wt) * 24 ≤ 140737488355328) && decide (0 + List.length s.wt ≤ 9223372036854775807)) then bif decide (0 + List.length s.pg ≤ List.length ([] ++ s.pg)) && List.all ([] ++ s.pg) fun r => List.all r D.keeps then bif decide (0 + List.length s.rd ≤ List.length ([] ++ s.rd)) && List.all ([] ++ s.rd) fun r => List.all r D.keeps then bif decide (0 + List.length s.wt ≤ List.length ([] ++ s.wt)) && List.all ([] ++ s.wt) fun r => List.all r D.keeps then K (DV.agg [D.v (Value.int IntKind.i64 s.id), D.v (Value.int IntKind.i64 s.lb), D.v (Value.int IntKind.i64 s.cl), D.s (1) (4) (List.take (0 + List.length s.pg) ([] ++ s.pg)) (List.take (0 + List.length s.pg - (0 + List.length s.pg)) (List.drop (0 + List.length s.pg) ([] ++ s.pg))), D.v (Value.int IntKind.i64 s.st), D.v (Value.int IntKind.i64 s.pc), D.v (Value.int IntKind.i64 s.r0), D.v (Value.int IntKind.i64 s.r1), D.v (Value.int IntKind.i64 s.r2), D.v (Value.int IntKind.i64 s.r3), D.s (1) (3) (List.take (0 + List.length s.rd) ([] ++ s.rd)) (List.take (0 + List.length s.rd - (0 + List.length s.rd)) (List.drop (0 + List.length s.rd) ([] ++ s.rd))), D.s (1) (3) (List.take (0 + List.length s.wt) ([] ++ s.wt)) (List.take (0 + List.length s.wt - (0 + List.length s.wt)) (List.drop (0 + List.length s.wt) ([] ++ s.wt))), D.v (Value.int IntKind.i64 s.at'), D.v (Value.int IntKind.i64 s.sp), D.v (Value.int IntKind.i64 s.tr), D.v (Value.int IntKind.i64 s.rs), D.v (Value.int IntKind.i64 s.to)]) else False else False else False else False else False else False else False else False else False) := by kernel_rfl
theorem cRSeC (s : SesD) (hs : smS s = true) : CT Tryz.prog 98 [.agg (sesL 0 s)] (.agg (sesL 1 s)) := by
  obtain ⟨h1, h2, h3⟩ := smS_spec hs
  obtain ⟨a1, a2, a3, a4⟩ := smR_f4 h1
  obtain ⟨b1, b2, b3, b4⟩ := smR_f3 h2
  obtain ⟨c1, c2, c3, c4⟩ := smR_f3 h3
  refine ct_s .nil mixed Tryz.func98 rfl rfl rfl ?_
  rw [eRSeC]
  refine ⟨?_⟩
  simp only [a1, a2, a3, a4, b1, b2, b3, b4, c1, c2, c3, c4, Nat.zero_add, List.nil_append, List.append_nil, Nat.le_refl, decide_true, Bool.and_self, Bool.true_and, cond_true, takeAll, Nat.add_zero, Nat.sub_self, List.take_zero]
  rfl
theorem oRSeC : SpecOK Tryz.prog 98 sSesC := o_al Tryz.func98 (by kernel_rfl) rfl fun ds Q h => by
  unfold sSesC at h; split at h
  · obtain ⟨s, h, r⟩ := sesA_spec h
    obtain ⟨h1, h2⟩ := cond_P h
    exact ⟨_, _, .cons r .nil, cRSeC s h1, ownL_ses h1, rfl, h2⟩
  · exact h.elim
theorem eLSeC (s : SesD) (K : DV → Prop) : (ask Tryz.prog [] Tryz.f47 [.agg (sesL 0 s)] K) = (bif allV s.pg then bif true && (decide ((0 + List.length s.pg) * 32 ≤ 140737488355328) && decide (0 + List.length s.pg ≤ 9223372036854775807)) then bif allV s.rd then bif true && (decide ((0 + List.length s.rd) * 24 ≤ 140737488355328) && decide (0 + List.length s.rd ≤ 9223372036854775807)) then bif allV s.wt then bif true && (decide ((0 + List.length s.wt) * 24 ≤ 140737488355328) && decide (0 + List.length s.wt ≤ 9223372036854775807)) then bif decide (0 + List.length s.pg ≤ List.length ([] ++ s.pg)) && List.all ([] ++ s.pg) fun r => List.all r D.keeps then bif decide (0 + List.length s.rd ≤ List.length ([] ++ s.rd)) && List.all ([] ++ s.rd) fun r => List.all r D.keeps then bif decide (0 + List.length s.wt ≤ List.length ([] ++ s.wt)) && List.all ([] ++ s.wt) fun r => List.all r D.keeps then K (DV.agg [D.v (Value.int IntKind.i64 s.id), D.v (Value.int IntKind.i64 s.lb), D.v (Value.int IntKind.i64 s.cl), D.s (1) (4) (List.take (0 + List.length s.pg) ([] ++ s.pg)) (List.take (0 + List.length s.pg - (0 + List.length s.pg)) (List.drop (0 + List.length s.pg) ([] ++ s.pg))), D.v (Value.int IntKind.i64 s.st), D.v (Value.int IntKind.i64 s.pc), D.v (Value.int IntKind.i64 s.r0), D.v (Value.int IntKind.i64 s.r1), D.v (Value.int IntKind.i64 s.r2), D.v (Value.int IntKind.i64 s.r3), D.s (1) (3) (List.take (0 + List.length s.rd) ([] ++ s.rd)) (List.take (0 + List.length s.rd - (0 + List.length s.rd)) (List.drop (0 + List.length s.rd) ([] ++ s.rd))), D.s (1) (3) (List.take (0 + List.length s.wt) ([] ++ s.wt)) (List.take (0 + List.length s.wt - (0 + List.length s.wt)) (List.drop (0 + List.length s.wt) ([] ++ s.wt))), D.v (Value.int IntKind.i64 s.at'), D.v (Value.int IntKind.i64 s.sp), D.v (Value.int IntKind.i64 s.tr), D.v (Value.int IntKind.i64 s.rs), D.v (Value.int IntKind.i64 s.to)]) else False else False else False else False else False else False else False else False else False) := by kernel_rfl
theorem cLSeC (s : SesD) (hs : smS s = true) : CT Tryz.prog 47 [.agg (sesL 0 s)] (.agg (sesL 1 s)) := by
  obtain ⟨h1, h2, h3⟩ := smS_spec hs
  obtain ⟨a1, a2, a3, a4⟩ := smR_f4 h1
  obtain ⟨b1, b2, b3, b4⟩ := smR_f3 h2
  obtain ⟨c1, c2, c3, c4⟩ := smR_f3 h3
  refine ct_s .nil mixed Tryz.func47 rfl rfl rfl ?_
  rw [eLSeC]
  refine ⟨?_⟩
  simp only [a1, a2, a3, a4, b1, b2, b3, b4, c1, c2, c3, c4, Nat.zero_add, List.nil_append, List.append_nil, Nat.le_refl, decide_true, Bool.and_self, Bool.true_and, cond_true, takeAll, Nat.add_zero, Nat.sub_self, List.take_zero]
  rfl
theorem oLSeC : SpecOK Tryz.prog 47 sSesC := o_al Tryz.func47 (by kernel_rfl) rfl fun ds Q h => by
  unfold sSesC at h; split at h
  · obtain ⟨s, h, r⟩ := sesA_spec h
    obtain ⟨h1, h2⟩ := cond_P h
    exact ⟨_, _, .cons r .nil, cLSeC s h1, ownL_ses h1, rfl, h2⟩
  · exact h.elim
theorem eRCop0 (h : Mh) (K : DV → Prop) : (askH Tryz.prog (hkM [(97, sACopy), (98, sSesC)] [] []) Tryz.f58 [.agg (macL 0 h [])] K) = (bif okC4 h.w0 h.w1 h.w2 h.w3 then bif allV h.tr then bif true && (decide ((0 + List.length h.tr) * 32 ≤ 140737488355328) && decide (0 + List.length h.tr ≤ 9223372036854775807)) then bif decide (List.length h.w0 ≤ List.length (h.w0 ++ [])) && List.all (h.w0 ++ []) fun r => List.all r D.keeps then bif decide (List.length h.w1 ≤ List.length (h.w1 ++ [])) && List.all (h.w1 ++ []) fun r => List.all r D.keeps then bif decide (List.length h.w2 ≤ List.length (h.w2 ++ [])) && List.all (h.w2 ++ []) fun r => List.all r D.keeps then bif decide (List.length h.w3 ≤ List.length (h.w3 ++ [])) && List.all (h.w3 ++ []) fun r => List.all r D.keeps then bif decide (0 + List.length h.tr ≤ List.length ([] ++ h.tr)) && List.all ([] ++ h.tr) fun r => List.all r D.keeps then K (DV.agg [D.s (1) (3) (List.take (List.length h.w0) (h.w0 ++ [])) (List.take (List.length h.w0 + 0 - List.length h.w0) (List.drop (List.length h.w0) (h.w0 ++ []))), D.s (1) (3) (List.take (List.length h.w1) (h.w1 ++ [])) (List.take (List.length h.w1 + 0 - List.length h.w1) (List.drop (List.length h.w1) (h.w1 ++ []))), D.s (1) (3) (List.take (List.length h.w2) (h.w2 ++ [])) (List.take (List.length h.w2 + 0 - List.length h.w2) (List.drop (List.length h.w2) (h.w2 ++ []))), D.s (1) (3) (List.take (List.length h.w3) (h.w3 ++ [])) (List.take (List.length h.w3 + 0 - List.length h.w3) (List.drop (List.length h.w3) (h.w3 ++ []))), D.v (Value.int IntKind.i64 h.c0), D.v (Value.int IntKind.i64 h.c1), D.v (Value.int IntKind.i64 h.c2), D.v (Value.int IntKind.i64 h.c3), D.v (Value.int IntKind.i64 h.ce), D.v (Value.slice none (0) (0)), D.s (1) (4) (List.take (0 + List.length h.tr) ([] ++ h.tr)) (List.take (0 + List.length h.tr - (0 + List.length h.tr)) (List.drop (0 + List.length h.tr) ([] ++ h.tr)))]) else False else False else False else False else False else False else False else False) := by kernel_rfl
theorem eRCop1 (h : Mh) (s0 : SesD) (K : DV → Prop) : (askH Tryz.prog (hkM [(97, sACopy), (98, sSesC)] [] []) Tryz.f58 [.agg (macL 0 h [s0])] K) = (bif okC4 h.w0 h.w1 h.w2 h.w3 then bif smS s0 then bif allV h.tr then bif true && (decide ((0 + List.length h.tr) * 32 ≤ 140737488355328) && decide (0 + List.length h.tr ≤ 9223372036854775807)) then bif decide (List.length h.w0 ≤ List.length (h.w0 ++ [])) && List.all (h.w0 ++ []) fun r => List.all r D.keeps then bif decide (List.length h.w1 ≤ List.length (h.w1 ++ [])) && List.all (h.w1 ++ []) fun r => List.all r D.keeps then bif decide (List.length h.w2 ≤ List.length (h.w2 ++ [])) && List.all (h.w2 ++ []) fun r => List.all r D.keeps then bif decide (List.length h.w3 ≤ List.length (h.w3 ++ [])) && List.all (h.w3 ++ []) fun r => List.all r D.keeps then bif decide (List.length s0.pg ≤ List.length (s0.pg ++ [])) && List.all (s0.pg ++ []) fun r => List.all r D.keeps then bif decide (List.length s0.rd ≤ List.length (s0.rd ++ [])) && List.all (s0.rd ++ []) fun r => List.all r D.keeps then bif decide (List.length s0.wt ≤ List.length (s0.wt ++ [])) && List.all (s0.wt ++ []) fun r => List.all r D.keeps then bif decide (0 + List.length h.tr ≤ List.length ([] ++ h.tr)) && List.all ([] ++ h.tr) fun r => List.all r D.keeps then K (DV.agg [D.s (1) (3) (List.take (List.length h.w0) (h.w0 ++ [])) (List.take (List.length h.w0 + 0 - List.length h.w0) (List.drop (List.length h.w0) (h.w0 ++ []))), D.s (1) (3) (List.take (List.length h.w1) (h.w1 ++ [])) (List.take (List.length h.w1 + 0 - List.length h.w1) (List.drop (List.length h.w1) (h.w1 ++ []))), D.s (1) (3) (List.take (List.length h.w2) (h.w2 ++ [])) (List.take (List.length h.w2 + 0 - List.length h.w2) (List.drop (List.length h.w2) (h.w2 ++ []))), D.s (1) (3) (List.take (List.length h.w3) (h.w3 ++ [])) (List.take (List.length h.w3 + 0 - List.length h.w3) (List.drop (List.length h.w3) (h.w3 ++ []))), D.v (Value.int IntKind.i64 h.c0), D.v (Value.int IntKind.i64 h.c1), D.v (Value.int IntKind.i64 h.c2), D.v (Value.int IntKind.i64 h.c3), D.v (Value.int IntKind.i64 h.ce), D.s (1) (17) [[D.v (Value.int IntKind.i64 s0.id), D.v (Value.int IntKind.i64 s0.lb), D.v (Value.int IntKind.i64 s0.cl), D.s (1) (4) (List.take (List.length s0.pg) (s0.pg ++ [])) (List.take (List.length s0.pg + 0 - List.length s0.pg) (List.drop (List.length s0.pg) (s0.pg ++ []))), D.v (Value.int IntKind.i64 s0.st), D.v (Value.int IntKind.i64 s0.pc), D.v (Value.int IntKind.i64 s0.r0), D.v (Value.int IntKind.i64 s0.r1), D.v (Value.int IntKind.i64 s0.r2), D.v (Value.int IntKind.i64 s0.r3), D.s (1) (3) (List.take (List.length s0.rd) (s0.rd ++ [])) (List.take (List.length s0.rd + 0 - List.length s0.rd) (List.drop (List.length s0.rd) (s0.rd ++ []))), D.s (1) (3) (List.take (List.length s0.wt) (s0.wt ++ [])) (List.take (List.length s0.wt + 0 - List.length s0.wt) (List.drop (List.length s0.wt) (s0.wt ++ []))), D.v (Value.int IntKind.i64 s0.at'), D.v (Value.int IntKind.i64 s0.sp), D.v (Value.int IntKind.i64 s0.tr), D.v (Value.int IntKind.i64 s0.rs), D.v (Value.int IntKind.i64 s0.to)]] [], D.s (1) (4) (List.take (0 + List.length h.tr) ([] ++ h.tr)) (List.take (0 + List.length h.tr - (0 + List.length h.tr)) (List.drop (0 + List.length h.tr) ([] ++ h.tr)))]) else False else False else False else False else False else False else False else False else False else False else False else False) := by kernel_rfl
theorem eRCop2 (h : Mh) (s0 s1 : SesD) (K : DV → Prop) : (askH Tryz.prog (hkM [(97, sACopy), (98, sSesC)] [] []) Tryz.f58 [.agg (macL 0 h [s0, s1])] K) = (bif okC4 h.w0 h.w1 h.w2 h.w3 then bif smS s0 then bif smS s1 then bif allV h.tr then bif true && (decide ((0 + List.length h.tr) * 32 ≤ 140737488355328) && decide (0 + List.length h.tr ≤ 9223372036854775807)) then bif decide (List.length h.w0 ≤ List.length (h.w0 ++ [])) && List.all (h.w0 ++ []) fun r => List.all r D.keeps then bif decide (List.length h.w1 ≤ List.length (h.w1 ++ [])) && List.all (h.w1 ++ []) fun r => List.all r D.keeps then bif decide (List.length h.w2 ≤ List.length (h.w2 ++ [])) && List.all (h.w2 ++ []) fun r => List.all r D.keeps then bif decide (List.length h.w3 ≤ List.length (h.w3 ++ [])) && List.all (h.w3 ++ []) fun r => List.all r D.keeps then bif decide (List.length s0.pg ≤ List.length (s0.pg ++ [])) && List.all (s0.pg ++ []) fun r => List.all r D.keeps then bif decide (List.length s0.rd ≤ List.length (s0.rd ++ [])) && List.all (s0.rd ++ []) fun r => List.all r D.keeps then bif decide (List.length s0.wt ≤ List.length (s0.wt ++ [])) && List.all (s0.wt ++ []) fun r => List.all r D.keeps then bif decide (List.length s1.pg ≤ List.length (s1.pg ++ [])) && List.all (s1.pg ++ []) fun r => List.all r D.keeps then bif decide (List.length s1.rd ≤ List.length (s1.rd ++ [])) && List.all (s1.rd ++ []) fun r => List.all r D.keeps then bif decide (List.length s1.wt ≤ List.length (s1.wt ++ [])) && List.all (s1.wt ++ []) fun r => List.all r D.keeps then bif decide (0 + List.length h.tr ≤ List.length ([] ++ h.tr)) && List.all ([] ++ h.tr) fun r => List.all r D.keeps then K (DV.agg [D.s (1) (3) (List.take (List.length h.w0) (h.w0 ++ [])) (List.take (List.length h.w0 + 0 - List.length h.w0) (List.drop (List.length h.w0) (h.w0 ++ []))), D.s (1) (3) (List.take (List.length h.w1) (h.w1 ++ [])) (List.take (List.length h.w1 + 0 - List.length h.w1) (List.drop (List.length h.w1) (h.w1 ++ []))), D.s (1) (3) (List.take (List.length h.w2) (h.w2 ++ [])) (List.take (List.length h.w2 + 0 - List.length h.w2) (List.drop (List.length h.w2) (h.w2 ++ []))), D.s (1) (3) (List.take (List.length h.w3) (h.w3 ++ [])) (List.take (List.length h.w3 + 0 - List.length h.w3) (List.drop (List.length h.w3) (h.w3 ++ []))), D.v (Value.int IntKind.i64 h.c0), D.v (Value.int IntKind.i64 h.c1), D.v (Value.int IntKind.i64 h.c2), D.v (Value.int IntKind.i64 h.c3), D.v (Value.int IntKind.i64 h.ce), D.s (1) (17) [[D.v (Value.int IntKind.i64 s0.id), D.v (Value.int IntKind.i64 s0.lb), D.v (Value.int IntKind.i64 s0.cl), D.s (1) (4) (List.take (List.length s0.pg) (s0.pg ++ [])) (List.take (List.length s0.pg + 0 - List.length s0.pg) (List.drop (List.length s0.pg) (s0.pg ++ []))), D.v (Value.int IntKind.i64 s0.st), D.v (Value.int IntKind.i64 s0.pc), D.v (Value.int IntKind.i64 s0.r0), D.v (Value.int IntKind.i64 s0.r1), D.v (Value.int IntKind.i64 s0.r2), D.v (Value.int IntKind.i64 s0.r3), D.s (1) (3) (List.take (List.length s0.rd) (s0.rd ++ [])) (List.take (List.length s0.rd + 0 - List.length s0.rd) (List.drop (List.length s0.rd) (s0.rd ++ []))), D.s (1) (3) (List.take (List.length s0.wt) (s0.wt ++ [])) (List.take (List.length s0.wt + 0 - List.length s0.wt) (List.drop (List.length s0.wt) (s0.wt ++ []))), D.v (Value.int IntKind.i64 s0.at'), D.v (Value.int IntKind.i64 s0.sp), D.v (Value.int IntKind.i64 s0.tr), D.v (Value.int IntKind.i64 s0.rs), D.v (Value.int IntKind.i64 s0.to)], [D.v (Value.int IntKind.i64 s1.id), D.v (Value.int IntKind.i64 s1.lb), D.v (Value.int IntKind.i64 s1.cl), D.s (1) (4) (List.take (List.length s1.pg) (s1.pg ++ [])) (List.take (List.length s1.pg + 0 - List.length s1.pg) (List.drop (List.length s1.pg) (s1.pg ++ []))), D.v (Value.int IntKind.i64 s1.st), D.v (Value.int IntKind.i64 s1.pc), D.v (Value.int IntKind.i64 s1.r0), D.v (Value.int IntKind.i64 s1.r1), D.v (Value.int IntKind.i64 s1.r2), D.v (Value.int IntKind.i64 s1.r3), D.s (1) (3) (List.take (List.length s1.rd) (s1.rd ++ [])) (List.take (List.length s1.rd + 0 - List.length s1.rd) (List.drop (List.length s1.rd) (s1.rd ++ []))), D.s (1) (3) (List.take (List.length s1.wt) (s1.wt ++ [])) (List.take (List.length s1.wt + 0 - List.length s1.wt) (List.drop (List.length s1.wt) (s1.wt ++ []))), D.v (Value.int IntKind.i64 s1.at'), D.v (Value.int IntKind.i64 s1.sp), D.v (Value.int IntKind.i64 s1.tr), D.v (Value.int IntKind.i64 s1.rs), D.v (Value.int IntKind.i64 s1.to)]] [], D.s (1) (4) (List.take (0 + List.length h.tr) ([] ++ h.tr)) (List.take (0 + List.length h.tr - (0 + List.length h.tr)) (List.drop (0 + List.length h.tr) ([] ++ h.tr)))]) else False else False else False else False else False else False else False else False else False else False else False else False else False else False else False else False) := by kernel_rfl
theorem eRCop3 (h : Mh) (s0 s1 s2 : SesD) (K : DV → Prop) : (askH Tryz.prog (hkM [(97, sACopy), (98, sSesC)] [] []) Tryz.f58 [.agg (macL 0 h [s0, s1, s2])] K) = (bif okC4 h.w0 h.w1 h.w2 h.w3 then bif smS s0 then bif smS s1 then bif smS s2 then bif allV h.tr then bif true && (decide ((0 + List.length h.tr) * 32 ≤ 140737488355328) && decide (0 + List.length h.tr ≤ 9223372036854775807)) then bif decide (List.length h.w0 ≤ List.length (h.w0 ++ [])) && List.all (h.w0 ++ []) fun r => List.all r D.keeps then bif decide (List.length h.w1 ≤ List.length (h.w1 ++ [])) && List.all (h.w1 ++ []) fun r => List.all r D.keeps then bif decide (List.length h.w2 ≤ List.length (h.w2 ++ [])) && List.all (h.w2 ++ []) fun r => List.all r D.keeps then bif decide (List.length h.w3 ≤ List.length (h.w3 ++ [])) && List.all (h.w3 ++ []) fun r => List.all r D.keeps then bif decide (List.length s0.pg ≤ List.length (s0.pg ++ [])) && List.all (s0.pg ++ []) fun r => List.all r D.keeps then bif decide (List.length s0.rd ≤ List.length (s0.rd ++ [])) && List.all (s0.rd ++ []) fun r => List.all r D.keeps then bif decide (List.length s0.wt ≤ List.length (s0.wt ++ [])) && List.all (s0.wt ++ []) fun r => List.all r D.keeps then bif decide (List.length s1.pg ≤ List.length (s1.pg ++ [])) && List.all (s1.pg ++ []) fun r => List.all r D.keeps then bif decide (List.length s1.rd ≤ List.length (s1.rd ++ [])) && List.all (s1.rd ++ []) fun r => List.all r D.keeps then bif decide (List.length s1.wt ≤ List.length (s1.wt ++ [])) && List.all (s1.wt ++ []) fun r => List.all r D.keeps then bif decide (List.length s2.pg ≤ List.length (s2.pg ++ [])) && List.all (s2.pg ++ []) fun r => List.all r D.keeps then bif decide (List.length s2.rd ≤ List.length (s2.rd ++ [])) && List.all (s2.rd ++ []) fun r => List.all r D.keeps then bif decide (List.length s2.wt ≤ List.length (s2.wt ++ [])) && List.all (s2.wt ++ []) fun r => List.all r D.keeps then bif decide (0 + List.length h.tr ≤ List.length ([] ++ h.tr)) && List.all ([] ++ h.tr) fun r => List.all r D.keeps then K (DV.agg [D.s (1) (3) (List.take (List.length h.w0) (h.w0 ++ [])) (List.take (List.length h.w0 + 0 - List.length h.w0) (List.drop (List.length h.w0) (h.w0 ++ []))), D.s (1) (3) (List.take (List.length h.w1) (h.w1 ++ [])) (List.take (List.length h.w1 + 0 - List.length h.w1) (List.drop (List.length h.w1) (h.w1 ++ []))), D.s (1) (3) (List.take (List.length h.w2) (h.w2 ++ [])) (List.take (List.length h.w2 + 0 - List.length h.w2) (List.drop (List.length h.w2) (h.w2 ++ []))), D.s (1) (3) (List.take (List.length h.w3) (h.w3 ++ [])) (List.take (List.length h.w3 + 0 - List.length h.w3) (List.drop (List.length h.w3) (h.w3 ++ []))), D.v (Value.int IntKind.i64 h.c0), D.v (Value.int IntKind.i64 h.c1), D.v (Value.int IntKind.i64 h.c2), D.v (Value.int IntKind.i64 h.c3), D.v (Value.int IntKind.i64 h.ce), D.s (1) (17) [[D.v (Value.int IntKind.i64 s0.id), D.v (Value.int IntKind.i64 s0.lb), D.v (Value.int IntKind.i64 s0.cl), D.s (1) (4) (List.take (List.length s0.pg) (s0.pg ++ [])) (List.take (List.length s0.pg + 0 - List.length s0.pg) (List.drop (List.length s0.pg) (s0.pg ++ []))), D.v (Value.int IntKind.i64 s0.st), D.v (Value.int IntKind.i64 s0.pc), D.v (Value.int IntKind.i64 s0.r0), D.v (Value.int IntKind.i64 s0.r1), D.v (Value.int IntKind.i64 s0.r2), D.v (Value.int IntKind.i64 s0.r3), D.s (1) (3) (List.take (List.length s0.rd) (s0.rd ++ [])) (List.take (List.length s0.rd + 0 - List.length s0.rd) (List.drop (List.length s0.rd) (s0.rd ++ []))), D.s (1) (3) (List.take (List.length s0.wt) (s0.wt ++ [])) (List.take (List.length s0.wt + 0 - List.length s0.wt) (List.drop (List.length s0.wt) (s0.wt ++ []))), D.v (Value.int IntKind.i64 s0.at'), D.v (Value.int IntKind.i64 s0.sp), D.v (Value.int IntKind.i64 s0.tr), D.v (Value.int IntKind.i64 s0.rs), D.v (Value.int IntKind.i64 s0.to)], [D.v (Value.int IntKind.i64 s1.id), D.v (Value.int IntKind.i64 s1.lb), D.v (Value.int IntKind.i64 s1.cl), D.s (1) (4) (List.take (List.length s1.pg) (s1.pg ++ [])) (List.take (List.length s1.pg + 0 - List.length s1.pg) (List.drop (List.length s1.pg) (s1.pg ++ []))), D.v (Value.int IntKind.i64 s1.st), D.v (Value.int IntKind.i64 s1.pc), D.v (Value.int IntKind.i64 s1.r0), D.v (Value.int IntKind.i64 s1.r1), D.v (Value.int IntKind.i64 s1.r2), D.v (Value.int IntKind.i64 s1.r3), D.s (1) (3) (List.take (List.length s1.rd) (s1.rd ++ [])) (List.take (List.length s1.rd + 0 - List.length s1.rd) (List.drop (List.length s1.rd) (s1.rd ++ []))), D.s (1) (3) (List.take (List.length s1.wt) (s1.wt ++ [])) (List.take (List.length s1.wt + 0 - List.length s1.wt) (List.drop (List.length s1.wt) (s1.wt ++ []))), D.v (Value.int IntKind.i64 s1.at'), D.v (Value.int IntKind.i64 s1.sp), D.v (Value.int IntKind.i64 s1.tr), D.v (Value.int IntKind.i64 s1.rs), D.v (Value.int IntKind.i64 s1.to)], [D.v (Value.int IntKind.i64 s2.id), D.v (Value.int IntKind.i64 s2.lb), D.v (Value.int IntKind.i64 s2.cl), D.s (1) (4) (List.take (List.length s2.pg) (s2.pg ++ [])) (List.take (List.length s2.pg + 0 - List.length s2.pg) (List.drop (List.length s2.pg) (s2.pg ++ []))), D.v (Value.int IntKind.i64 s2.st), D.v (Value.int IntKind.i64 s2.pc), D.v (Value.int IntKind.i64 s2.r0), D.v (Value.int IntKind.i64 s2.r1), D.v (Value.int IntKind.i64 s2.r2), D.v (Value.int IntKind.i64 s2.r3), D.s (1) (3) (List.take (List.length s2.rd) (s2.rd ++ [])) (List.take (List.length s2.rd + 0 - List.length s2.rd) (List.drop (List.length s2.rd) (s2.rd ++ []))), D.s (1) (3) (List.take (List.length s2.wt) (s2.wt ++ [])) (List.take (List.length s2.wt + 0 - List.length s2.wt) (List.drop (List.length s2.wt) (s2.wt ++ []))), D.v (Value.int IntKind.i64 s2.at'), D.v (Value.int IntKind.i64 s2.sp), D.v (Value.int IntKind.i64 s2.tr), D.v (Value.int IntKind.i64 s2.rs), D.v (Value.int IntKind.i64 s2.to)]] [], D.s (1) (4) (List.take (0 + List.length h.tr) ([] ++ h.tr)) (List.take (0 + List.length h.tr - (0 + List.length h.tr)) (List.drop (0 + List.length h.tr) ([] ++ h.tr)))]) else False else False else False else False else False else False else False else False else False else False else False else False else False else False else False else False else False else False else False else False) := by kernel_rfl
theorem eRCop4 (h : Mh) (s0 s1 s2 s3 : SesD) (K : DV → Prop) : (askH Tryz.prog (hkM [(97, sACopy), (98, sSesC)] [] []) Tryz.f58 [.agg (macL 0 h [s0, s1, s2, s3])] K) = (bif okC4 h.w0 h.w1 h.w2 h.w3 then bif smS s0 then bif smS s1 then bif smS s2 then bif smS s3 then bif allV h.tr then bif true && (decide ((0 + List.length h.tr) * 32 ≤ 140737488355328) && decide (0 + List.length h.tr ≤ 9223372036854775807)) then bif decide (List.length h.w0 ≤ List.length (h.w0 ++ [])) && List.all (h.w0 ++ []) fun r => List.all r D.keeps then bif decide (List.length h.w1 ≤ List.length (h.w1 ++ [])) && List.all (h.w1 ++ []) fun r => List.all r D.keeps then bif decide (List.length h.w2 ≤ List.length (h.w2 ++ [])) && List.all (h.w2 ++ []) fun r => List.all r D.keeps then bif decide (List.length h.w3 ≤ List.length (h.w3 ++ [])) && List.all (h.w3 ++ []) fun r => List.all r D.keeps then bif decide (List.length s0.pg ≤ List.length (s0.pg ++ [])) && List.all (s0.pg ++ []) fun r => List.all r D.keeps then bif decide (List.length s0.rd ≤ List.length (s0.rd ++ [])) && List.all (s0.rd ++ []) fun r => List.all r D.keeps then bif decide (List.length s0.wt ≤ List.length (s0.wt ++ [])) && List.all (s0.wt ++ []) fun r => List.all r D.keeps then bif decide (List.length s1.pg ≤ List.length (s1.pg ++ [])) && List.all (s1.pg ++ []) fun r => List.all r D.keeps then bif decide (List.length s1.rd ≤ List.length (s1.rd ++ [])) && List.all (s1.rd ++ []) fun r => List.all r D.keeps then bif decide (List.length s1.wt ≤ List.length (s1.wt ++ [])) && List.all (s1.wt ++ []) fun r => List.all r D.keeps then bif decide (List.length s2.pg ≤ List.length (s2.pg ++ [])) && List.all (s2.pg ++ []) fun r => List.all r D.keeps then bif decide (List.length s2.rd ≤ List.length (s2.rd ++ [])) && List.all (s2.rd ++ []) fun r => List.all r D.keeps then bif decide (List.length s2.wt ≤ List.length (s2.wt ++ [])) && List.all (s2.wt ++ []) fun r => List.all r D.keeps then bif decide (List.length s3.pg ≤ List.length (s3.pg ++ [])) && List.all (s3.pg ++ []) fun r => List.all r D.keeps then bif decide (List.length s3.rd ≤ List.length (s3.rd ++ [])) && List.all (s3.rd ++ []) fun r => List.all r D.keeps then bif decide (List.length s3.wt ≤ List.length (s3.wt ++ [])) && List.all (s3.wt ++ []) fun r => List.all r D.keeps then bif decide (0 + List.length h.tr ≤ List.length ([] ++ h.tr)) && List.all ([] ++ h.tr) fun r => List.all r D.keeps then K (DV.agg [D.s (1) (3) (List.take (List.length h.w0) (h.w0 ++ [])) (List.take (List.length h.w0 + 0 - List.length h.w0) (List.drop (List.length h.w0) (h.w0 ++ []))), D.s (1) (3) (List.take (List.length h.w1) (h.w1 ++ [])) (List.take (List.length h.w1 + 0 - List.length h.w1) (List.drop (List.length h.w1) (h.w1 ++ []))), D.s (1) (3) (List.take (List.length h.w2) (h.w2 ++ [])) (List.take (List.length h.w2 + 0 - List.length h.w2) (List.drop (List.length h.w2) (h.w2 ++ []))), D.s (1) (3) (List.take (List.length h.w3) (h.w3 ++ [])) (List.take (List.length h.w3 + 0 - List.length h.w3) (List.drop (List.length h.w3) (h.w3 ++ []))), D.v (Value.int IntKind.i64 h.c0), D.v (Value.int IntKind.i64 h.c1), D.v (Value.int IntKind.i64 h.c2), D.v (Value.int IntKind.i64 h.c3), D.v (Value.int IntKind.i64 h.ce), D.s (1) (17) [[D.v (Value.int IntKind.i64 s0.id), D.v (Value.int IntKind.i64 s0.lb), D.v (Value.int IntKind.i64 s0.cl), D.s (1) (4) (List.take (List.length s0.pg) (s0.pg ++ [])) (List.take (List.length s0.pg + 0 - List.length s0.pg) (List.drop (List.length s0.pg) (s0.pg ++ []))), D.v (Value.int IntKind.i64 s0.st), D.v (Value.int IntKind.i64 s0.pc), D.v (Value.int IntKind.i64 s0.r0), D.v (Value.int IntKind.i64 s0.r1), D.v (Value.int IntKind.i64 s0.r2), D.v (Value.int IntKind.i64 s0.r3), D.s (1) (3) (List.take (List.length s0.rd) (s0.rd ++ [])) (List.take (List.length s0.rd + 0 - List.length s0.rd) (List.drop (List.length s0.rd) (s0.rd ++ []))), D.s (1) (3) (List.take (List.length s0.wt) (s0.wt ++ [])) (List.take (List.length s0.wt + 0 - List.length s0.wt) (List.drop (List.length s0.wt) (s0.wt ++ []))), D.v (Value.int IntKind.i64 s0.at'), D.v (Value.int IntKind.i64 s0.sp), D.v (Value.int IntKind.i64 s0.tr), D.v (Value.int IntKind.i64 s0.rs), D.v (Value.int IntKind.i64 s0.to)], [D.v (Value.int IntKind.i64 s1.id), D.v (Value.int IntKind.i64 s1.lb), D.v (Value.int IntKind.i64 s1.cl), D.s (1) (4) (List.take (List.length s1.pg) (s1.pg ++ [])) (List.take (List.length s1.pg + 0 - List.length s1.pg) (List.drop (List.length s1.pg) (s1.pg ++ []))), D.v (Value.int IntKind.i64 s1.st), D.v (Value.int IntKind.i64 s1.pc), D.v (Value.int IntKind.i64 s1.r0), D.v (Value.int IntKind.i64 s1.r1), D.v (Value.int IntKind.i64 s1.r2), D.v (Value.int IntKind.i64 s1.r3), D.s (1) (3) (List.take (List.length s1.rd) (s1.rd ++ [])) (List.take (List.length s1.rd + 0 - List.length s1.rd) (List.drop (List.length s1.rd) (s1.rd ++ []))), D.s (1) (3) (List.take (List.length s1.wt) (s1.wt ++ [])) (List.take (List.length s1.wt + 0 - List.length s1.wt) (List.drop (List.length s1.wt) (s1.wt ++ []))), D.v (Value.int IntKind.i64 s1.at'), D.v (Value.int IntKind.i64 s1.sp), D.v (Value.int IntKind.i64 s1.tr), D.v (Value.int IntKind.i64 s1.rs), D.v (Value.int IntKind.i64 s1.to)], [D.v (Value.int IntKind.i64 s2.id), D.v (Value.int IntKind.i64 s2.lb), D.v (Value.int IntKind.i64 s2.cl), D.s (1) (4) (List.take (List.length s2.pg) (s2.pg ++ [])) (List.take (List.length s2.pg + 0 - List.length s2.pg) (List.drop (List.length s2.pg) (s2.pg ++ []))), D.v (Value.int IntKind.i64 s2.st), D.v (Value.int IntKind.i64 s2.pc), D.v (Value.int IntKind.i64 s2.r0), D.v (Value.int IntKind.i64 s2.r1), D.v (Value.int IntKind.i64 s2.r2), D.v (Value.int IntKind.i64 s2.r3), D.s (1) (3) (List.take (List.length s2.rd) (s2.rd ++ [])) (List.take (List.length s2.rd + 0 - List.length s2.rd) (List.drop (List.length s2.rd) (s2.rd ++ []))), D.s (1) (3) (List.take (List.length s2.wt) (s2.wt ++ [])) (List.take (List.length s2.wt + 0 - List.length s2.wt) (List.drop (List.length s2.wt) (s2.wt ++ []))), D.v (Value.int IntKind.i64 s2.at'), D.v (Value.int IntKind.i64 s2.sp), D.v (Value.int IntKind.i64 s2.tr), D.v (Value.int IntKind.i64 s2.rs), D.v (Value.int IntKind.i64 s2.to)], [D.v (Value.int IntKind.i64 s3.id), D.v (Value.int IntKind.i64 s3.lb), D.v (Value.int IntKind.i64 s3.cl), D.s (1) (4) (List.take (List.length s3.pg) (s3.pg ++ [])) (List.take (List.length s3.pg + 0 - List.length s3.pg) (List.drop (List.length s3.pg) (s3.pg ++ []))), D.v (Value.int IntKind.i64 s3.st), D.v (Value.int IntKind.i64 s3.pc), D.v (Value.int IntKind.i64 s3.r0), D.v (Value.int IntKind.i64 s3.r1), D.v (Value.int IntKind.i64 s3.r2), D.v (Value.int IntKind.i64 s3.r3), D.s (1) (3) (List.take (List.length s3.rd) (s3.rd ++ [])) (List.take (List.length s3.rd + 0 - List.length s3.rd) (List.drop (List.length s3.rd) (s3.rd ++ []))), D.s (1) (3) (List.take (List.length s3.wt) (s3.wt ++ [])) (List.take (List.length s3.wt + 0 - List.length s3.wt) (List.drop (List.length s3.wt) (s3.wt ++ []))), D.v (Value.int IntKind.i64 s3.at'), D.v (Value.int IntKind.i64 s3.sp), D.v (Value.int IntKind.i64 s3.tr), D.v (Value.int IntKind.i64 s3.rs), D.v (Value.int IntKind.i64 s3.to)]] [], D.s (1) (4) (List.take (0 + List.length h.tr) ([] ++ h.tr)) (List.take (0 + List.length h.tr - (0 + List.length h.tr)) (List.drop (0 + List.length h.tr) ([] ++ h.tr)))]) else False else False else False else False else False else False else False else False else False else False else False else False else False else False else False else False else False else False else False else False else False else False else False else False) := by kernel_rfl
theorem cRCop (h : Mh) (ss : List SesD) (hl : ss.length ≤ 4) (hm : smM h ss = true) : CT Tryz.prog 58 [.agg (macL 0 h ss)] (.agg (macL 1 h ss)) := by
  have h4 := smM_C4 hm
  obtain ⟨⟨a0, a1, a2, a3⟩, a4, a5⟩ := smM_spec hm
  obtain ⟨_, _, b0⟩ := smR_spec a0
  obtain ⟨_, _, b1⟩ := smR_spec a1
  obtain ⟨_, _, b2⟩ := smR_spec a2
  obtain ⟨_, _, b3⟩ := smR_spec a3
  obtain ⟨t1, t2, t3, t4⟩ := smR_f4 a4
  rcases ss with _ | ⟨s0, _ | ⟨s1, _ | ⟨s2, _ | ⟨s3, _ | ⟨s4, l⟩⟩⟩⟩⟩
  · refine ct_mA (.cons oRCopy (.cons oRSeC .nil)) .nil .nil mixed Tryz.func58 rfl rfl rfl ?_
    rw [eRCop0]
    refine ⟨?_⟩
    simp only [h4, b0, b1, b2, b3, t1, t2, t3, t4, Nat.zero_add, List.nil_append, List.append_nil, Nat.le_refl, decide_true, Bool.and_self, Bool.true_and, cond_true, takeAll, Nat.add_zero, Nat.sub_self, List.take_zero]
    exact .aggO (.cons (.refl _) (.cons (.refl _) (.cons (.refl _) (.cons (.refl _) (.cons (.refl _) (.cons (.refl _) (.cons (.refl _) (.cons (.refl _) (.cons (.refl _) (.cons (.nil 17) (.cons (.refl _) .nil)))))))))))
  · have q0 := a5 s0 (by simp)
    obtain ⟨p0, r0, w0⟩ := smS_spec q0
    obtain ⟨_, _, x0⟩ := smR_spec p0
    obtain ⟨_, _, y0⟩ := smR_spec r0
    obtain ⟨_, _, z0⟩ := smR_spec w0
    refine ct_m (.cons oRCopy (.cons oRSeC .nil)) .nil .nil mixed Tryz.func58 rfl rfl rfl ?_
    rw [eRCop1]
    refine ⟨?_⟩
    simp only [h4, b0, b1, b2, b3, t1, t2, t3, t4, q0, x0, y0, z0, Nat.zero_add, List.nil_append, List.append_nil, Nat.le_refl, decide_true, Bool.and_self, Bool.true_and, cond_true, takeAll, Nat.add_zero, Nat.sub_self, List.take_zero]
    rfl
  · have q0 := a5 s0 (by simp)
    obtain ⟨p0, r0, w0⟩ := smS_spec q0
    obtain ⟨_, _, x0⟩ := smR_spec p0
    obtain ⟨_, _, y0⟩ := smR_spec r0
    obtain ⟨_, _, z0⟩ := smR_spec w0
    have q1 := a5 s1 (by simp)
    obtain ⟨p1, r1, w1⟩ := smS_spec q1
    obtain ⟨_, _, x1⟩ := smR_spec p1
    obtain ⟨_, _, y1⟩ := smR_spec r1
    obtain ⟨_, _, z1⟩ := smR_spec w1
    refine ct_m (.cons oRCopy (.cons oRSeC .nil)) .nil .nil mixed Tryz.func58 rfl rfl rfl ?_
    rw [eRCop2]
    refine ⟨?_⟩
    simp only [h4, b0, b1, b2, b3, t1, t2, t3, t4, q0, x0, y0, z0, q1, x1, y1, z1, Nat.zero_add, List.nil_append, List.append_nil, Nat.le_refl, decide_true, Bool.and_self, Bool.true_and, cond_true, takeAll, Nat.add_zero, Nat.sub_self, List.take_zero]
    rfl
  · have q0 := a5 s0 (by simp)
    obtain ⟨p0, r0, w0⟩ := smS_spec q0
    obtain ⟨_, _, x0⟩ := smR_spec p0
    obtain ⟨_, _, y0⟩ := smR_spec r0
    obtain ⟨_, _, z0⟩ := smR_spec w0
    have q1 := a5 s1 (by simp)
    obtain ⟨p1, r1, w1⟩ := smS_spec q1
    obtain ⟨_, _, x1⟩ := smR_spec p1
    obtain ⟨_, _, y1⟩ := smR_spec r1
    obtain ⟨_, _, z1⟩ := smR_spec w1
    have q2 := a5 s2 (by simp)
    obtain ⟨p2, r2, w2⟩ := smS_spec q2
    obtain ⟨_, _, x2⟩ := smR_spec p2
    obtain ⟨_, _, y2⟩ := smR_spec r2
    obtain ⟨_, _, z2⟩ := smR_spec w2
    refine ct_m (.cons oRCopy (.cons oRSeC .nil)) .nil .nil mixed Tryz.func58 rfl rfl rfl ?_
    rw [eRCop3]
    refine ⟨?_⟩
    simp only [h4, b0, b1, b2, b3, t1, t2, t3, t4, q0, x0, y0, z0, q1, x1, y1, z1, q2, x2, y2, z2, Nat.zero_add, List.nil_append, List.append_nil, Nat.le_refl, decide_true, Bool.and_self, Bool.true_and, cond_true, takeAll, Nat.add_zero, Nat.sub_self, List.take_zero]
    rfl
  · have q0 := a5 s0 (by simp)
    obtain ⟨p0, r0, w0⟩ := smS_spec q0
    obtain ⟨_, _, x0⟩ := smR_spec p0
    obtain ⟨_, _, y0⟩ := smR_spec r0
    obtain ⟨_, _, z0⟩ := smR_spec w0
    have q1 := a5 s1 (by simp)
    obtain ⟨p1, r1, w1⟩ := smS_spec q1
    obtain ⟨_, _, x1⟩ := smR_spec p1
    obtain ⟨_, _, y1⟩ := smR_spec r1
    obtain ⟨_, _, z1⟩ := smR_spec w1
    have q2 := a5 s2 (by simp)
    obtain ⟨p2, r2, w2⟩ := smS_spec q2
    obtain ⟨_, _, x2⟩ := smR_spec p2
    obtain ⟨_, _, y2⟩ := smR_spec r2
    obtain ⟨_, _, z2⟩ := smR_spec w2
    have q3 := a5 s3 (by simp)
    obtain ⟨p3, r3, w3⟩ := smS_spec q3
    obtain ⟨_, _, x3⟩ := smR_spec p3
    obtain ⟨_, _, y3⟩ := smR_spec r3
    obtain ⟨_, _, z3⟩ := smR_spec w3
    refine ct_m (.cons oRCopy (.cons oRSeC .nil)) .nil .nil mixed Tryz.func58 rfl rfl rfl ?_
    rw [eRCop4]
    refine ⟨?_⟩
    simp only [h4, b0, b1, b2, b3, t1, t2, t3, t4, q0, x0, y0, z0, q1, x1, y1, z1, q2, x2, y2, z2, q3, x3, y3, z3, Nat.zero_add, List.nil_append, List.append_nil, Nat.le_refl, decide_true, Bool.and_self, Bool.true_and, cond_true, takeAll, Nat.add_zero, Nat.sub_self, List.take_zero]
    rfl
  · simp at hl
theorem oRCop : SpecOK Tryz.prog 58 sCop := o_al Tryz.func58 (by kernel_rfl) rfl fun ds Q h => by
  unfold sCop at h; split at h
  · obtain ⟨m, ss, h, r⟩ := macA_spec h
    obtain ⟨h1, h2⟩ := cond_P h
    rw [Bool.and_eq_true] at h1
    exact ⟨_, _, .cons r .nil, cRCop m ss (Nat.le_of_ble_eq_true h1.1) h1.2, ownL_mac h1.2, rfl, h2⟩
  · exact h.elim
theorem eLCop0 (h : Mh) (K : DV → Prop) : (askH Tryz.prog (hkM [(46, sACopy), (47, sSesC)] [] []) Tryz.f19 [.agg (macL 0 h [])] K) = (bif okC4 h.w0 h.w1 h.w2 h.w3 then bif allV h.tr then bif true && (decide ((0 + List.length h.tr) * 32 ≤ 140737488355328) && decide (0 + List.length h.tr ≤ 9223372036854775807)) then bif decide (List.length h.w0 ≤ List.length (h.w0 ++ [])) && List.all (h.w0 ++ []) fun r => List.all r D.keeps then bif decide (List.length h.w1 ≤ List.length (h.w1 ++ [])) && List.all (h.w1 ++ []) fun r => List.all r D.keeps then bif decide (List.length h.w2 ≤ List.length (h.w2 ++ [])) && List.all (h.w2 ++ []) fun r => List.all r D.keeps then bif decide (List.length h.w3 ≤ List.length (h.w3 ++ [])) && List.all (h.w3 ++ []) fun r => List.all r D.keeps then bif decide (0 + List.length h.tr ≤ List.length ([] ++ h.tr)) && List.all ([] ++ h.tr) fun r => List.all r D.keeps then K (DV.agg [D.s (1) (3) (List.take (List.length h.w0) (h.w0 ++ [])) (List.take (List.length h.w0 + 0 - List.length h.w0) (List.drop (List.length h.w0) (h.w0 ++ []))), D.s (1) (3) (List.take (List.length h.w1) (h.w1 ++ [])) (List.take (List.length h.w1 + 0 - List.length h.w1) (List.drop (List.length h.w1) (h.w1 ++ []))), D.s (1) (3) (List.take (List.length h.w2) (h.w2 ++ [])) (List.take (List.length h.w2 + 0 - List.length h.w2) (List.drop (List.length h.w2) (h.w2 ++ []))), D.s (1) (3) (List.take (List.length h.w3) (h.w3 ++ [])) (List.take (List.length h.w3 + 0 - List.length h.w3) (List.drop (List.length h.w3) (h.w3 ++ []))), D.v (Value.int IntKind.i64 h.c0), D.v (Value.int IntKind.i64 h.c1), D.v (Value.int IntKind.i64 h.c2), D.v (Value.int IntKind.i64 h.c3), D.v (Value.int IntKind.i64 h.ce), D.v (Value.slice none (0) (0)), D.s (1) (4) (List.take (0 + List.length h.tr) ([] ++ h.tr)) (List.take (0 + List.length h.tr - (0 + List.length h.tr)) (List.drop (0 + List.length h.tr) ([] ++ h.tr)))]) else False else False else False else False else False else False else False else False) := by kernel_rfl
theorem eLCop1 (h : Mh) (s0 : SesD) (K : DV → Prop) : (askH Tryz.prog (hkM [(46, sACopy), (47, sSesC)] [] []) Tryz.f19 [.agg (macL 0 h [s0])] K) = (bif okC4 h.w0 h.w1 h.w2 h.w3 then bif smS s0 then bif allV h.tr then bif true && (decide ((0 + List.length h.tr) * 32 ≤ 140737488355328) && decide (0 + List.length h.tr ≤ 9223372036854775807)) then bif decide (List.length h.w0 ≤ List.length (h.w0 ++ [])) && List.all (h.w0 ++ []) fun r => List.all r D.keeps then bif decide (List.length h.w1 ≤ List.length (h.w1 ++ [])) && List.all (h.w1 ++ []) fun r => List.all r D.keeps then bif decide (List.length h.w2 ≤ List.length (h.w2 ++ [])) && List.all (h.w2 ++ []) fun r => List.all r D.keeps then bif decide (List.length h.w3 ≤ List.length (h.w3 ++ [])) && List.all (h.w3 ++ []) fun r => List.all r D.keeps then bif decide (List.length s0.pg ≤ List.length (s0.pg ++ [])) && List.all (s0.pg ++ []) fun r => List.all r D.keeps then bif decide (List.length s0.rd ≤ List.length (s0.rd ++ [])) && List.all (s0.rd ++ []) fun r => List.all r D.keeps then bif decide (List.length s0.wt ≤ List.length (s0.wt ++ [])) && List.all (s0.wt ++ []) fun r => List.all r D.keeps then bif decide (0 + List.length h.tr ≤ List.length ([] ++ h.tr)) && List.all ([] ++ h.tr) fun r => List.all r D.keeps then K (DV.agg [D.s (1) (3) (List.take (List.length h.w0) (h.w0 ++ [])) (List.take (List.length h.w0 + 0 - List.length h.w0) (List.drop (List.length h.w0) (h.w0 ++ []))), D.s (1) (3) (List.take (List.length h.w1) (h.w1 ++ [])) (List.take (List.length h.w1 + 0 - List.length h.w1) (List.drop (List.length h.w1) (h.w1 ++ []))), D.s (1) (3) (List.take (List.length h.w2) (h.w2 ++ [])) (List.take (List.length h.w2 + 0 - List.length h.w2) (List.drop (List.length h.w2) (h.w2 ++ []))), D.s (1) (3) (List.take (List.length h.w3) (h.w3 ++ [])) (List.take (List.length h.w3 + 0 - List.length h.w3) (List.drop (List.length h.w3) (h.w3 ++ []))), D.v (Value.int IntKind.i64 h.c0), D.v (Value.int IntKind.i64 h.c1), D.v (Value.int IntKind.i64 h.c2), D.v (Value.int IntKind.i64 h.c3), D.v (Value.int IntKind.i64 h.ce), D.s (1) (17) [[D.v (Value.int IntKind.i64 s0.id), D.v (Value.int IntKind.i64 s0.lb), D.v (Value.int IntKind.i64 s0.cl), D.s (1) (4) (List.take (List.length s0.pg) (s0.pg ++ [])) (List.take (List.length s0.pg + 0 - List.length s0.pg) (List.drop (List.length s0.pg) (s0.pg ++ []))), D.v (Value.int IntKind.i64 s0.st), D.v (Value.int IntKind.i64 s0.pc), D.v (Value.int IntKind.i64 s0.r0), D.v (Value.int IntKind.i64 s0.r1), D.v (Value.int IntKind.i64 s0.r2), D.v (Value.int IntKind.i64 s0.r3), D.s (1) (3) (List.take (List.length s0.rd) (s0.rd ++ [])) (List.take (List.length s0.rd + 0 - List.length s0.rd) (List.drop (List.length s0.rd) (s0.rd ++ []))), D.s (1) (3) (List.take (List.length s0.wt) (s0.wt ++ [])) (List.take (List.length s0.wt + 0 - List.length s0.wt) (List.drop (List.length s0.wt) (s0.wt ++ []))), D.v (Value.int IntKind.i64 s0.at'), D.v (Value.int IntKind.i64 s0.sp), D.v (Value.int IntKind.i64 s0.tr), D.v (Value.int IntKind.i64 s0.rs), D.v (Value.int IntKind.i64 s0.to)]] [], D.s (1) (4) (List.take (0 + List.length h.tr) ([] ++ h.tr)) (List.take (0 + List.length h.tr - (0 + List.length h.tr)) (List.drop (0 + List.length h.tr) ([] ++ h.tr)))]) else False else False else False else False else False else False else False else False else False else False else False else False) := by kernel_rfl
theorem eLCop2 (h : Mh) (s0 s1 : SesD) (K : DV → Prop) : (askH Tryz.prog (hkM [(46, sACopy), (47, sSesC)] [] []) Tryz.f19 [.agg (macL 0 h [s0, s1])] K) = (bif okC4 h.w0 h.w1 h.w2 h.w3 then bif smS s0 then bif smS s1 then bif allV h.tr then bif true && (decide ((0 + List.length h.tr) * 32 ≤ 140737488355328) && decide (0 + List.length h.tr ≤ 9223372036854775807)) then bif decide (List.length h.w0 ≤ List.length (h.w0 ++ [])) && List.all (h.w0 ++ []) fun r => List.all r D.keeps then bif decide (List.length h.w1 ≤ List.length (h.w1 ++ [])) && List.all (h.w1 ++ []) fun r => List.all r D.keeps then bif decide (List.length h.w2 ≤ List.length (h.w2 ++ [])) && List.all (h.w2 ++ []) fun r => List.all r D.keeps then bif decide (List.length h.w3 ≤ List.length (h.w3 ++ [])) && List.all (h.w3 ++ []) fun r => List.all r D.keeps then bif decide (List.length s0.pg ≤ List.length (s0.pg ++ [])) && List.all (s0.pg ++ []) fun r => List.all r D.keeps then bif decide (List.length s0.rd ≤ List.length (s0.rd ++ [])) && List.all (s0.rd ++ []) fun r => List.all r D.keeps then bif decide (List.length s0.wt ≤ List.length (s0.wt ++ [])) && List.all (s0.wt ++ []) fun r => List.all r D.keeps then bif decide (List.length s1.pg ≤ List.length (s1.pg ++ [])) && List.all (s1.pg ++ []) fun r => List.all r D.keeps then bif decide (List.length s1.rd ≤ List.length (s1.rd ++ [])) && List.all (s1.rd ++ []) fun r => List.all r D.keeps then bif decide (List.length s1.wt ≤ List.length (s1.wt ++ [])) && List.all (s1.wt ++ []) fun r => List.all r D.keeps then bif decide (0 + List.length h.tr ≤ List.length ([] ++ h.tr)) && List.all ([] ++ h.tr) fun r => List.all r D.keeps then K (DV.agg [D.s (1) (3) (List.take (List.length h.w0) (h.w0 ++ [])) (List.take (List.length h.w0 + 0 - List.length h.w0) (List.drop (List.length h.w0) (h.w0 ++ []))), D.s (1) (3) (List.take (List.length h.w1) (h.w1 ++ [])) (List.take (List.length h.w1 + 0 - List.length h.w1) (List.drop (List.length h.w1) (h.w1 ++ []))), D.s (1) (3) (List.take (List.length h.w2) (h.w2 ++ [])) (List.take (List.length h.w2 + 0 - List.length h.w2) (List.drop (List.length h.w2) (h.w2 ++ []))), D.s (1) (3) (List.take (List.length h.w3) (h.w3 ++ [])) (List.take (List.length h.w3 + 0 - List.length h.w3) (List.drop (List.length h.w3) (h.w3 ++ []))), D.v (Value.int IntKind.i64 h.c0), D.v (Value.int IntKind.i64 h.c1), D.v (Value.int IntKind.i64 h.c2), D.v (Value.int IntKind.i64 h.c3), D.v (Value.int IntKind.i64 h.ce), D.s (1) (17) [[D.v (Value.int IntKind.i64 s0.id), D.v (Value.int IntKind.i64 s0.lb), D.v (Value.int IntKind.i64 s0.cl), D.s (1) (4) (List.take (List.length s0.pg) (s0.pg ++ [])) (List.take (List.length s0.pg + 0 - List.length s0.pg) (List.drop (List.length s0.pg) (s0.pg ++ []))), D.v (Value.int IntKind.i64 s0.st), D.v (Value.int IntKind.i64 s0.pc), D.v (Value.int IntKind.i64 s0.r0), D.v (Value.int IntKind.i64 s0.r1), D.v (Value.int IntKind.i64 s0.r2), D.v (Value.int IntKind.i64 s0.r3), D.s (1) (3) (List.take (List.length s0.rd) (s0.rd ++ [])) (List.take (List.length s0.rd + 0 - List.length s0.rd) (List.drop (List.length s0.rd) (s0.rd ++ []))), D.s (1) (3) (List.take (List.length s0.wt) (s0.wt ++ [])) (List.take (List.length s0.wt + 0 - List.length s0.wt) (List.drop (List.length s0.wt) (s0.wt ++ []))), D.v (Value.int IntKind.i64 s0.at'), D.v (Value.int IntKind.i64 s0.sp), D.v (Value.int IntKind.i64 s0.tr), D.v (Value.int IntKind.i64 s0.rs), D.v (Value.int IntKind.i64 s0.to)], [D.v (Value.int IntKind.i64 s1.id), D.v (Value.int IntKind.i64 s1.lb), D.v (Value.int IntKind.i64 s1.cl), D.s (1) (4) (List.take (List.length s1.pg) (s1.pg ++ [])) (List.take (List.length s1.pg + 0 - List.length s1.pg) (List.drop (List.length s1.pg) (s1.pg ++ []))), D.v (Value.int IntKind.i64 s1.st), D.v (Value.int IntKind.i64 s1.pc), D.v (Value.int IntKind.i64 s1.r0), D.v (Value.int IntKind.i64 s1.r1), D.v (Value.int IntKind.i64 s1.r2), D.v (Value.int IntKind.i64 s1.r3), D.s (1) (3) (List.take (List.length s1.rd) (s1.rd ++ [])) (List.take (List.length s1.rd + 0 - List.length s1.rd) (List.drop (List.length s1.rd) (s1.rd ++ []))), D.s (1) (3) (List.take (List.length s1.wt) (s1.wt ++ [])) (List.take (List.length s1.wt + 0 - List.length s1.wt) (List.drop (List.length s1.wt) (s1.wt ++ []))), D.v (Value.int IntKind.i64 s1.at'), D.v (Value.int IntKind.i64 s1.sp), D.v (Value.int IntKind.i64 s1.tr), D.v (Value.int IntKind.i64 s1.rs), D.v (Value.int IntKind.i64 s1.to)]] [], D.s (1) (4) (List.take (0 + List.length h.tr) ([] ++ h.tr)) (List.take (0 + List.length h.tr - (0 + List.length h.tr)) (List.drop (0 + List.length h.tr) ([] ++ h.tr)))]) else False else False else False else False else False else False else False else False else False else False else False else False else False else False else False else False) := by kernel_rfl
theorem eLCop3 (h : Mh) (s0 s1 s2 : SesD) (K : DV → Prop) : (askH Tryz.prog (hkM [(46, sACopy), (47, sSesC)] [] []) Tryz.f19 [.agg (macL 0 h [s0, s1, s2])] K) = (bif okC4 h.w0 h.w1 h.w2 h.w3 then bif smS s0 then bif smS s1 then bif smS s2 then bif allV h.tr then bif true && (decide ((0 + List.length h.tr) * 32 ≤ 140737488355328) && decide (0 + List.length h.tr ≤ 9223372036854775807)) then bif decide (List.length h.w0 ≤ List.length (h.w0 ++ [])) && List.all (h.w0 ++ []) fun r => List.all r D.keeps then bif decide (List.length h.w1 ≤ List.length (h.w1 ++ [])) && List.all (h.w1 ++ []) fun r => List.all r D.keeps then bif decide (List.length h.w2 ≤ List.length (h.w2 ++ [])) && List.all (h.w2 ++ []) fun r => List.all r D.keeps then bif decide (List.length h.w3 ≤ List.length (h.w3 ++ [])) && List.all (h.w3 ++ []) fun r => List.all r D.keeps then bif decide (List.length s0.pg ≤ List.length (s0.pg ++ [])) && List.all (s0.pg ++ []) fun r => List.all r D.keeps then bif decide (List.length s0.rd ≤ List.length (s0.rd ++ [])) && List.all (s0.rd ++ []) fun r => List.all r D.keeps then bif decide (List.length s0.wt ≤ List.length (s0.wt ++ [])) && List.all (s0.wt ++ []) fun r => List.all r D.keeps then bif decide (List.length s1.pg ≤ List.length (s1.pg ++ [])) && List.all (s1.pg ++ []) fun r => List.all r D.keeps then bif decide (List.length s1.rd ≤ List.length (s1.rd ++ [])) && List.all (s1.rd ++ []) fun r => List.all r D.keeps then bif decide (List.length s1.wt ≤ List.length (s1.wt ++ [])) && List.all (s1.wt ++ []) fun r => List.all r D.keeps then bif decide (List.length s2.pg ≤ List.length (s2.pg ++ [])) && List.all (s2.pg ++ []) fun r => List.all r D.keeps then bif decide (List.length s2.rd ≤ List.length (s2.rd ++ [])) && List.all (s2.rd ++ []) fun r => List.all r D.keeps then bif decide (List.length s2.wt ≤ List.length (s2.wt ++ [])) && List.all (s2.wt ++ []) fun r => List.all r D.keeps then bif decide (0 + List.length h.tr ≤ List.length ([] ++ h.tr)) && List.all ([] ++ h.tr) fun r => List.all r D.keeps then K (DV.agg [D.s (1) (3) (List.take (List.length h.w0) (h.w0 ++ [])) (List.take (List.length h.w0 + 0 - List.length h.w0) (List.drop (List.length h.w0) (h.w0 ++ []))), D.s (1) (3) (List.take (List.length h.w1) (h.w1 ++ [])) (List.take (List.length h.w1 + 0 - List.length h.w1) (List.drop (List.length h.w1) (h.w1 ++ []))), D.s (1) (3) (List.take (List.length h.w2) (h.w2 ++ [])) (List.take (List.length h.w2 + 0 - List.length h.w2) (List.drop (List.length h.w2) (h.w2 ++ []))), D.s (1) (3) (List.take (List.length h.w3) (h.w3 ++ [])) (List.take (List.length h.w3 + 0 - List.length h.w3) (List.drop (List.length h.w3) (h.w3 ++ []))), D.v (Value.int IntKind.i64 h.c0), D.v (Value.int IntKind.i64 h.c1), D.v (Value.int IntKind.i64 h.c2), D.v (Value.int IntKind.i64 h.c3), D.v (Value.int IntKind.i64 h.ce), D.s (1) (17) [[D.v (Value.int IntKind.i64 s0.id), D.v (Value.int IntKind.i64 s0.lb), D.v (Value.int IntKind.i64 s0.cl), D.s (1) (4) (List.take (List.length s0.pg) (s0.pg ++ [])) (List.take (List.length s0.pg + 0 - List.length s0.pg) (List.drop (List.length s0.pg) (s0.pg ++ []))), D.v (Value.int IntKind.i64 s0.st), D.v (Value.int IntKind.i64 s0.pc), D.v (Value.int IntKind.i64 s0.r0), D.v (Value.int IntKind.i64 s0.r1), D.v (Value.int IntKind.i64 s0.r2), D.v (Value.int IntKind.i64 s0.r3), D.s (1) (3) (List.take (List.length s0.rd) (s0.rd ++ [])) (List.take (List.length s0.rd + 0 - List.length s0.rd) (List.drop (List.length s0.rd) (s0.rd ++ []))), D.s (1) (3) (List.take (List.length s0.wt) (s0.wt ++ [])) (List.take (List.length s0.wt + 0 - List.length s0.wt) (List.drop (List.length s0.wt) (s0.wt ++ []))), D.v (Value.int IntKind.i64 s0.at'), D.v (Value.int IntKind.i64 s0.sp), D.v (Value.int IntKind.i64 s0.tr), D.v (Value.int IntKind.i64 s0.rs), D.v (Value.int IntKind.i64 s0.to)], [D.v (Value.int IntKind.i64 s1.id), D.v (Value.int IntKind.i64 s1.lb), D.v (Value.int IntKind.i64 s1.cl), D.s (1) (4) (List.take (List.length s1.pg) (s1.pg ++ [])) (List.take (List.length s1.pg + 0 - List.length s1.pg) (List.drop (List.length s1.pg) (s1.pg ++ []))), D.v (Value.int IntKind.i64 s1.st), D.v (Value.int IntKind.i64 s1.pc), D.v (Value.int IntKind.i64 s1.r0), D.v (Value.int IntKind.i64 s1.r1), D.v (Value.int IntKind.i64 s1.r2), D.v (Value.int IntKind.i64 s1.r3), D.s (1) (3) (List.take (List.length s1.rd) (s1.rd ++ [])) (List.take (List.length s1.rd + 0 - List.length s1.rd) (List.drop (List.length s1.rd) (s1.rd ++ []))), D.s (1) (3) (List.take (List.length s1.wt) (s1.wt ++ [])) (List.take (List.length s1.wt + 0 - List.length s1.wt) (List.drop (List.length s1.wt) (s1.wt ++ []))), D.v (Value.int IntKind.i64 s1.at'), D.v (Value.int IntKind.i64 s1.sp), D.v (Value.int IntKind.i64 s1.tr), D.v (Value.int IntKind.i64 s1.rs), D.v (Value.int IntKind.i64 s1.to)], [D.v (Value.int IntKind.i64 s2.id), D.v (Value.int IntKind.i64 s2.lb), D.v (Value.int IntKind.i64 s2.cl), D.s (1) (4) (List.take (List.length s2.pg) (s2.pg ++ [])) (List.take (List.length s2.pg + 0 - List.length s2.pg) (List.drop (List.length s2.pg) (s2.pg ++ []))), D.v (Value.int IntKind.i64 s2.st), D.v (Value.int IntKind.i64 s2.pc), D.v (Value.int IntKind.i64 s2.r0), D.v (Value.int IntKind.i64 s2.r1), D.v (Value.int IntKind.i64 s2.r2), D.v (Value.int IntKind.i64 s2.r3), D.s (1) (3) (List.take (List.length s2.rd) (s2.rd ++ [])) (List.take (List.length s2.rd + 0 - List.length s2.rd) (List.drop (List.length s2.rd) (s2.rd ++ []))), D.s (1) (3) (List.take (List.length s2.wt) (s2.wt ++ [])) (List.take (List.length s2.wt + 0 - List.length s2.wt) (List.drop (List.length s2.wt) (s2.wt ++ []))), D.v (Value.int IntKind.i64 s2.at'), D.v (Value.int IntKind.i64 s2.sp), D.v (Value.int IntKind.i64 s2.tr), D.v (Value.int IntKind.i64 s2.rs), D.v (Value.int IntKind.i64 s2.to)]] [], D.s (1) (4) (List.take (0 + List.length h.tr) ([] ++ h.tr)) (List.take (0 + List.length h.tr - (0 + List.length h.tr)) (List.drop (0 + List.length h.tr) ([] ++ h.tr)))]) else False else False else False else False else False else False else False else False else False else False else False else False else False else False else False else False else False else False else False else False) := by kernel_rfl
theorem eLCop4 (h : Mh) (s0 s1 s2 s3 : SesD) (K : DV → Prop) : (askH Tryz.prog (hkM [(46, sACopy), (47, sSesC)] [] []) Tryz.f19 [.agg (macL 0 h [s0, s1, s2, s3])] K) = (bif okC4 h.w0 h.w1 h.w2 h.w3 then bif smS s0 then bif smS s1 then bif smS s2 then bif smS s3 then bif allV h.tr then bif true && (decide ((0 + List.length h.tr) * 32 ≤ 140737488355328) && decide (0 + List.length h.tr ≤ 9223372036854775807)) then bif decide (List.length h.w0 ≤ List.length (h.w0 ++ [])) && List.all (h.w0 ++ []) fun r => List.all r D.keeps then bif decide (List.length h.w1 ≤ List.length (h.w1 ++ [])) && List.all (h.w1 ++ []) fun r => List.all r D.keeps then bif decide (List.length h.w2 ≤ List.length (h.w2 ++ [])) && List.all (h.w2 ++ []) fun r => List.all r D.keeps then bif decide (List.length h.w3 ≤ List.length (h.w3 ++ [])) && List.all (h.w3 ++ []) fun r => List.all r D.keeps then bif decide (List.length s0.pg ≤ List.length (s0.pg ++ [])) && List.all (s0.pg ++ []) fun r => List.all r D.keeps then bif decide (List.length s0.rd ≤ List.length (s0.rd ++ [])) && List.all (s0.rd ++ []) fun r => List.all r D.keeps then bif decide (List.length s0.wt ≤ List.length (s0.wt ++ [])) && List.all (s0.wt ++ []) fun r => List.all r D.keeps then bif decide (List.length s1.pg ≤ List.length (s1.pg ++ [])) && List.all (s1.pg ++ []) fun r => List.all r D.keeps then bif decide (List.length s1.rd ≤ List.length (s1.rd ++ [])) && List.all (s1.rd ++ []) fun r => List.all r D.keeps then bif decide (List.length s1.wt ≤ List.length (s1.wt ++ [])) && List.all (s1.wt ++ []) fun r => List.all r D.keeps then bif decide (List.length s2.pg ≤ List.length (s2.pg ++ [])) && List.all (s2.pg ++ []) fun r => List.all r D.keeps then bif decide (List.length s2.rd ≤ List.length (s2.rd ++ [])) && List.all (s2.rd ++ []) fun r => List.all r D.keeps then bif decide (List.length s2.wt ≤ List.length (s2.wt ++ [])) && List.all (s2.wt ++ []) fun r => List.all r D.keeps then bif decide (List.length s3.pg ≤ List.length (s3.pg ++ [])) && List.all (s3.pg ++ []) fun r => List.all r D.keeps then bif decide (List.length s3.rd ≤ List.length (s3.rd ++ [])) && List.all (s3.rd ++ []) fun r => List.all r D.keeps then bif decide (List.length s3.wt ≤ List.length (s3.wt ++ [])) && List.all (s3.wt ++ []) fun r => List.all r D.keeps then bif decide (0 + List.length h.tr ≤ List.length ([] ++ h.tr)) && List.all ([] ++ h.tr) fun r => List.all r D.keeps then K (DV.agg [D.s (1) (3) (List.take (List.length h.w0) (h.w0 ++ [])) (List.take (List.length h.w0 + 0 - List.length h.w0) (List.drop (List.length h.w0) (h.w0 ++ []))), D.s (1) (3) (List.take (List.length h.w1) (h.w1 ++ [])) (List.take (List.length h.w1 + 0 - List.length h.w1) (List.drop (List.length h.w1) (h.w1 ++ []))), D.s (1) (3) (List.take (List.length h.w2) (h.w2 ++ [])) (List.take (List.length h.w2 + 0 - List.length h.w2) (List.drop (List.length h.w2) (h.w2 ++ []))), D.s (1) (3) (List.take (List.length h.w3) (h.w3 ++ [])) (List.take (List.length h.w3 + 0 - List.length h.w3) (List.drop (List.length h.w3) (h.w3 ++ []))), D.v (Value.int IntKind.i64 h.c0), D.v (Value.int IntKind.i64 h.c1), D.v (Value.int IntKind.i64 h.c2), D.v (Value.int IntKind.i64 h.c3), D.v (Value.int IntKind.i64 h.ce), D.s (1) (17) [[D.v (Value.int IntKind.i64 s0.id), D.v (Value.int IntKind.i64 s0.lb), D.v (Value.int IntKind.i64 s0.cl), D.s (1) (4) (List.take (List.length s0.pg) (s0.pg ++ [])) (List.take (List.length s0.pg + 0 - List.length s0.pg) (List.drop (List.length s0.pg) (s0.pg ++ []))), D.v (Value.int IntKind.i64 s0.st), D.v (Value.int IntKind.i64 s0.pc), D.v (Value.int IntKind.i64 s0.r0), D.v (Value.int IntKind.i64 s0.r1), D.v (Value.int IntKind.i64 s0.r2), D.v (Value.int IntKind.i64 s0.r3), D.s (1) (3) (List.take (List.length s0.rd) (s0.rd ++ [])) (List.take (List.length s0.rd + 0 - List.length s0.rd) (List.drop (List.length s0.rd) (s0.rd ++ []))), D.s (1) (3) (List.take (List.length s0.wt) (s0.wt ++ [])) (List.take (List.length s0.wt + 0 - List.length s0.wt) (List.drop (List.length s0.wt) (s0.wt ++ []))), D.v (Value.int IntKind.i64 s0.at'), D.v (Value.int IntKind.i64 s0.sp), D.v (Value.int IntKind.i64 s0.tr), D.v (Value.int IntKind.i64 s0.rs), D.v (Value.int IntKind.i64 s0.to)], [D.v (Value.int IntKind.i64 s1.id), D.v (Value.int IntKind.i64 s1.lb), D.v (Value.int IntKind.i64 s1.cl), D.s (1) (4) (List.take (List.length s1.pg) (s1.pg ++ [])) (List.take (List.length s1.pg + 0 - List.length s1.pg) (List.drop (List.length s1.pg) (s1.pg ++ []))), D.v (Value.int IntKind.i64 s1.st), D.v (Value.int IntKind.i64 s1.pc), D.v (Value.int IntKind.i64 s1.r0), D.v (Value.int IntKind.i64 s1.r1), D.v (Value.int IntKind.i64 s1.r2), D.v (Value.int IntKind.i64 s1.r3), D.s (1) (3) (List.take (List.length s1.rd) (s1.rd ++ [])) (List.take (List.length s1.rd + 0 - List.length s1.rd) (List.drop (List.length s1.rd) (s1.rd ++ []))), D.s (1) (3) (List.take (List.length s1.wt) (s1.wt ++ [])) (List.take (List.length s1.wt + 0 - List.length s1.wt) (List.drop (List.length s1.wt) (s1.wt ++ []))), D.v (Value.int IntKind.i64 s1.at'), D.v (Value.int IntKind.i64 s1.sp), D.v (Value.int IntKind.i64 s1.tr), D.v (Value.int IntKind.i64 s1.rs), D.v (Value.int IntKind.i64 s1.to)], [D.v (Value.int IntKind.i64 s2.id), D.v (Value.int IntKind.i64 s2.lb), D.v (Value.int IntKind.i64 s2.cl), D.s (1) (4) (List.take (List.length s2.pg) (s2.pg ++ [])) (List.take (List.length s2.pg + 0 - List.length s2.pg) (List.drop (List.length s2.pg) (s2.pg ++ []))), D.v (Value.int IntKind.i64 s2.st), D.v (Value.int IntKind.i64 s2.pc), D.v (Value.int IntKind.i64 s2.r0), D.v (Value.int IntKind.i64 s2.r1), D.v (Value.int IntKind.i64 s2.r2), D.v (Value.int IntKind.i64 s2.r3), D.s (1) (3) (List.take (List.length s2.rd) (s2.rd ++ [])) (List.take (List.length s2.rd + 0 - List.length s2.rd) (List.drop (List.length s2.rd) (s2.rd ++ []))), D.s (1) (3) (List.take (List.length s2.wt) (s2.wt ++ [])) (List.take (List.length s2.wt + 0 - List.length s2.wt) (List.drop (List.length s2.wt) (s2.wt ++ []))), D.v (Value.int IntKind.i64 s2.at'), D.v (Value.int IntKind.i64 s2.sp), D.v (Value.int IntKind.i64 s2.tr), D.v (Value.int IntKind.i64 s2.rs), D.v (Value.int IntKind.i64 s2.to)], [D.v (Value.int IntKind.i64 s3.id), D.v (Value.int IntKind.i64 s3.lb), D.v (Value.int IntKind.i64 s3.cl), D.s (1) (4) (List.take (List.length s3.pg) (s3.pg ++ [])) (List.take (List.length s3.pg + 0 - List.length s3.pg) (List.drop (List.length s3.pg) (s3.pg ++ []))), D.v (Value.int IntKind.i64 s3.st), D.v (Value.int IntKind.i64 s3.pc), D.v (Value.int IntKind.i64 s3.r0), D.v (Value.int IntKind.i64 s3.r1), D.v (Value.int IntKind.i64 s3.r2), D.v (Value.int IntKind.i64 s3.r3), D.s (1) (3) (List.take (List.length s3.rd) (s3.rd ++ [])) (List.take (List.length s3.rd + 0 - List.length s3.rd) (List.drop (List.length s3.rd) (s3.rd ++ []))), D.s (1) (3) (List.take (List.length s3.wt) (s3.wt ++ [])) (List.take (List.length s3.wt + 0 - List.length s3.wt) (List.drop (List.length s3.wt) (s3.wt ++ []))), D.v (Value.int IntKind.i64 s3.at'), D.v (Value.int IntKind.i64 s3.sp), D.v (Value.int IntKind.i64 s3.tr), D.v (Value.int IntKind.i64 s3.rs), D.v (Value.int IntKind.i64 s3.to)]] [], D.s (1) (4) (List.take (0 + List.length h.tr) ([] ++ h.tr)) (List.take (0 + List.length h.tr - (0 + List.length h.tr)) (List.drop (0 + List.length h.tr) ([] ++ h.tr)))]) else False else False else False else False else False else False else False else False else False else False else False else False else False else False else False else False else False else False else False else False else False else False else False else False) := by kernel_rfl
theorem cLCop (h : Mh) (ss : List SesD) (hl : ss.length ≤ 4) (hm : smM h ss = true) : CT Tryz.prog 19 [.agg (macL 0 h ss)] (.agg (macL 1 h ss)) := by
  have h4 := smM_C4 hm
  obtain ⟨⟨a0, a1, a2, a3⟩, a4, a5⟩ := smM_spec hm
  obtain ⟨_, _, b0⟩ := smR_spec a0
  obtain ⟨_, _, b1⟩ := smR_spec a1
  obtain ⟨_, _, b2⟩ := smR_spec a2
  obtain ⟨_, _, b3⟩ := smR_spec a3
  obtain ⟨t1, t2, t3, t4⟩ := smR_f4 a4
  rcases ss with _ | ⟨s0, _ | ⟨s1, _ | ⟨s2, _ | ⟨s3, _ | ⟨s4, l⟩⟩⟩⟩⟩
  · refine ct_mA (.cons oLCopy (.cons oLSeC .nil)) .nil .nil mixed Tryz.func19 rfl rfl rfl ?_
    rw [eLCop0]
    refine ⟨?_⟩
    simp only [h4, b0, b1, b2, b3, t1, t2, t3, t4, Nat.zero_add, List.nil_append, List.append_nil, Nat.le_refl, decide_true, Bool.and_self, Bool.true_and, cond_true, takeAll, Nat.add_zero, Nat.sub_self, List.take_zero]
    exact .aggO (.cons (.refl _) (.cons (.refl _) (.cons (.refl _) (.cons (.refl _) (.cons (.refl _) (.cons (.refl _) (.cons (.refl _) (.cons (.refl _) (.cons (.refl _) (.cons (.nil 17) (.cons (.refl _) .nil)))))))))))
  · have q0 := a5 s0 (by simp)
    obtain ⟨p0, r0, w0⟩ := smS_spec q0
    obtain ⟨_, _, x0⟩ := smR_spec p0
    obtain ⟨_, _, y0⟩ := smR_spec r0
    obtain ⟨_, _, z0⟩ := smR_spec w0
    refine ct_m (.cons oLCopy (.cons oLSeC .nil)) .nil .nil mixed Tryz.func19 rfl rfl rfl ?_
    rw [eLCop1]
    refine ⟨?_⟩
    simp only [h4, b0, b1, b2, b3, t1, t2, t3, t4, q0, x0, y0, z0, Nat.zero_add, List.nil_append, List.append_nil, Nat.le_refl, decide_true, Bool.and_self, Bool.true_and, cond_true, takeAll, Nat.add_zero, Nat.sub_self, List.take_zero]
    rfl
  · have q0 := a5 s0 (by simp)
    obtain ⟨p0, r0, w0⟩ := smS_spec q0
    obtain ⟨_, _, x0⟩ := smR_spec p0
    obtain ⟨_, _, y0⟩ := smR_spec r0
    obtain ⟨_, _, z0⟩ := smR_spec w0
    have q1 := a5 s1 (by simp)
    obtain ⟨p1, r1, w1⟩ := smS_spec q1
    obtain ⟨_, _, x1⟩ := smR_spec p1
    obtain ⟨_, _, y1⟩ := smR_spec r1
    obtain ⟨_, _, z1⟩ := smR_spec w1
    refine ct_m (.cons oLCopy (.cons oLSeC .nil)) .nil .nil mixed Tryz.func19 rfl rfl rfl ?_
    rw [eLCop2]
    refine ⟨?_⟩
    simp only [h4, b0, b1, b2, b3, t1, t2, t3, t4, q0, x0, y0, z0, q1, x1, y1, z1, Nat.zero_add, List.nil_append, List.append_nil, Nat.le_refl, decide_true, Bool.and_self, Bool.true_and, cond_true, takeAll, Nat.add_zero, Nat.sub_self, List.take_zero]
    rfl
  · have q0 := a5 s0 (by simp)
    obtain ⟨p0, r0, w0⟩ := smS_spec q0
    obtain ⟨_, _, x0⟩ := smR_spec p0
    obtain ⟨_, _, y0⟩ := smR_spec r0
    obtain ⟨_, _, z0⟩ := smR_spec w0
    have q1 := a5 s1 (by simp)
    obtain ⟨p1, r1, w1⟩ := smS_spec q1
    obtain ⟨_, _, x1⟩ := smR_spec p1
    obtain ⟨_, _, y1⟩ := smR_spec r1
    obtain ⟨_, _, z1⟩ := smR_spec w1
    have q2 := a5 s2 (by simp)
    obtain ⟨p2, r2, w2⟩ := smS_spec q2
    obtain ⟨_, _, x2⟩ := smR_spec p2
    obtain ⟨_, _, y2⟩ := smR_spec r2
    obtain ⟨_, _, z2⟩ := smR_spec w2
    refine ct_m (.cons oLCopy (.cons oLSeC .nil)) .nil .nil mixed Tryz.func19 rfl rfl rfl ?_
    rw [eLCop3]
    refine ⟨?_⟩
    simp only [h4, b0, b1, b2, b3, t1, t2, t3, t4, q0, x0, y0, z0, q1, x1, y1, z1, q2, x2, y2, z2, Nat.zero_add, List.nil_append, List.append_nil, Nat.le_refl, decide_true, Bool.and_self, Bool.true_and, cond_true, takeAll, Nat.add_zero, Nat.sub_self, List.take_zero]
    rfl
  · have q0 := a5 s0 (by simp)
    obtain ⟨p0, r0, w0⟩ := smS_spec q0
    obtain ⟨_, _, x0⟩ := smR_spec p0
    obtain ⟨_, _, y0⟩ := smR_spec r0
    obtain ⟨_, _, z0⟩ := smR_spec w0
    have q1 := a5 s1 (by simp)
    obtain ⟨p1, r1, w1⟩ := smS_spec q1
    obtain ⟨_, _, x1⟩ := smR_spec p1
    obtain ⟨_, _, y1⟩ := smR_spec r1
    obtain ⟨_, _, z1⟩ := smR_spec w1
    have q2 := a5 s2 (by simp)
    obtain ⟨p2, r2, w2⟩ := smS_spec q2
    obtain ⟨_, _, x2⟩ := smR_spec p2
    obtain ⟨_, _, y2⟩ := smR_spec r2
    obtain ⟨_, _, z2⟩ := smR_spec w2
    have q3 := a5 s3 (by simp)
    obtain ⟨p3, r3, w3⟩ := smS_spec q3
    obtain ⟨_, _, x3⟩ := smR_spec p3
    obtain ⟨_, _, y3⟩ := smR_spec r3
    obtain ⟨_, _, z3⟩ := smR_spec w3
    refine ct_m (.cons oLCopy (.cons oLSeC .nil)) .nil .nil mixed Tryz.func19 rfl rfl rfl ?_
    rw [eLCop4]
    refine ⟨?_⟩
    simp only [h4, b0, b1, b2, b3, t1, t2, t3, t4, q0, x0, y0, z0, q1, x1, y1, z1, q2, x2, y2, z2, q3, x3, y3, z3, Nat.zero_add, List.nil_append, List.append_nil, Nat.le_refl, decide_true, Bool.and_self, Bool.true_and, cond_true, takeAll, Nat.add_zero, Nat.sub_self, List.take_zero]
    rfl
  · simp at hl
end

section
set_option maxHeartbeats 2000000
open Go Go.Proofs
set_option linter.unusedSimpArgs false
set_option linter.unusedVariables false
set_option maxRecDepth 100000
theorem CTN.args {P : Program} {f : FuncId} {ds es : List DV} {r : DV} (h : All2 AL ds es) (hc : CTN P f es r) : CTN P f ds r := fun w vs S G hov => by
  refine hc w vs S G ?_
  cases hov with
  | tup _ _ _ sub h1 h2 h3 h4 =>
    refine .tup vs es S sub (by rw [← h.len]; exact h1) (fun i e hi => ?_) h3 h4
    obtain ⟨d, g1, g2⟩ := h.get hi
    exact g2 _ _ _ _ (h2 i d g1)
theorem spec_al {P : Program} {f : FuncId} {s s' : Spec} (hs : SpecOK P f s) (hd : ∀ ds Q, s' ds Q → ∃ es, All2 AL ds es ∧ s es Q) : SpecOK P f s' := fun ds Q h => by
  obtain ⟨es, h1, h2⟩ := hd ds Q h
  obtain ⟨hg, r, hc, hp, hf, hq⟩ := hs es Q h2
  exact ⟨hg, r, hc.args h1, .inr (.inr ((ctn_of hc hp).args h1)), hf, hq⟩
def takeV4 (cs : List D) (K : List (List D) → List (List D) → List (List D) → List (List D) → Prop) : Prop := match cs with
  | [a, b, c, d] => takeS 1 a fun a => takeS 1 b fun b => takeS 1 c fun c => takeS 1 d fun d => K a b c d
  | _ => False
theorem takeV4_spec {cs : List D} {K : List (List D) → List (List D) → List (List D) → List (List D) → Prop} (h : takeV4 cs K) : ∃ a b c d, K a b c d ∧ All2 RD cs [.s 0 1 a [], .s 0 1 b [], .s 0 1 c [], .s 0 1 d []] := by
  unfold takeV4 at h
  split at h
  · obtain ⟨a, h, e0⟩ := takeS_spec h
    obtain ⟨b, h, e1⟩ := takeS_spec h
    obtain ⟨c, h, e2⟩ := takeS_spec h
    obtain ⟨d, h, e3⟩ := takeS_spec h
    exact ⟨a, b, c, d, h, .cons e0 (.cons e1 (.cons e2 (.cons e3 .nil)))⟩
  · exact h.elim
def sNewL : Spec := fun ds Q => match ds with
  | [.agg cs] => cond (noOwn cs) (takeV4 cs fun R0 R1 R2 R3 => cond (okV4 R0 R1 R2 R3) (cond (amay (toZ (mW R0)) (toZ (mW R1)) (toZ (mW R2)) (toZ (mW R3))) (Q (.tup [dO (mW R0) (mW R1) (mW R2) (mW R3), I 0])) (Q (.tup [dNil, I 400]))) False) False
  | _ => False
theorem sNewL_al : ∀ ds Q, sNewL ds Q → ∃ es, All2 AL ds es ∧ sNew es Q := fun ds Q h => by
  unfold sNewL at h; split at h
  · obtain ⟨h0, h⟩ := cond_P h
    obtain ⟨a, b, c, d, h, r⟩ := takeV4_spec h
    exact ⟨_, .cons (.agg r h0 rfl) .nil, h⟩
  · exact h.elim
theorem oRNewL : SpecOK Tryz.prog 50 sNewL := spec_al oRNew sNewL_al
def takeSt (cs : List D) (K : Int → Int → Int → List (List D) → Prop) : Prop := match cs with
  | [a, b, c, d] => takeI a fun a => takeI b fun b => takeI c fun c => takeS 4 d fun d => K a b c d
  | _ => False
theorem takeSt_spec {cs : List D} {K : Int → Int → Int → List (List D) → Prop} (h : takeSt cs K) : ∃ a b c d, K a b c d ∧ All2 RD cs [vN a, vN b, vN c, .s 0 4 d []] := by
  unfold takeSt at h
  split at h
  · obtain ⟨a, h, e0⟩ := takeI_spec h
    obtain ⟨b, h, e1⟩ := takeI_spec h
    obtain ⟨c, h, e2⟩ := takeI_spec h
    obtain ⟨d, h, e3⟩ := takeS_spec h
    exact ⟨a, b, c, d, h, .cons e0 (.cons e1 (.cons e2 (.cons e3 .nil)))⟩
  · exact h.elim
def sSNewL : Spec := fun ds Q => match ds with
  | [.agg cs] => cond (noOwn cs) (takeSt cs fun i g c R => cond (okZ 4 R && decide (R.length ≤ 4398046510977)) (cond (smay i g c (toZ R)) (Q (.tup [dSess i g c (.s 1 4 R []), I 0])) (Q (.tup [dSess 0 0 0 nilD, I 1100]))) False) False
  | _ => False
theorem sSNewL_al : ∀ ds Q, sSNewL ds Q → ∃ es, All2 AL ds es ∧ sSNew es Q := fun ds Q h => by
  unfold sSNewL at h; split at h
  · obtain ⟨h0, h⟩ := cond_P h
    obtain ⟨a, b, c, d, h, r⟩ := takeSt_spec h
    exact ⟨_, .cons (.agg r h0 rfl) .nil, h⟩
  · exact h.elim
theorem oRSNewL : SpecOK Tryz.prog 51 sSNewL := spec_al oRSNew sSNewL_al
def iRNew : Inl := inlM Tryz.prog [(50, sNewL), (51, sSNewL), (27, sRMm)] [] [] Tryz.f21
end

section
set_option maxHeartbeats 2000000
open Go Go.Proofs
set_option linter.unusedSimpArgs false
set_option linter.unusedVariables false
set_option maxRecDepth 100000
theorem eHere (h : Mh) (ss : List SesD) (at' : Int) (K : DV → Prop) : (ask Tryz.prog [(27, sAtD [.agg (macL 0 h ss)] (B (mmay h ss)))] Tryz.f55 [.agg (macL 0 h ss), I at'] K) = ([DV.agg (macL (0) h ss)] = [DV.agg (macL (0) h ss)] ∧ bif mmay h ss then bif decide (at' ≥ 0) then K (DV.c (D.v (Value.bool (decide (at' < @Nat.cast Int _ (List.length (List.map (sesL (0)) ss))))))) else K (DV.c (D.v (Value.bool false))) else K (DV.c (D.v (Value.bool false)))) := by kernel_rfl
theorem gRM : Goes Tryz.prog 27 := goes_of Tryz.func27 (by kernel_rfl) rfl
theorem cHere (h : Mh) (ss : List SesD) (i : Int) (hok : okM h ss = true) : CT Tryz.prog 55 [.agg (macL 0 h ss), I i] (B (mthere h ss i)) := by
  refine ct_s (.cons (oAtD gRM (cRM h ss hok) rfl rfl) .nil) mixed Tryz.func55 rfl rfl rfl ?_
  rw [eHere]
  refine ⟨rfl, ?_⟩
  unfold mthere
  rw [List.length_map]
  simp only [bifK]
def sHere : Spec := fun ds Q => match ds with
  | [d, e] => macA d fun h ss => inA e fun i => cond (okM h ss) (Q (B (mthere h ss i))) False
  | _ => False
theorem oHere : SpecOK Tryz.prog 55 sHere := o_al Tryz.func55 (by kernel_rfl) rfl fun ds Q h => by
  unfold sHere at h; split at h
  · obtain ⟨m, ss, h, r⟩ := macA_spec h
    obtain ⟨i, h, rfl⟩ := inA_spec h
    obtain ⟨h1, h2⟩ := cond_P h
    exact ⟨_, _, .cons r (.cons (.refl _) .nil), cHere m ss i h1, rfl, rfl, h2⟩
  · exact h.elim
def iRtl : Inl := inlM Tryz.prog [] [] [] Tryz.f57
theorem iRtl_ok : InlOK Tryz.prog 57 iRtl := inlM_ok .nil .nil .nil mixed Tryz.func57 rfl (goes_of Tryz.func57 (by kernel_rfl) rfl)
end

section
set_option maxHeartbeats 2000000
open Go Go.Proofs
set_option linter.unusedSimpArgs false
set_option linter.unusedVariables false
set_option maxRecDepth 100000
def frcI (n : Int) (K : Int → Prop) : Prop := match n with
  | .ofNat m => frcN m fun m => K (.ofNat m)
  | .negSucc m => frcN m fun m => K (.negSucc m)
theorem frcI_spec {n : Int} {K : Int → Prop} (h : frcI n K) : K n := by
  unfold frcI at h; split at h
  · exact frcN_spec h
  · exact frcN_spec h
def frcLs (f : D → (D → Prop) → Prop) : List D → (List D → Prop) → Prop
  | [], K => K []
  | d :: l, K => f d fun d => frcLs f l fun l => K (d :: l)
def frcLL (f : D → (D → Prop) → Prop) : List (List D) → (List (List D) → Prop) → Prop
  | [], K => K []
  | r :: l, K => frcLs f r fun r => frcLL f l fun l => K (r :: l)
def frcX : Nat → D → (D → Prop) → Prop
  | 0, d, K => K d
  | n + 1, d, K => match d with
    | .s t z rows sp => frcLL (frcX n) rows fun rows => frcLL (frcX n) sp fun sp => K (.s t z rows sp)
    | .v x => match x with
      | .int k i => frcI i fun i => K (.v (.int k i))
      | x => K (.v x)
    | d => K d
theorem frcLs_spec {f : D → (D → Prop) → Prop} (hf : ∀ d K, f d K → K d) : ∀ (l : List D) (K : List D → Prop), frcLs f l K → K l
  | [], K, h => h
  | d :: l, K, h => frcLs_spec hf l _ (hf d _ h)
theorem frcLL_spec {f : D → (D → Prop) → Prop} (hf : ∀ d K, f d K → K d) : ∀ (l : List (List D)) (K : List (List D) → Prop), frcLL f l K → K l
  | [], K, h => h
  | r :: l, K, h => frcLL_spec hf l _ (frcLs_spec hf r _ h)
theorem frcX_spec : ∀ (n : Nat) (d : D) (K : D → Prop), frcX n d K → K d
  | 0, d, K, h => h
  | n + 1, d, K, h => by
    unfold frcX at h; split at h
    · exact frcLL_spec (frcX_spec n) _ _ (frcLL_spec (frcX_spec n) _ _ h)
    · split at h
      · exact frcI_spec h
      · exact h
    · exact h
def frcV (d : DV) (K : DV → Prop) : Prop := match d with
  | .c d => frcX 3 d fun d => K (.c d)
  | .agg cs => frcLs (frcX 3) cs fun cs => K (.agg cs)
  | .tup [.c d, e] => frcX 3 d fun d => K (.tup [.c d, e])
  | d => K d
theorem frcV_spec {d : DV} {K : DV → Prop} (h : frcV d K) : K d := by
  unfold frcV at h; split at h
  · exact frcX_spec 3 _ _ h
  · exact frcLs_spec (frcX_spec 3) _ _ h
  · exact frcX_spec 3 _ _ h
  · exact h
def sF (s : Spec) : Spec := fun ds Q => s ds fun r => frcV r Q
theorem oF {P : Program} {f : FuncId} {s : Spec} (h : SpecOK P f s) : SpecOK P f (sF s) := fun ds Q hq => by
  obtain ⟨hg, r, hc, hp, hf, hq⟩ := h ds _ hq
  exact ⟨hg, r, hc, hp, hf, frcV_spec hq⟩
def iRCopF : Inl := callB Tryz.prog [34] (sF sCop)
theorem iRCopF_ok : InlOK Tryz.prog 58 iRCopF := callB_ok (oF oRCop)
def spC : List (FuncId × Spec) := [(55, sHere), (56, sUp), (146, sUnd), (68, sAMay), (122, sRM), (123, sWMy), (145, sB idm), (164, sRThr), (121, sRRgM), (136, sB lab)]
theorem spC_ok : SpecsOK Tryz.prog spC := .cons (oHere) (.cons (oUp2) (.cons (oRUnd) (.cons (oRAMay) (.cons (oQM) (.cons (oWPy) (.cons (oRId) (.cons (oRThr) (.cons (oRRgM) (.cons (oRReg) (.nil))))))))))
def jRT : Inl := inlM Tryz.prog spC [] [] Tryz.f165
theorem jRT_ok : InlOK Tryz.prog 165 jRT := inlM_ok spC_ok .nil (.nil) mixed Tryz.func165 rfl (goes_of Tryz.func165 (by kernel_rfl) rfl)
def jGood : Inl := inlM Tryz.prog spC [] [(165, jRT)] Tryz.f176
theorem jGood_ok : InlOK Tryz.prog 176 jGood := inlM_ok spC_ok .nil (.cons jRT_ok (.nil)) mixed Tryz.func176 rfl (goes_of Tryz.func176 (by kernel_rfl) rfl)
def jWR : Inl := inlM Tryz.prog spC [] [] Tryz.f190
theorem jWR_ok : InlOK Tryz.prog 190 jWR := inlM_ok spC_ok .nil (.nil) mixed Tryz.func190 rfl (goes_of Tryz.func190 (by kernel_rfl) rfl)
def jFW : Inl := inlM Tryz.prog spC [] [] Tryz.f189
theorem jFW_ok : InlOK Tryz.prog 189 jFW := inlM_ok spC_ok .nil (.nil) mixed Tryz.func189 rfl (goes_of Tryz.func189 (by kernel_rfl) rfl)
def jPl : Inl := inlM Tryz.prog spC [] [] Tryz.f141
theorem jPl_ok : InlOK Tryz.prog 141 jPl := inlM_ok spC_ok .nil (.nil) mixed Tryz.func141 rfl (goes_of Tryz.func141 (by kernel_rfl) rfl)
def jWW : Inl := inlM Tryz.prog spC [] [(141, jPl)] Tryz.f87
theorem jWW_ok : InlOK Tryz.prog 87 jWW := inlM_ok spC_ok .nil (.cons jPl_ok (.nil)) mixed Tryz.func87 rfl (goes_of Tryz.func87 (by kernel_rfl) rfl)
def jWA : Inl := inlM Tryz.prog spC [] [] Tryz.f171
theorem jWA_ok : InlOK Tryz.prog 171 jWA := inlM_ok spC_ok .nil (.nil) mixed Tryz.func171 rfl (goes_of Tryz.func171 (by kernel_rfl) rfl)
def jAdd : Inl := inlM Tryz.prog spC [] [] Tryz.f85
theorem jAdd_ok : InlOK Tryz.prog 85 jAdd := inlM_ok spC_ok .nil (.nil) mixed Tryz.func85 rfl (goes_of Tryz.func85 (by kernel_rfl) rfl)
def jRun83 : Inl := inlM Tryz.prog spC [] [] Tryz.f83
theorem jRun83_ok : InlOK Tryz.prog 83 jRun83 := inlM_ok spC_ok .nil (.nil) mixed Tryz.func83 rfl (goes_of Tryz.func83 (by kernel_rfl) rfl)
def jNeeds : Inl := inlM Tryz.prog spC [] [(83, jRun83)] Tryz.f167
theorem jNeeds_ok : InlOK Tryz.prog 167 jNeeds := inlM_ok spC_ok .nil (.cons jRun83_ok (.nil)) mixed Tryz.func167 rfl (goes_of Tryz.func167 (by kernel_rfl) rfl)
def jFetch : Inl := inlM Tryz.prog spC [] [(167, jNeeds), (58, iRCopF), (57, iRtl), (176, jGood), (190, jWR), (189, jFW)] Tryz.f169
theorem jFetch_ok : InlOK Tryz.prog 169 jFetch := inlM_ok spC_ok .nil (.cons jNeeds_ok (.cons iRCopF_ok (.cons iRtl_ok (.cons jGood_ok (.cons jWR_ok (.cons jFW_ok (.nil))))))) mixed Tryz.func169 rfl (goes_of Tryz.func169 (by kernel_rfl) rfl)
def jStore : Inl := inlM Tryz.prog spC [] [(83, jRun83), (58, iRCopF), (57, iRtl), (87, jWW)] Tryz.f39
theorem jStore_ok : InlOK Tryz.prog 39 jStore := inlM_ok spC_ok .nil (.cons jRun83_ok (.cons iRCopF_ok (.cons iRtl_ok (.cons jWW_ok (.nil))))) mixed Tryz.func39 rfl (goes_of Tryz.func39 (by kernel_rfl) rfl)
def jCalc : Inl := inlM Tryz.prog spC [] [(83, jRun83), (58, iRCopF), (85, jAdd)] Tryz.f34
theorem jCalc_ok : InlOK Tryz.prog 34 jCalc := inlM_ok spC_ok .nil (.cons jRun83_ok (.cons iRCopF_ok (.cons jAdd_ok (.nil)))) mixed Tryz.func34 rfl (goes_of Tryz.func34 (by kernel_rfl) rfl)
def jRun : Inl := inlM Tryz.prog spC [] [(83, jRun83), (167, jNeeds), (169, jFetch), (39, jStore), (34, jCalc), (58, iRCopF), (171, jWA)] Tryz.f128
theorem jRun_ok : InlOK Tryz.prog 128 jRun := inlM_ok spC_ok .nil (.cons jRun83_ok (.cons jNeeds_ok (.cons jFetch_ok (.cons jStore_ok (.cons jCalc_ok (.cons iRCopF_ok (.cons jWA_ok (.nil)))))))) mixed Tryz.func128 rfl (goes_of Tryz.func128 (by kernel_rfl) rfl)
end

section
set_option maxHeartbeats 2000000
open Go Go.Proofs
set_option linter.unusedSimpArgs false
set_option linter.unusedVariables false
set_option maxRecDepth 100000
theorem ins_ok {s : SesD} (hs : okSes s = true) (h0 : 0 ≤ s.pc) (h1 : s.pc < s.pg.length) : iOK s = true := by
  unfold okSes at hs
  simp only [Bool.and_eq_true] at hs
  obtain ⟨e, w, _⟩ := okZ_spec hs.1
  have hk : s.pc.toNat < (toZ s.pg).length := by rw [toZ_len]; omega
  unfold iOK
  rw [e]
  exact isJ_mZ (j := 0) (n := 4) w hk (by omega)
theorem ins_eq {s : SesD} (hs : okSes s = true) : iC s = ((toZ s.pg).getD s.pc.toNat []).getD 0 0 ∧ iA s = ((toZ s.pg).getD s.pc.toNat []).getD 1 0 ∧ iB s = ((toZ s.pg).getD s.pc.toNat []).getD 2 0 ∧ iD s = ((toZ s.pg).getD s.pc.toNat []).getD 3 0 := by
  unfold okSes at hs
  simp only [Bool.and_eq_true] at hs
  obtain ⟨e, w, _⟩ := okZ_spec hs.1
  have key : ∀ j, hdJ (List.drop j (List.getD s.pg (Int.toNat s.pc) [])) = ((toZ s.pg).getD s.pc.toNat []).getD j 0 := fun j => by
    conv => lhs; rw [e]
    exact hdJ_mZ _ _ j
  unfold iC iA iB iD
  refine ⟨key 0, ?_, ?_, ?_⟩
  · rw [← key 1]; simp [List.drop_one]
  · rw [← key 2]; simp [List.tail_drop, ← List.drop_one]
  · rw [← key 3]; simp [List.tail_drop, ← List.drop_one]
theorem ins_may {s : SesD} (hs : okSes s = true) {R0 R1 R2 R3 : List (List D)} (hm : sesMay R0 R1 R2 R3 s = true) (h1 : s.pc < s.pg.length) : imay (iC s) (iA s) (iB s) (iD s) = true ∧ (iC s = 4 → s.pc < iB s ∧ iB s ≤ s.pg.length) := by
  obtain ⟨e1, e2, e3, e4⟩ := ins_eq hs
  have h0 := (sesMay_pc hm).1
  unfold sesMay smay at hm
  simp only [Bool.and_eq_true] at hm
  have hp := hm.1.2.2.2.2
  unfold pmay pmayN at hp
  simp only [Bool.and_eq_true, List.all_eq_true, List.mem_range] at hp
  have := hp.1 s.pc.toNat (by rw [toZ_len]; omega)
  unfold pI imayR at this
  rw [← e1, ← e2, ← e3, ← e4] at this
  simp only [Bool.and_eq_true, Bool.not_eq_true', Bool.and_eq_false_iff, Bool.or_eq_false_iff, beq_eq_false_iff_ne, decide_eq_false_iff_not] at this
  refine ⟨this.1, fun h4 => ?_⟩
  rcases this.2 with h | h
  · exact (h h4).elim
  · rw [toZ_len] at h; omega
theorem wrap1 {n : Int} (h0 : 0 ≤ n) (h1 : n ≤ 1000000) : IntKind.wrap IntKind.i64 (n + 1) = n + 1 := by
  obtain ⟨m, rfl⟩ := Int.eq_ofNat_of_zero_le h0
  exact wrap_nat (n := 1) (by omega)
def regAt (s : SesD) (a : Int) : Int := bif decide (a = 0) then s.r0 else bif decide (a = 1) then s.r1 else bif decide (a = 2) then s.r2 else s.r3
def SesD.regs (s : SesD) (n : N5) (to : Int) : SesD := { s with r0 := n.a, r1 := n.b, r2 := n.c, r3 := n.d, pc := to }
def calcS (s : SesD) : SesD :=
  bif iC s == 0 then s.regs (setR s.r0 s.r1 s.r2 s.r3 (iA s) (iB s)) (s.pc + 1)
  else bif iC s == 1 then s.regs (addR s.r0 s.r1 s.r2 s.r3 (iA s) (iB s)) (s.pc + 1)
  else bif regAt s (iA s) == 0 then { s with pc := iB s } else { s with pc := s.pc + 1 }
theorem eCalc (h : Mh) (ss : List SesD) (s : SesD) (i : Int) (t : Bool) (K : DV → Prop) : (askW Tryz.prog (hkF [(80, sAtD [.c (.p 0 (macL 0 h ss) 0), I i, .c (.s 0 1 [[vi 0], [vi 1], [vi 4]] [])] (B t)), (81, sSet), (82, sAdd)] [] [(53, iCpF t h ss i s)]) Tryz.f33 [.agg (macL 0 h ss), I i] K) = ([DV.c (D.p (0) (macL (0) h ss) (0)), I i, DV.c (D.s (0) (1) [[vi (0)], [vi (1)], [vi (4)]] [])] = [DV.c (D.p (0) (macL (0) h ss) (0)), I i, DV.c (D.s (0) (1) [[vi (0)], [vi (1)], [vi (4)]] [])] ∧ bif !t then K (DV.tup [DV.agg mac0, I (1700)]) else t = true ∧ [DV.agg (macL (0) h ss)] = [DV.agg (macL (0) h ss)] ∧ sesAt (List.map (sesL (1)) ss) (Int.toNat i) (1) s ∧ bif decide (0 ≤ i) && decide (i < @Nat.cast Int _ (List.length (List.map (sesL (1)) ss))) then foAt (addN (0) (Int.toNat i)) (Int.toNat i) (List.length (List.map (sesL (1)) ss)) ∧ foAt (addN (0) (Int.toNat i)) (Int.toNat i) (List.length (List.map (sesL (1)) ss)) ∧ bif decide (0 ≤ s.pc) && decide (s.pc < @Nat.cast Int _ (List.length s.pg)) then bif iOK s then foAt (addN (0) (Int.toNat i)) (Int.toNat i) (List.length (List.map (sesL (1)) ss)) ∧ foAt (addN (0) (Int.toNat i)) (Int.toNat i) (List.length (List.map (sesL (1)) ss)) ∧ bif iC s == 0 then foAt (addN (0) (Int.toNat i)) (Int.toNat i) (List.length (List.map (sesL (1)) ss)) ∧ foAt (addN (0) (Int.toNat i)) (Int.toNat i) (List.length (List.map (sesL (1)) ss)) ∧ whole (List.length h.w0) h.w0 ∧ whole (List.length h.w1) h.w1 ∧ whole (List.length h.w2) h.w2 ∧ whole (List.length h.w3) h.w3 ∧ whole (List.length (List.map (sesL (1)) ss)) (List.set (List.map (sesL (1)) ss) (Int.toNat i) (sesL (1) { s with pc := (IntKind.wrap IntKind.i64 (s.pc + 1)), r0 := (setR s.r0 s.r1 s.r2 s.r3 (iA s) (iB s)).a, r1 := (setR s.r0 s.r1 s.r2 s.r3 (iA s) (iB s)).b, r2 := (setR s.r0 s.r1 s.r2 s.r3 (iA s) (iB s)).c, r3 := (setR s.r0 s.r1 s.r2 s.r3 (iA s) (iB s)).d })) ∧ whole (List.length h.tr) h.tr ∧ K (DV.tup [DV.agg (macLR (1) h (List.set (List.map (sesL (1)) ss) (Int.toNat i) (sesL (1) { s with pc := (IntKind.wrap IntKind.i64 (s.pc + 1)), r0 := (setR s.r0 s.r1 s.r2 s.r3 (iA s) (iB s)).a, r1 := (setR s.r0 s.r1 s.r2 s.r3 (iA s) (iB s)).b, r2 := (setR s.r0 s.r1 s.r2 s.r3 (iA s) (iB s)).c, r3 := (setR s.r0 s.r1 s.r2 s.r3 (iA s) (iB s)).d }))), I (0)]) else bif iC s == 1 then foAt (addN (0) (Int.toNat i)) (Int.toNat i) (List.length (List.map (sesL (1)) ss)) ∧ foAt (addN (0) (Int.toNat i)) (Int.toNat i) (List.length (List.map (sesL (1)) ss)) ∧ whole (List.length h.w0) h.w0 ∧ whole (List.length h.w1) h.w1 ∧ whole (List.length h.w2) h.w2 ∧ whole (List.length h.w3) h.w3 ∧ whole (List.length (List.map (sesL (1)) ss)) (List.set (List.map (sesL (1)) ss) (Int.toNat i) (sesL (1) { s with pc := (IntKind.wrap IntKind.i64 (s.pc + 1)), r0 := (addR s.r0 s.r1 s.r2 s.r3 (iA s) (iB s)).a, r1 := (addR s.r0 s.r1 s.r2 s.r3 (iA s) (iB s)).b, r2 := (addR s.r0 s.r1 s.r2 s.r3 (iA s) (iB s)).c, r3 := (addR s.r0 s.r1 s.r2 s.r3 (iA s) (iB s)).d })) ∧ whole (List.length h.tr) h.tr ∧ K (DV.tup [DV.agg (macLR (1) h (List.set (List.map (sesL (1)) ss) (Int.toNat i) (sesL (1) { s with pc := (IntKind.wrap IntKind.i64 (s.pc + 1)), r0 := (addR s.r0 s.r1 s.r2 s.r3 (iA s) (iB s)).a, r1 := (addR s.r0 s.r1 s.r2 s.r3 (iA s) (iB s)).b, r2 := (addR s.r0 s.r1 s.r2 s.r3 (iA s) (iB s)).c, r3 := (addR s.r0 s.r1 s.r2 s.r3 (iA s) (iB s)).d }))), I (0)]) else bif decide (iA s = 0) then foAt (addN (0) (Int.toNat i)) (Int.toNat i) (List.length (List.map (sesL (1)) ss)) ∧ bif s.r0 == 0 then foAt (addN (0) (Int.toNat i)) (Int.toNat i) (List.length (List.map (sesL (1)) ss)) ∧ whole (List.length h.w0) h.w0 ∧ whole (List.length h.w1) h.w1 ∧ whole (List.length h.w2) h.w2 ∧ whole (List.length h.w3) h.w3 ∧ whole (List.length (List.map (sesL (1)) ss)) (List.set (List.map (sesL (1)) ss) (Int.toNat i) (sesL (1) { s with pc := (iB s) })) ∧ whole (List.length h.tr) h.tr ∧ K (DV.tup [DV.agg (macLR (1) h (List.set (List.map (sesL (1)) ss) (Int.toNat i) (sesL (1) { s with pc := (iB s) }))), I (0)]) else whole (List.length h.w0) h.w0 ∧ whole (List.length h.w1) h.w1 ∧ whole (List.length h.w2) h.w2 ∧ whole (List.length h.w3) h.w3 ∧ whole (List.length (List.map (sesL (1)) ss)) (List.set (List.map (sesL (1)) ss) (Int.toNat i) (sesL (1) { s with pc := (IntKind.wrap IntKind.i64 (s.pc + 1)) })) ∧ whole (List.length h.tr) h.tr ∧ K (DV.tup [DV.agg (macLR (1) h (List.set (List.map (sesL (1)) ss) (Int.toNat i) (sesL (1) { s with pc := (IntKind.wrap IntKind.i64 (s.pc + 1)) }))), I (0)]) else bif decide (iA s = 1) then foAt (addN (0) (Int.toNat i)) (Int.toNat i) (List.length (List.map (sesL (1)) ss)) ∧ bif s.r1 == 0 then foAt (addN (0) (Int.toNat i)) (Int.toNat i) (List.length (List.map (sesL (1)) ss)) ∧ whole (List.length h.w0) h.w0 ∧ whole (List.length h.w1) h.w1 ∧ whole (List.length h.w2) h.w2 ∧ whole (List.length h.w3) h.w3 ∧ whole (List.length (List.map (sesL (1)) ss)) (List.set (List.map (sesL (1)) ss) (Int.toNat i) (sesL (1) { s with pc := (iB s) })) ∧ whole (List.length h.tr) h.tr ∧ K (DV.tup [DV.agg (macLR (1) h (List.set (List.map (sesL (1)) ss) (Int.toNat i) (sesL (1) { s with pc := (iB s) }))), I (0)]) else whole (List.length h.w0) h.w0 ∧ whole (List.length h.w1) h.w1 ∧ whole (List.length h.w2) h.w2 ∧ whole (List.length h.w3) h.w3 ∧ whole (List.length (List.map (sesL (1)) ss)) (List.set (List.map (sesL (1)) ss) (Int.toNat i) (sesL (1) { s with pc := (IntKind.wrap IntKind.i64 (s.pc + 1)) })) ∧ whole (List.length h.tr) h.tr ∧ K (DV.tup [DV.agg (macLR (1) h (List.set (List.map (sesL (1)) ss) (Int.toNat i) (sesL (1) { s with pc := (IntKind.wrap IntKind.i64 (s.pc + 1)) }))), I (0)]) else bif decide (iA s = 2) then foAt (addN (0) (Int.toNat i)) (Int.toNat i) (List.length (List.map (sesL (1)) ss)) ∧ bif s.r2 == 0 then foAt (addN (0) (Int.toNat i)) (Int.toNat i) (List.length (List.map (sesL (1)) ss)) ∧ whole (List.length h.w0) h.w0 ∧ whole (List.length h.w1) h.w1 ∧ whole (List.length h.w2) h.w2 ∧ whole (List.length h.w3) h.w3 ∧ whole (List.length (List.map (sesL (1)) ss)) (List.set (List.map (sesL (1)) ss) (Int.toNat i) (sesL (1) { s with pc := (iB s) })) ∧ whole (List.length h.tr) h.tr ∧ K (DV.tup [DV.agg (macLR (1) h (List.set (List.map (sesL (1)) ss) (Int.toNat i) (sesL (1) { s with pc := (iB s) }))), I (0)]) else whole (List.length h.w0) h.w0 ∧ whole (List.length h.w1) h.w1 ∧ whole (List.length h.w2) h.w2 ∧ whole (List.length h.w3) h.w3 ∧ whole (List.length (List.map (sesL (1)) ss)) (List.set (List.map (sesL (1)) ss) (Int.toNat i) (sesL (1) { s with pc := (IntKind.wrap IntKind.i64 (s.pc + 1)) })) ∧ whole (List.length h.tr) h.tr ∧ K (DV.tup [DV.agg (macLR (1) h (List.set (List.map (sesL (1)) ss) (Int.toNat i) (sesL (1) { s with pc := (IntKind.wrap IntKind.i64 (s.pc + 1)) }))), I (0)]) else bif decide (iA s = 3) then foAt (addN (0) (Int.toNat i)) (Int.toNat i) (List.length (List.map (sesL (1)) ss)) ∧ bif s.r3 == 0 then foAt (addN (0) (Int.toNat i)) (Int.toNat i) (List.length (List.map (sesL (1)) ss)) ∧ whole (List.length h.w0) h.w0 ∧ whole (List.length h.w1) h.w1 ∧ whole (List.length h.w2) h.w2 ∧ whole (List.length h.w3) h.w3 ∧ whole (List.length (List.map (sesL (1)) ss)) (List.set (List.map (sesL (1)) ss) (Int.toNat i) (sesL (1) { s with pc := (iB s) })) ∧ whole (List.length h.tr) h.tr ∧ K (DV.tup [DV.agg (macLR (1) h (List.set (List.map (sesL (1)) ss) (Int.toNat i) (sesL (1) { s with pc := (iB s) }))), I (0)]) else whole (List.length h.w0) h.w0 ∧ whole (List.length h.w1) h.w1 ∧ whole (List.length h.w2) h.w2 ∧ whole (List.length h.w3) h.w3 ∧ whole (List.length (List.map (sesL (1)) ss)) (List.set (List.map (sesL (1)) ss) (Int.toNat i) (sesL (1) { s with pc := (IntKind.wrap IntKind.i64 (s.pc + 1)) })) ∧ whole (List.length h.tr) h.tr ∧ K (DV.tup [DV.agg (macLR (1) h (List.set (List.map (sesL (1)) ss) (Int.toNat i) (sesL (1) { s with pc := (IntKind.wrap IntKind.i64 (s.pc + 1)) }))), I (0)]) else False else False else False else False) := by kernel_rfl
theorem at_cpF {p : Int → Bool} {h : Mh} {ss : List SesD} (i : Int) (hok : okM h ss = true) : mAt p h ss i = true → smM h ss = true ∧ ss.length ≤ 4 := fun hm => by
  unfold mAt at hm
  rw [Bool.and_eq_true] at hm
  exact there_cpF i hok hm.1
theorem mAt_spec {p : Int → Bool} {h : Mh} {ss : List SesD} {i : Int} (hok : okM h ss = true) (hm : mAt p h ss i = true) : ∃ s, Foc h ss i s ∧ s.st = 0 ∧ 0 ≤ s.pc ∧ s.pc < s.pg.length ∧ s.pg.length ≤ 16 ∧ p (iC s) = true := by
  unfold mAt at hm
  rw [Bool.and_eq_true] at hm
  obtain ⟨s, f⟩ := foc hok hm.1
  have h2 := hm.2
  rw [f.at'] at h2
  simp only [atS, Bool.and_eq_true, decide_eq_true_eq, beq_iff_eq] at h2
  refine ⟨s, f, h2.1, (sesMay_pc f.may).1, h2.2.1, ?_, ?_⟩
  · have := f.may
    unfold sesMay smay at this
    simp only [Bool.and_eq_true] at this
    have := pmay_len this.1.2.2.2.2
    rwa [toZ_len] at this
  · have := h2.2.2
    unfold codeAt at this
    unfold iC
    rw [List.drop_zero]; exact this
theorem has3_spec {a b c x : Int} (h : has3 a b c x = true) : x = a ∨ x = b ∨ x = c := by
  unfold has3 at h
  cases h1 : x == a
  · cases h2 : x == b
    · cases h3 : x == c
      · simp [h1, h2, h3] at h
      · exact .inr (.inr (by simpa using h3))
    · exact .inr (.inl (by simpa using h2))
  · exact .inl (by simpa using h1)
theorem cCalc (h : Mh) (ss : List SesD) (i : Int) (hok : okM h ss = true) : CT Tryz.prog 33 [.agg (macL 0 h ss), I i] (bif mAt (has3 0 1 4) h ss i then macR h (ss.set i.toNat (calcS (ss.getD i.toNat default))) 0 else macE 1700) := by
  refine ct_wF (.cons (oAtD gAt (cAt3 h ss i 0 1 4 hok) rfl rfl) (.cons oRSet (.cons oRAdd .nil))) .nil (.cons (iCpF_ok i (ss.getD i.toNat default) (at_cpF (p := has3 0 1 4) i hok)) .nil) mixed Tryz.func33 rfl rfl rfl ?_
  rw [eCalc]
  refine ⟨⟨rfl, ?_⟩⟩
  cases hm : mAt (has3 0 1 4) h ss i with
  | false => exact al_e0 1700
  | true =>
    obtain ⟨s, f, hst, hp0, hp1, hp2, hcode⟩ := mAt_spec hok hm
    rw [f.getD]
    refine ⟨rfl, rfl, f.row, ?_⟩
    have hpc : (decide (0 ≤ s.pc) && decide (s.pc < @Nat.cast Int _ (List.length s.pg))) = true := by rw [decide_eq_true hp0, decide_eq_true hp1]; rfl
    have hw : IntKind.wrap IntKind.i64 (s.pc + 1) = s.pc + 1 := wrap1 hp0 (by omega)
    obtain ⟨hmay, hz⟩ := ins_may f.ok f.may hp1
    simp only [f.ix, cond_true, f.foAt, true_and, hpc, ins_ok f.ok hp0 hp1, hw]
    have fin : ∀ s', whole (List.length h.w0) h.w0 ∧ whole (List.length h.w1) h.w1 ∧ whole (List.length h.w2) h.w2 ∧ whole (List.length h.w3) h.w3 ∧ whole (List.length (List.map (sesL 1) ss)) (List.set (List.map (sesL 1) ss) (Int.toNat i) (sesL 1 s')) ∧ whole (List.length h.tr) h.tr ∧ AL (DV.tup [DV.agg (macLR 1 h (List.set (List.map (sesL 1) ss) (Int.toNat i) (sesL 1 s'))), I 0]) (macR h (ss.set i.toNat s') 0) := fun s' => ⟨f.ow0, f.ow1, f.ow2, f.ow3, f.oss _ _, f.otr, al_macR _ _ _ _ _⟩
    unfold calcS
    cases h0 : iC s == 0
    · cases h1 : iC s == 1
      · have h4 : iC s = 4 := by
          rcases has3_spec hcode with h | h | h
          · rw [h] at h0; cases h0
          · rw [h] at h1; cases h1
          · exact h
        have hA : iA s = 0 ∨ iA s = 1 ∨ iA s = 2 ∨ iA s = 3 := by
          unfold imay at hmay
          rw [h4] at hmay
          have : lab (iA s) = true := by simpa [Bool.and_eq_true] using (by simp at hmay; exact hmay.1 : lab (iA s) = true)
          exact lab_cases this
        unfold regAt
        rcases hA with e | e | e | e <;> rw [e] <;> simp only [Int.reduceEq, decide_true, decide_false, cond_true, cond_false] <;> first
          | (cases s.r0 == 0 <;> exact fin _)
          | (cases s.r1 == 0 <;> exact fin _)
          | (cases s.r2 == 0 <;> exact fin _)
          | (cases s.r3 == 0 <;> exact fin _)
      · exact fin _
    · exact fin _
end

section
set_option maxHeartbeats 2000000
open Go Go.Proofs
set_option linter.unusedSimpArgs false
set_option linter.unusedVariables false
set_option maxRecDepth 100000
theorem regAt0 (s : SesD) : regAt s 0 = s.r0 := rfl
theorem regAt1 (s : SesD) : regAt s 1 = s.r1 := rfl
theorem regAt2 (s : SesD) : regAt s 2 = s.r2 := rfl
theorem regAt3 (s : SesD) : regAt s 3 = s.r3 := rfl
theorem okSes_z {s : SesD} (h : okSes s = true) : okZ 4 s.pg = true ∧ okZ 3 s.rd = true ∧ okZ 3 s.wt = true := by
  unfold okSes at h; simpa [Bool.and_eq_true] using h
end

section
set_option maxHeartbeats 2000000
open Go Go.Proofs
set_option linter.unusedSimpArgs false
set_option linter.unusedVariables false
set_option maxRecDepth 100000
def bB : SesD := ⟨5, 1, 1, [[vN 2, vN 0, vN 0, vN 1], [vN 3, vN 0, vN 1, vN 0]], 0, 0, 0, 0, 0, 0, [], [], 0, 0, 0, 0, 0⟩
def bA0 : SesD := ⟨3, 0, 3, [[vN 2, vN 0, vN 0, vN 0], [vN 1, vN 0, vN 0, vN 0], [vN 3, vN 0, vN 0, vN 0]], 0, 0, 0, 0, 0, 0, [], [], 0, 0, 0, 0, 0⟩
def bH0 : Mh := ⟨[[vN 5, vN 0, vN 0], [vN 6, vN 0, vN 0]], [[vN 7, vN 0, vN 0]], [], [[vN 9, vN 0, vN 0]], 0, 0, 0, 0, 9, []⟩
def bA1 : SesD := ⟨3, 0, 3, [[vN 2, vN 0, vN 0, vN 0], [vN 1, vN 0, vN 0, vN 0], [vN 3, vN 0, vN 0, vN 0]], 0, 1, 5, 0, 0, 0, [[vN 0, vN 0, vN 0]], [], 0, 0, 0, 0, 0⟩
def bH1 : Mh := ⟨[[vN 5, vN 0, vN 0], [vN 6, vN 0, vN 0]], [[vN 7, vN 0, vN 0]], [], [[vN 9, vN 0, vN 0]], 0, 0, 0, 0, 9, [[vN 3, vN 0, vN 0, vN 5]]⟩
def bA2 : SesD := ⟨3, 0, 3, [[vN 2, vN 0, vN 0, vN 0], [vN 1, vN 0, vN 0, vN 0], [vN 3, vN 0, vN 0, vN 0]], 0, 2, 10, 0, 0, 0, [[vN 0, vN 0, vN 0]], [], 0, 0, 0, 0, 0⟩
def bH2 : Mh := ⟨[[vN 5, vN 0, vN 0], [vN 6, vN 0, vN 0]], [[vN 7, vN 0, vN 0]], [], [[vN 9, vN 0, vN 0]], 0, 0, 0, 0, 9, [[vN 3, vN 0, vN 0, vN 5]]⟩
def bA3 : SesD := ⟨3, 0, 3, [[vN 2, vN 0, vN 0, vN 0], [vN 1, vN 0, vN 0, vN 0], [vN 3, vN 0, vN 0, vN 0]], 0, 3, 10, 0, 0, 0, [[vN 0, vN 0, vN 0]], [[vN 0, vN 0, vN 10]], 0, 0, 0, 0, 0⟩
def bH3 : Mh := ⟨[[vN 5, vN 0, vN 0], [vN 6, vN 0, vN 0]], [[vN 7, vN 0, vN 0]], [], [[vN 9, vN 0, vN 0]], 0, 0, 0, 0, 9, [[vN 3, vN 0, vN 0, vN 5], [vN 3, vN 0, vN 1, vN 10]]⟩
def bA4 : SesD := ⟨3, 0, 3, [[vN 2, vN 0, vN 0, vN 0], [vN 1, vN 0, vN 0, vN 0], [vN 3, vN 0, vN 0, vN 0]], 1, 3, 10, 0, 0, 0, [[vN 0, vN 0, vN 0]], [[vN 0, vN 0, vN 10]], 0, 0, 0, 0, 0⟩
def bH4 : Mh := ⟨[[vN 5, vN 0, vN 0], [vN 6, vN 0, vN 0]], [[vN 7, vN 0, vN 0]], [], [[vN 9, vN 0, vN 0]], 0, 0, 0, 0, 9, [[vN 3, vN 0, vN 0, vN 5], [vN 3, vN 0, vN 1, vN 10]]⟩
theorem eSt1 (K : DV → Prop) : (askH Tryz.prog (hkM spC [] [(58, iRCopF), (128, jRun)]) Tryz.f79 [.agg [D.s 0 3 [[D.v (Value.int IntKind.i64 5), D.v (Value.int IntKind.i64 0), D.v (Value.int IntKind.i64 0)], [D.v (Value.int IntKind.i64 6), D.v (Value.int IntKind.i64 0), D.v (Value.int IntKind.i64 0)]] [], D.s 0 3 [[D.v (Value.int IntKind.i64 7), D.v (Value.int IntKind.i64 0), D.v (Value.int IntKind.i64 0)]] [], D.s 0 3 [] [], D.s 0 3 [[D.v (Value.int IntKind.i64 9), D.v (Value.int IntKind.i64 0), D.v (Value.int IntKind.i64 0)]] [], D.v (Value.int IntKind.i64 0), D.v (Value.int IntKind.i64 0), D.v (Value.int IntKind.i64 0), D.v (Value.int IntKind.i64 0), D.v (Value.int IntKind.i64 9), D.s 0 17 [[D.v (Value.int IntKind.i64 3), D.v (Value.int IntKind.i64 0), D.v (Value.int IntKind.i64 3), D.s 0 4 [[D.v (Value.int IntKind.i64 2), D.v (Value.int IntKind.i64 0), D.v (Value.int IntKind.i64 0), D.v (Value.int IntKind.i64 0)], [D.v (Value.int IntKind.i64 1), D.v (Value.int IntKind.i64 0), D.v (Value.int IntKind.i64 0), D.v (Value.int IntKind.i64 0)], [D.v (Value.int IntKind.i64 3), D.v (Value.int IntKind.i64 0), D.v (Value.int IntKind.i64 0), D.v (Value.int IntKind.i64 0)]] [], D.v (Value.int IntKind.i64 0), D.v (Value.int IntKind.i64 0), D.v (Value.int IntKind.i64 0), D.v (Value.int IntKind.i64 0), D.v (Value.int IntKind.i64 0), D.v (Value.int IntKind.i64 0), D.s 0 3 [] [], D.s 0 3 [] [], D.v (Value.int IntKind.i64 0), D.v (Value.int IntKind.i64 0), D.v (Value.int IntKind.i64 0), D.v (Value.int IntKind.i64 0), D.v (Value.int IntKind.i64 0)], [D.v (Value.int IntKind.i64 5), D.v (Value.int IntKind.i64 1), D.v (Value.int IntKind.i64 1), D.s 0 4 [[D.v (Value.int IntKind.i64 2), D.v (Value.int IntKind.i64 0), D.v (Value.int IntKind.i64 0), D.v (Value.int IntKind.i64 1)], [D.v (Value.int IntKind.i64 3), D.v (Value.int IntKind.i64 0), D.v (Value.int IntKind.i64 1), D.v (Value.int IntKind.i64 0)]] [], D.v (Value.int IntKind.i64 0), D.v (Value.int IntKind.i64 0), D.v (Value.int IntKind.i64 0), D.v (Value.int IntKind.i64 0), D.v (Value.int IntKind.i64 0), D.v (Value.int IntKind.i64 0), D.s 0 3 [] [], D.s 0 3 [] [], D.v (Value.int IntKind.i64 0), D.v (Value.int IntKind.i64 0), D.v (Value.int IntKind.i64 0), D.v (Value.int IntKind.i64 0), D.v (Value.int IntKind.i64 0)]] [], D.s 0 4 [] []], I 0] K) = (K (DV.tup [DV.agg (macLR (1) ⟨[[vN (5), vN (0), vN (0)], [vN (6), vN (0), vN (0)]], [[vN (7), vN (0), vN (0)]], [], [[vN (9), vN (0), vN (0)]], (0), (0), (0), (0), (9), [[vN (3), vN (0), vN (0), vN (5)]]⟩ [(sesL (1) ⟨(3), (0), (3), [[vN (2), vN (0), vN (0), vN (0)], [vN (1), vN (0), vN (0), vN (0)], [vN (3), vN (0), vN (0), vN (0)]], (0), (1), (5), (0), (0), (0), [[vN (0), vN (0), vN (0)]], [], (0), (0), (0), (0), (0)⟩), (sesL (1) ⟨(5), (1), (1), [[vN (2), vN (0), vN (0), vN (1)], [vN (3), vN (0), vN (1), vN (0)]], (0), (0), (0), (0), (0), (0), [], [], (0), (0), (0), (0), (0)⟩)]), I (0)])) := by kernel_rfl
theorem cSt1 : CT Tryz.prog 79 [.agg (macL 0 bH0 [bA0, bB]), I 0] (macR bH1 [bA1, bB] 0) := by
  have e : macL 0 bH0 [bA0, bB] = [D.s 0 3 [[D.v (Value.int IntKind.i64 5), D.v (Value.int IntKind.i64 0), D.v (Value.int IntKind.i64 0)], [D.v (Value.int IntKind.i64 6), D.v (Value.int IntKind.i64 0), D.v (Value.int IntKind.i64 0)]] [], D.s 0 3 [[D.v (Value.int IntKind.i64 7), D.v (Value.int IntKind.i64 0), D.v (Value.int IntKind.i64 0)]] [], D.s 0 3 [] [], D.s 0 3 [[D.v (Value.int IntKind.i64 9), D.v (Value.int IntKind.i64 0), D.v (Value.int IntKind.i64 0)]] [], D.v (Value.int IntKind.i64 0), D.v (Value.int IntKind.i64 0), D.v (Value.int IntKind.i64 0), D.v (Value.int IntKind.i64 0), D.v (Value.int IntKind.i64 9), D.s 0 17 [[D.v (Value.int IntKind.i64 3), D.v (Value.int IntKind.i64 0), D.v (Value.int IntKind.i64 3), D.s 0 4 [[D.v (Value.int IntKind.i64 2), D.v (Value.int IntKind.i64 0), D.v (Value.int IntKind.i64 0), D.v (Value.int IntKind.i64 0)], [D.v (Value.int IntKind.i64 1), D.v (Value.int IntKind.i64 0), D.v (Value.int IntKind.i64 0), D.v (Value.int IntKind.i64 0)], [D.v (Value.int IntKind.i64 3), D.v (Value.int IntKind.i64 0), D.v (Value.int IntKind.i64 0), D.v (Value.int IntKind.i64 0)]] [], D.v (Value.int IntKind.i64 0), D.v (Value.int IntKind.i64 0), D.v (Value.int IntKind.i64 0), D.v (Value.int IntKind.i64 0), D.v (Value.int IntKind.i64 0), D.v (Value.int IntKind.i64 0), D.s 0 3 [] [], D.s 0 3 [] [], D.v (Value.int IntKind.i64 0), D.v (Value.int IntKind.i64 0), D.v (Value.int IntKind.i64 0), D.v (Value.int IntKind.i64 0), D.v (Value.int IntKind.i64 0)], [D.v (Value.int IntKind.i64 5), D.v (Value.int IntKind.i64 1), D.v (Value.int IntKind.i64 1), D.s 0 4 [[D.v (Value.int IntKind.i64 2), D.v (Value.int IntKind.i64 0), D.v (Value.int IntKind.i64 0), D.v (Value.int IntKind.i64 1)], [D.v (Value.int IntKind.i64 3), D.v (Value.int IntKind.i64 0), D.v (Value.int IntKind.i64 1), D.v (Value.int IntKind.i64 0)]] [], D.v (Value.int IntKind.i64 0), D.v (Value.int IntKind.i64 0), D.v (Value.int IntKind.i64 0), D.v (Value.int IntKind.i64 0), D.v (Value.int IntKind.i64 0), D.v (Value.int IntKind.i64 0), D.s 0 3 [] [], D.s 0 3 [] [], D.v (Value.int IntKind.i64 0), D.v (Value.int IntKind.i64 0), D.v (Value.int IntKind.i64 0), D.v (Value.int IntKind.i64 0), D.v (Value.int IntKind.i64 0)]] [], D.s 0 4 [] []] := rfl
  rw [e]
  refine ct_m spC_ok .nil (.cons iRCopF_ok (.cons jRun_ok .nil)) mixed Tryz.func79 rfl rfl rfl ?_
  rw [eSt1]
  exact ⟨rfl⟩
theorem eSt2 (K : DV → Prop) : (askH Tryz.prog (hkM spC [] [(58, iRCopF), (128, jRun)]) Tryz.f79 [.agg [D.s 0 3 [[D.v (Value.int IntKind.i64 5), D.v (Value.int IntKind.i64 0), D.v (Value.int IntKind.i64 0)], [D.v (Value.int IntKind.i64 6), D.v (Value.int IntKind.i64 0), D.v (Value.int IntKind.i64 0)]] [], D.s 0 3 [[D.v (Value.int IntKind.i64 7), D.v (Value.int IntKind.i64 0), D.v (Value.int IntKind.i64 0)]] [], D.s 0 3 [] [], D.s 0 3 [[D.v (Value.int IntKind.i64 9), D.v (Value.int IntKind.i64 0), D.v (Value.int IntKind.i64 0)]] [], D.v (Value.int IntKind.i64 0), D.v (Value.int IntKind.i64 0), D.v (Value.int IntKind.i64 0), D.v (Value.int IntKind.i64 0), D.v (Value.int IntKind.i64 9), D.s 0 17 [[D.v (Value.int IntKind.i64 3), D.v (Value.int IntKind.i64 0), D.v (Value.int IntKind.i64 3), D.s 0 4 [[D.v (Value.int IntKind.i64 2), D.v (Value.int IntKind.i64 0), D.v (Value.int IntKind.i64 0), D.v (Value.int IntKind.i64 0)], [D.v (Value.int IntKind.i64 1), D.v (Value.int IntKind.i64 0), D.v (Value.int IntKind.i64 0), D.v (Value.int IntKind.i64 0)], [D.v (Value.int IntKind.i64 3), D.v (Value.int IntKind.i64 0), D.v (Value.int IntKind.i64 0), D.v (Value.int IntKind.i64 0)]] [], D.v (Value.int IntKind.i64 0), D.v (Value.int IntKind.i64 1), D.v (Value.int IntKind.i64 5), D.v (Value.int IntKind.i64 0), D.v (Value.int IntKind.i64 0), D.v (Value.int IntKind.i64 0), D.s 0 3 [[D.v (Value.int IntKind.i64 0), D.v (Value.int IntKind.i64 0), D.v (Value.int IntKind.i64 0)]] [], D.s 0 3 [] [], D.v (Value.int IntKind.i64 0), D.v (Value.int IntKind.i64 0), D.v (Value.int IntKind.i64 0), D.v (Value.int IntKind.i64 0), D.v (Value.int IntKind.i64 0)], [D.v (Value.int IntKind.i64 5), D.v (Value.int IntKind.i64 1), D.v (Value.int IntKind.i64 1), D.s 0 4 [[D.v (Value.int IntKind.i64 2), D.v (Value.int IntKind.i64 0), D.v (Value.int IntKind.i64 0), D.v (Value.int IntKind.i64 1)], [D.v (Value.int IntKind.i64 3), D.v (Value.int IntKind.i64 0), D.v (Value.int IntKind.i64 1), D.v (Value.int IntKind.i64 0)]] [], D.v (Value.int IntKind.i64 0), D.v (Value.int IntKind.i64 0), D.v (Value.int IntKind.i64 0), D.v (Value.int IntKind.i64 0), D.v (Value.int IntKind.i64 0), D.v (Value.int IntKind.i64 0), D.s 0 3 [] [], D.s 0 3 [] [], D.v (Value.int IntKind.i64 0), D.v (Value.int IntKind.i64 0), D.v (Value.int IntKind.i64 0), D.v (Value.int IntKind.i64 0), D.v (Value.int IntKind.i64 0)]] [], D.s 0 4 [[D.v (Value.int IntKind.i64 3), D.v (Value.int IntKind.i64 0), D.v (Value.int IntKind.i64 0), D.v (Value.int IntKind.i64 5)]] []], I 0] K) = (K (DV.tup [DV.agg (macLR (1) ⟨[[vN (5), vN (0), vN (0)], [vN (6), vN (0), vN (0)]], [[vN (7), vN (0), vN (0)]], [], [[vN (9), vN (0), vN (0)]], (0), (0), (0), (0), (9), [[vN (3), vN (0), vN (0), vN (5)]]⟩ [(sesL (1) ⟨(3), (0), (3), [[vN (2), vN (0), vN (0), vN (0)], [vN (1), vN (0), vN (0), vN (0)], [vN (3), vN (0), vN (0), vN (0)]], (0), (2), (10), (0), (0), (0), [[vN (0), vN (0), vN (0)]], [], (0), (0), (0), (0), (0)⟩), (sesL (1) ⟨(5), (1), (1), [[vN (2), vN (0), vN (0), vN (1)], [vN (3), vN (0), vN (1), vN (0)]], (0), (0), (0), (0), (0), (0), [], [], (0), (0), (0), (0), (0)⟩)]), I (0)])) := by kernel_rfl
theorem cSt2 : CT Tryz.prog 79 [.agg (macL 0 bH1 [bA1, bB]), I 0] (macR bH2 [bA2, bB] 0) := by
  have e : macL 0 bH1 [bA1, bB] = [D.s 0 3 [[D.v (Value.int IntKind.i64 5), D.v (Value.int IntKind.i64 0), D.v (Value.int IntKind.i64 0)], [D.v (Value.int IntKind.i64 6), D.v (Value.int IntKind.i64 0), D.v (Value.int IntKind.i64 0)]] [], D.s 0 3 [[D.v (Value.int IntKind.i64 7), D.v (Value.int IntKind.i64 0), D.v (Value.int IntKind.i64 0)]] [], D.s 0 3 [] [], D.s 0 3 [[D.v (Value.int IntKind.i64 9), D.v (Value.int IntKind.i64 0), D.v (Value.int IntKind.i64 0)]] [], D.v (Value.int IntKind.i64 0), D.v (Value.int IntKind.i64 0), D.v (Value.int IntKind.i64 0), D.v (Value.int IntKind.i64 0), D.v (Value.int IntKind.i64 9), D.s 0 17 [[D.v (Value.int IntKind.i64 3), D.v (Value.int IntKind.i64 0), D.v (Value.int IntKind.i64 3), D.s 0 4 [[D.v (Value.int IntKind.i64 2), D.v (Value.int IntKind.i64 0), D.v (Value.int IntKind.i64 0), D.v (Value.int IntKind.i64 0)], [D.v (Value.int IntKind.i64 1), D.v (Value.int IntKind.i64 0), D.v (Value.int IntKind.i64 0), D.v (Value.int IntKind.i64 0)], [D.v (Value.int IntKind.i64 3), D.v (Value.int IntKind.i64 0), D.v (Value.int IntKind.i64 0), D.v (Value.int IntKind.i64 0)]] [], D.v (Value.int IntKind.i64 0), D.v (Value.int IntKind.i64 1), D.v (Value.int IntKind.i64 5), D.v (Value.int IntKind.i64 0), D.v (Value.int IntKind.i64 0), D.v (Value.int IntKind.i64 0), D.s 0 3 [[D.v (Value.int IntKind.i64 0), D.v (Value.int IntKind.i64 0), D.v (Value.int IntKind.i64 0)]] [], D.s 0 3 [] [], D.v (Value.int IntKind.i64 0), D.v (Value.int IntKind.i64 0), D.v (Value.int IntKind.i64 0), D.v (Value.int IntKind.i64 0), D.v (Value.int IntKind.i64 0)], [D.v (Value.int IntKind.i64 5), D.v (Value.int IntKind.i64 1), D.v (Value.int IntKind.i64 1), D.s 0 4 [[D.v (Value.int IntKind.i64 2), D.v (Value.int IntKind.i64 0), D.v (Value.int IntKind.i64 0), D.v (Value.int IntKind.i64 1)], [D.v (Value.int IntKind.i64 3), D.v (Value.int IntKind.i64 0), D.v (Value.int IntKind.i64 1), D.v (Value.int IntKind.i64 0)]] [], D.v (Value.int IntKind.i64 0), D.v (Value.int IntKind.i64 0), D.v (Value.int IntKind.i64 0), D.v (Value.int IntKind.i64 0), D.v (Value.int IntKind.i64 0), D.v (Value.int IntKind.i64 0), D.s 0 3 [] [], D.s 0 3 [] [], D.v (Value.int IntKind.i64 0), D.v (Value.int IntKind.i64 0), D.v (Value.int IntKind.i64 0), D.v (Value.int IntKind.i64 0), D.v (Value.int IntKind.i64 0)]] [], D.s 0 4 [[D.v (Value.int IntKind.i64 3), D.v (Value.int IntKind.i64 0), D.v (Value.int IntKind.i64 0), D.v (Value.int IntKind.i64 5)]] []] := rfl
  rw [e]
  refine ct_m spC_ok .nil (.cons iRCopF_ok (.cons jRun_ok .nil)) mixed Tryz.func79 rfl rfl rfl ?_
  rw [eSt2]
  exact ⟨rfl⟩
theorem eSt3 (K : DV → Prop) : (askH Tryz.prog (hkM spC [] [(58, iRCopF), (128, jRun)]) Tryz.f79 [.agg [D.s 0 3 [[D.v (Value.int IntKind.i64 5), D.v (Value.int IntKind.i64 0), D.v (Value.int IntKind.i64 0)], [D.v (Value.int IntKind.i64 6), D.v (Value.int IntKind.i64 0), D.v (Value.int IntKind.i64 0)]] [], D.s 0 3 [[D.v (Value.int IntKind.i64 7), D.v (Value.int IntKind.i64 0), D.v (Value.int IntKind.i64 0)]] [], D.s 0 3 [] [], D.s 0 3 [[D.v (Value.int IntKind.i64 9), D.v (Value.int IntKind.i64 0), D.v (Value.int IntKind.i64 0)]] [], D.v (Value.int IntKind.i64 0), D.v (Value.int IntKind.i64 0), D.v (Value.int IntKind.i64 0), D.v (Value.int IntKind.i64 0), D.v (Value.int IntKind.i64 9), D.s 0 17 [[D.v (Value.int IntKind.i64 3), D.v (Value.int IntKind.i64 0), D.v (Value.int IntKind.i64 3), D.s 0 4 [[D.v (Value.int IntKind.i64 2), D.v (Value.int IntKind.i64 0), D.v (Value.int IntKind.i64 0), D.v (Value.int IntKind.i64 0)], [D.v (Value.int IntKind.i64 1), D.v (Value.int IntKind.i64 0), D.v (Value.int IntKind.i64 0), D.v (Value.int IntKind.i64 0)], [D.v (Value.int IntKind.i64 3), D.v (Value.int IntKind.i64 0), D.v (Value.int IntKind.i64 0), D.v (Value.int IntKind.i64 0)]] [], D.v (Value.int IntKind.i64 0), D.v (Value.int IntKind.i64 2), D.v (Value.int IntKind.i64 10), D.v (Value.int IntKind.i64 0), D.v (Value.int IntKind.i64 0), D.v (Value.int IntKind.i64 0), D.s 0 3 [[D.v (Value.int IntKind.i64 0), D.v (Value.int IntKind.i64 0), D.v (Value.int IntKind.i64 0)]] [], D.s 0 3 [] [], D.v (Value.int IntKind.i64 0), D.v (Value.int IntKind.i64 0), D.v (Value.int IntKind.i64 0), D.v (Value.int IntKind.i64 0), D.v (Value.int IntKind.i64 0)], [D.v (Value.int IntKind.i64 5), D.v (Value.int IntKind.i64 1), D.v (Value.int IntKind.i64 1), D.s 0 4 [[D.v (Value.int IntKind.i64 2), D.v (Value.int IntKind.i64 0), D.v (Value.int IntKind.i64 0), D.v (Value.int IntKind.i64 1)], [D.v (Value.int IntKind.i64 3), D.v (Value.int IntKind.i64 0), D.v (Value.int IntKind.i64 1), D.v (Value.int IntKind.i64 0)]] [], D.v (Value.int IntKind.i64 0), D.v (Value.int IntKind.i64 0), D.v (Value.int IntKind.i64 0), D.v (Value.int IntKind.i64 0), D.v (Value.int IntKind.i64 0), D.v (Value.int IntKind.i64 0), D.s 0 3 [] [], D.s 0 3 [] [], D.v (Value.int IntKind.i64 0), D.v (Value.int IntKind.i64 0), D.v (Value.int IntKind.i64 0), D.v (Value.int IntKind.i64 0), D.v (Value.int IntKind.i64 0)]] [], D.s 0 4 [[D.v (Value.int IntKind.i64 3), D.v (Value.int IntKind.i64 0), D.v (Value.int IntKind.i64 0), D.v (Value.int IntKind.i64 5)]] []], I 0] K) = (K (DV.tup [DV.agg (macLR (1) ⟨[[vN (5), vN (0), vN (0)], [vN (6), vN (0), vN (0)]], [[vN (7), vN (0), vN (0)]], [], [[vN (9), vN (0), vN (0)]], (0), (0), (0), (0), (9), [[vN (3), vN (0), vN (0), vN (5)], [vN (3), vN (0), vN (1), vN (10)]]⟩ [(sesL (1) ⟨(3), (0), (3), [[vN (2), vN (0), vN (0), vN (0)], [vN (1), vN (0), vN (0), vN (0)], [vN (3), vN (0), vN (0), vN (0)]], (0), (3), (10), (0), (0), (0), [[vN (0), vN (0), vN (0)]], [[vN (0), vN (0), vN (10)]], (0), (0), (0), (0), (0)⟩), (sesL (1) ⟨(5), (1), (1), [[vN (2), vN (0), vN (0), vN (1)], [vN (3), vN (0), vN (1), vN (0)]], (0), (0), (0), (0), (0), (0), [], [], (0), (0), (0), (0), (0)⟩)]), I (0)])) := by kernel_rfl
theorem cSt3 : CT Tryz.prog 79 [.agg (macL 0 bH2 [bA2, bB]), I 0] (macR bH3 [bA3, bB] 0) := by
  have e : macL 0 bH2 [bA2, bB] = [D.s 0 3 [[D.v (Value.int IntKind.i64 5), D.v (Value.int IntKind.i64 0), D.v (Value.int IntKind.i64 0)], [D.v (Value.int IntKind.i64 6), D.v (Value.int IntKind.i64 0), D.v (Value.int IntKind.i64 0)]] [], D.s 0 3 [[D.v (Value.int IntKind.i64 7), D.v (Value.int IntKind.i64 0), D.v (Value.int IntKind.i64 0)]] [], D.s 0 3 [] [], D.s 0 3 [[D.v (Value.int IntKind.i64 9), D.v (Value.int IntKind.i64 0), D.v (Value.int IntKind.i64 0)]] [], D.v (Value.int IntKind.i64 0), D.v (Value.int IntKind.i64 0), D.v (Value.int IntKind.i64 0), D.v (Value.int IntKind.i64 0), D.v (Value.int IntKind.i64 9), D.s 0 17 [[D.v (Value.int IntKind.i64 3), D.v (Value.int IntKind.i64 0), D.v (Value.int IntKind.i64 3), D.s 0 4 [[D.v (Value.int IntKind.i64 2), D.v (Value.int IntKind.i64 0), D.v (Value.int IntKind.i64 0), D.v (Value.int IntKind.i64 0)], [D.v (Value.int IntKind.i64 1), D.v (Value.int IntKind.i64 0), D.v (Value.int IntKind.i64 0), D.v (Value.int IntKind.i64 0)], [D.v (Value.int IntKind.i64 3), D.v (Value.int IntKind.i64 0), D.v (Value.int IntKind.i64 0), D.v (Value.int IntKind.i64 0)]] [], D.v (Value.int IntKind.i64 0), D.v (Value.int IntKind.i64 2), D.v (Value.int IntKind.i64 10), D.v (Value.int IntKind.i64 0), D.v (Value.int IntKind.i64 0), D.v (Value.int IntKind.i64 0), D.s 0 3 [[D.v (Value.int IntKind.i64 0), D.v (Value.int IntKind.i64 0), D.v (Value.int IntKind.i64 0)]] [], D.s 0 3 [] [], D.v (Value.int IntKind.i64 0), D.v (Value.int IntKind.i64 0), D.v (Value.int IntKind.i64 0), D.v (Value.int IntKind.i64 0), D.v (Value.int IntKind.i64 0)], [D.v (Value.int IntKind.i64 5), D.v (Value.int IntKind.i64 1), D.v (Value.int IntKind.i64 1), D.s 0 4 [[D.v (Value.int IntKind.i64 2), D.v (Value.int IntKind.i64 0), D.v (Value.int IntKind.i64 0), D.v (Value.int IntKind.i64 1)], [D.v (Value.int IntKind.i64 3), D.v (Value.int IntKind.i64 0), D.v (Value.int IntKind.i64 1), D.v (Value.int IntKind.i64 0)]] [], D.v (Value.int IntKind.i64 0), D.v (Value.int IntKind.i64 0), D.v (Value.int IntKind.i64 0), D.v (Value.int IntKind.i64 0), D.v (Value.int IntKind.i64 0), D.v (Value.int IntKind.i64 0), D.s 0 3 [] [], D.s 0 3 [] [], D.v (Value.int IntKind.i64 0), D.v (Value.int IntKind.i64 0), D.v (Value.int IntKind.i64 0), D.v (Value.int IntKind.i64 0), D.v (Value.int IntKind.i64 0)]] [], D.s 0 4 [[D.v (Value.int IntKind.i64 3), D.v (Value.int IntKind.i64 0), D.v (Value.int IntKind.i64 0), D.v (Value.int IntKind.i64 5)]] []] := rfl
  rw [e]
  refine ct_m spC_ok .nil (.cons iRCopF_ok (.cons jRun_ok .nil)) mixed Tryz.func79 rfl rfl rfl ?_
  rw [eSt3]
  exact ⟨rfl⟩
theorem eSt4 (K : DV → Prop) : (askH Tryz.prog (hkM spC [] [(58, iRCopF), (128, jRun)]) Tryz.f79 [.agg [D.s 0 3 [[D.v (Value.int IntKind.i64 5), D.v (Value.int IntKind.i64 0), D.v (Value.int IntKind.i64 0)], [D.v (Value.int IntKind.i64 6), D.v (Value.int IntKind.i64 0), D.v (Value.int IntKind.i64 0)]] [], D.s 0 3 [[D.v (Value.int IntKind.i64 7), D.v (Value.int IntKind.i64 0), D.v (Value.int IntKind.i64 0)]] [], D.s 0 3 [] [], D.s 0 3 [[D.v (Value.int IntKind.i64 9), D.v (Value.int IntKind.i64 0), D.v (Value.int IntKind.i64 0)]] [], D.v (Value.int IntKind.i64 0), D.v (Value.int IntKind.i64 0), D.v (Value.int IntKind.i64 0), D.v (Value.int IntKind.i64 0), D.v (Value.int IntKind.i64 9), D.s 0 17 [[D.v (Value.int IntKind.i64 3), D.v (Value.int IntKind.i64 0), D.v (Value.int IntKind.i64 3), D.s 0 4 [[D.v (Value.int IntKind.i64 2), D.v (Value.int IntKind.i64 0), D.v (Value.int IntKind.i64 0), D.v (Value.int IntKind.i64 0)], [D.v (Value.int IntKind.i64 1), D.v (Value.int IntKind.i64 0), D.v (Value.int IntKind.i64 0), D.v (Value.int IntKind.i64 0)], [D.v (Value.int IntKind.i64 3), D.v (Value.int IntKind.i64 0), D.v (Value.int IntKind.i64 0), D.v (Value.int IntKind.i64 0)]] [], D.v (Value.int IntKind.i64 0), D.v (Value.int IntKind.i64 3), D.v (Value.int IntKind.i64 10), D.v (Value.int IntKind.i64 0), D.v (Value.int IntKind.i64 0), D.v (Value.int IntKind.i64 0), D.s 0 3 [[D.v (Value.int IntKind.i64 0), D.v (Value.int IntKind.i64 0), D.v (Value.int IntKind.i64 0)]] [], D.s 0 3 [[D.v (Value.int IntKind.i64 0), D.v (Value.int IntKind.i64 0), D.v (Value.int IntKind.i64 10)]] [], D.v (Value.int IntKind.i64 0), D.v (Value.int IntKind.i64 0), D.v (Value.int IntKind.i64 0), D.v (Value.int IntKind.i64 0), D.v (Value.int IntKind.i64 0)], [D.v (Value.int IntKind.i64 5), D.v (Value.int IntKind.i64 1), D.v (Value.int IntKind.i64 1), D.s 0 4 [[D.v (Value.int IntKind.i64 2), D.v (Value.int IntKind.i64 0), D.v (Value.int IntKind.i64 0), D.v (Value.int IntKind.i64 1)], [D.v (Value.int IntKind.i64 3), D.v (Value.int IntKind.i64 0), D.v (Value.int IntKind.i64 1), D.v (Value.int IntKind.i64 0)]] [], D.v (Value.int IntKind.i64 0), D.v (Value.int IntKind.i64 0), D.v (Value.int IntKind.i64 0), D.v (Value.int IntKind.i64 0), D.v (Value.int IntKind.i64 0), D.v (Value.int IntKind.i64 0), D.s 0 3 [] [], D.s 0 3 [] [], D.v (Value.int IntKind.i64 0), D.v (Value.int IntKind.i64 0), D.v (Value.int IntKind.i64 0), D.v (Value.int IntKind.i64 0), D.v (Value.int IntKind.i64 0)]] [], D.s 0 4 [[D.v (Value.int IntKind.i64 3), D.v (Value.int IntKind.i64 0), D.v (Value.int IntKind.i64 0), D.v (Value.int IntKind.i64 5)], [D.v (Value.int IntKind.i64 3), D.v (Value.int IntKind.i64 0), D.v (Value.int IntKind.i64 1), D.v (Value.int IntKind.i64 10)]] []], I 0] K) = (K (DV.tup [DV.agg (macLR (1) ⟨[[vN (5), vN (0), vN (0)], [vN (6), vN (0), vN (0)]], [[vN (7), vN (0), vN (0)]], [], [[vN (9), vN (0), vN (0)]], (0), (0), (0), (0), (9), [[vN (3), vN (0), vN (0), vN (5)], [vN (3), vN (0), vN (1), vN (10)]]⟩ [(sesL (1) ⟨(3), (0), (3), [[vN (2), vN (0), vN (0), vN (0)], [vN (1), vN (0), vN (0), vN (0)], [vN (3), vN (0), vN (0), vN (0)]], (1), (3), (10), (0), (0), (0), [[vN (0), vN (0), vN (0)]], [[vN (0), vN (0), vN (10)]], (0), (0), (0), (0), (0)⟩), (sesL (1) ⟨(5), (1), (1), [[vN (2), vN (0), vN (0), vN (1)], [vN (3), vN (0), vN (1), vN (0)]], (0), (0), (0), (0), (0), (0), [], [], (0), (0), (0), (0), (0)⟩)]), I (0)])) := by kernel_rfl
theorem cSt4 : CT Tryz.prog 79 [.agg (macL 0 bH3 [bA3, bB]), I 0] (macR bH4 [bA4, bB] 0) := by
  have e : macL 0 bH3 [bA3, bB] = [D.s 0 3 [[D.v (Value.int IntKind.i64 5), D.v (Value.int IntKind.i64 0), D.v (Value.int IntKind.i64 0)], [D.v (Value.int IntKind.i64 6), D.v (Value.int IntKind.i64 0), D.v (Value.int IntKind.i64 0)]] [], D.s 0 3 [[D.v (Value.int IntKind.i64 7), D.v (Value.int IntKind.i64 0), D.v (Value.int IntKind.i64 0)]] [], D.s 0 3 [] [], D.s 0 3 [[D.v (Value.int IntKind.i64 9), D.v (Value.int IntKind.i64 0), D.v (Value.int IntKind.i64 0)]] [], D.v (Value.int IntKind.i64 0), D.v (Value.int IntKind.i64 0), D.v (Value.int IntKind.i64 0), D.v (Value.int IntKind.i64 0), D.v (Value.int IntKind.i64 9), D.s 0 17 [[D.v (Value.int IntKind.i64 3), D.v (Value.int IntKind.i64 0), D.v (Value.int IntKind.i64 3), D.s 0 4 [[D.v (Value.int IntKind.i64 2), D.v (Value.int IntKind.i64 0), D.v (Value.int IntKind.i64 0), D.v (Value.int IntKind.i64 0)], [D.v (Value.int IntKind.i64 1), D.v (Value.int IntKind.i64 0), D.v (Value.int IntKind.i64 0), D.v (Value.int IntKind.i64 0)], [D.v (Value.int IntKind.i64 3), D.v (Value.int IntKind.i64 0), D.v (Value.int IntKind.i64 0), D.v (Value.int IntKind.i64 0)]] [], D.v (Value.int IntKind.i64 0), D.v (Value.int IntKind.i64 3), D.v (Value.int IntKind.i64 10), D.v (Value.int IntKind.i64 0), D.v (Value.int IntKind.i64 0), D.v (Value.int IntKind.i64 0), D.s 0 3 [[D.v (Value.int IntKind.i64 0), D.v (Value.int IntKind.i64 0), D.v (Value.int IntKind.i64 0)]] [], D.s 0 3 [[D.v (Value.int IntKind.i64 0), D.v (Value.int IntKind.i64 0), D.v (Value.int IntKind.i64 10)]] [], D.v (Value.int IntKind.i64 0), D.v (Value.int IntKind.i64 0), D.v (Value.int IntKind.i64 0), D.v (Value.int IntKind.i64 0), D.v (Value.int IntKind.i64 0)], [D.v (Value.int IntKind.i64 5), D.v (Value.int IntKind.i64 1), D.v (Value.int IntKind.i64 1), D.s 0 4 [[D.v (Value.int IntKind.i64 2), D.v (Value.int IntKind.i64 0), D.v (Value.int IntKind.i64 0), D.v (Value.int IntKind.i64 1)], [D.v (Value.int IntKind.i64 3), D.v (Value.int IntKind.i64 0), D.v (Value.int IntKind.i64 1), D.v (Value.int IntKind.i64 0)]] [], D.v (Value.int IntKind.i64 0), D.v (Value.int IntKind.i64 0), D.v (Value.int IntKind.i64 0), D.v (Value.int IntKind.i64 0), D.v (Value.int IntKind.i64 0), D.v (Value.int IntKind.i64 0), D.s 0 3 [] [], D.s 0 3 [] [], D.v (Value.int IntKind.i64 0), D.v (Value.int IntKind.i64 0), D.v (Value.int IntKind.i64 0), D.v (Value.int IntKind.i64 0), D.v (Value.int IntKind.i64 0)]] [], D.s 0 4 [[D.v (Value.int IntKind.i64 3), D.v (Value.int IntKind.i64 0), D.v (Value.int IntKind.i64 0), D.v (Value.int IntKind.i64 5)], [D.v (Value.int IntKind.i64 3), D.v (Value.int IntKind.i64 0), D.v (Value.int IntKind.i64 1), D.v (Value.int IntKind.i64 10)]] []] := rfl
  rw [e]
  refine ct_m spC_ok .nil (.cons iRCopF_ok (.cons jRun_ok .nil)) mixed Tryz.func79 rfl rfl rfl ?_
  rw [eSt4]
  exact ⟨rfl⟩
theorem iRNew_ok : InlOK Tryz.prog 21 iRNew := inlM_ok (.cons oRNewL (.cons oRSNewL (.cons oRMm .nil))) .nil .nil mixed Tryz.func21 rfl (goes_of Tryz.func21 (by kernel_rfl) rfl)
theorem eBeg17 (K : DV → Prop) : (askH Tryz.prog (hkM [] [] [(21, iRNew)]) Tryz.f36 [] K) = (K (DV.agg [D.s (1) (3) [[vN (5), vN (0), vN (0)], [vN (6), vN (0), vN (0)]] [], D.s (1) (3) [[vN (7), vN (0), vN (0)]] [], D.s (1) (3) [] [], D.s (1) (3) [[vN (9), vN (0), vN (0)]] [], vN (0), vN (0), vN (0), vN (0), vN (9), D.s (1) (17) [[vN (3), vN (0), vN (3), D.s (1) (4) [[vN (2), vN (0), vN (0), vN (0)], [vN (1), vN (0), vN (0), vN (0)], [vN (3), vN (0), vN (0), vN (0)]] [], vN (0), vN (0), vN (0), vN (0), vN (0), vN (0), nilV, nilV, vN (0), vN (0), vN (0), vN (0), vN (0)], [vN (5), vN (1), vN (1), D.s (1) (4) [[vN (2), vN (0), vN (0), vN (1)], [vN (3), vN (0), vN (1), vN (0)]] [], vN (0), vN (0), vN (0), vN (0), vN (0), vN (0), nilV, nilV, vN (0), vN (0), vN (0), vN (0), vN (0)]] [], nilV])) := by kernel_rfl
theorem cBeg17 : CT Tryz.prog 36 [] (.agg (macL 1 bH0 [bA0, bB])) := by
  refine ct_mA .nil .nil (.cons iRNew_ok .nil) mixed Tryz.func36 rfl rfl rfl ?_
  rw [eBeg17]
  refine ⟨.aggO ?_⟩
  repeat (first | exact .nil | exact OL.refl _ | exact OL.nil _ | refine .cons ?_ ?_ | refine OL.rows ?_)
end

section
set_option maxHeartbeats 2000000
open Go Go.Proofs
set_option linter.unusedSimpArgs false
set_option linter.unusedVariables false
set_option maxRecDepth 100000
def sStp : Spec := fun ds Q => match ds with
  | [d, _] => macA d fun _ ss => match ss with
    | [a, _] => bif a.st == 0 then (bif a.pc == 0 then sAtD [.agg (macL 0 bH0 [bA0, bB]), I 0] (macR bH1 [bA1, bB] 0) ds Q else bif a.pc == 1 then sAtD [.agg (macL 0 bH1 [bA1, bB]), I 0] (macR bH2 [bA2, bB] 0) ds Q else bif a.pc == 2 then sAtD [.agg (macL 0 bH2 [bA2, bB]), I 0] (macR bH3 [bA3, bB] 0) ds Q else sAtD [.agg (macL 0 bH3 [bA3, bB]), I 0] (macR bH4 [bA4, bB] 0) ds Q) else False
    | _ => False
  | _ => False
theorem gStp : Goes Tryz.prog 79 := goes_of Tryz.func79 (by kernel_rfl) rfl
theorem oStp : SpecOK Tryz.prog 79 sStp := fun ds Q h => by
  unfold sStp at h; split at h
  · obtain ⟨m, ss, h, _⟩ := macA_spec h
    split at h
    · rename_i a _ _
      cases h1 : a.st == 0
      · rw [h1] at h; exact h.elim
      · rw [h1] at h
        cases h2 : a.pc == 0
        · cases h3 : a.pc == 1
          · cases h4 : a.pc == 2
            · rw [h2, h3, h4] at h; exact oAtD gStp cSt4 rfl rfl _ Q h
            · rw [h2, h3, h4] at h; exact oAtD gStp cSt3 rfl rfl _ Q h
          · rw [h2, h3] at h; exact oAtD gStp cSt2 rfl rfl _ Q h
        · rw [h2] at h; exact oAtD gStp cSt1 rfl rfl _ Q h
    · exact h.elim
  · exact h.elim
def iStp : Inl := callB Tryz.prog [34, 3] (sF sStp)
theorem iStp_ok : InlOK Tryz.prog 79 iStp := callB_ok (oF oStp)
def iBeg : Inl := callB Tryz.prog [] (sF (sAtD [] (.agg (macL 1 bH0 [bA0, bB]))))
theorem iBeg17_ok : InlOK Tryz.prog 36 iBeg := callB_ok (oF (oAtD (goes_of Tryz.func36 (by kernel_rfl) rfl) cBeg17 rfl rfl))
theorem eStd17_1 (K : DV → Prop) : (askH Tryz.prog (hkM [] [] [(36, iBeg), (79, iStp)]) Tryz.f37 [I 0, I 1] K) = (([] : List DV) = [] ∧ [DV.agg (macL (0) bH0 [bA0, bB]), I (0)] = [DV.agg (macL (0) bH0 [bA0, bB]), I (0)] ∧ K (DV.agg [D.s (1) (3) [[D.v (Value.int IntKind.i64 (5)), D.v (Value.int IntKind.i64 (0)), D.v (Value.int IntKind.i64 (0))], [D.v (Value.int IntKind.i64 (6)), D.v (Value.int IntKind.i64 (0)), D.v (Value.int IntKind.i64 (0))]] [], D.s (1) (3) [[D.v (Value.int IntKind.i64 (7)), D.v (Value.int IntKind.i64 (0)), D.v (Value.int IntKind.i64 (0))]] [], D.s (1) (3) [] [], D.s (1) (3) [[D.v (Value.int IntKind.i64 (9)), D.v (Value.int IntKind.i64 (0)), D.v (Value.int IntKind.i64 (0))]] [], D.v (Value.int IntKind.i64 (0)), D.v (Value.int IntKind.i64 (0)), D.v (Value.int IntKind.i64 (0)), D.v (Value.int IntKind.i64 (0)), D.v (Value.int IntKind.i64 (9)), D.s (1) (17) [[D.v (Value.int IntKind.i64 (3)), D.v (Value.int IntKind.i64 (0)), D.v (Value.int IntKind.i64 (3)), D.s (1) (4) [[D.v (Value.int IntKind.i64 (2)), D.v (Value.int IntKind.i64 (0)), D.v (Value.int IntKind.i64 (0)), D.v (Value.int IntKind.i64 (0))], [D.v (Value.int IntKind.i64 (1)), D.v (Value.int IntKind.i64 (0)), D.v (Value.int IntKind.i64 (0)), D.v (Value.int IntKind.i64 (0))], [D.v (Value.int IntKind.i64 (3)), D.v (Value.int IntKind.i64 (0)), D.v (Value.int IntKind.i64 (0)), D.v (Value.int IntKind.i64 (0))]] [], D.v (Value.int IntKind.i64 (0)), D.v (Value.int IntKind.i64 (1)), D.v (Value.int IntKind.i64 (5)), D.v (Value.int IntKind.i64 (0)), D.v (Value.int IntKind.i64 (0)), D.v (Value.int IntKind.i64 (0)), D.s (1) (3) [[D.v (Value.int IntKind.i64 (0)), D.v (Value.int IntKind.i64 (0)), D.v (Value.int IntKind.i64 (0))]] [], D.s (1) (3) [] [], D.v (Value.int IntKind.i64 (0)), D.v (Value.int IntKind.i64 (0)), D.v (Value.int IntKind.i64 (0)), D.v (Value.int IntKind.i64 (0)), D.v (Value.int IntKind.i64 (0))], [D.v (Value.int IntKind.i64 (5)), D.v (Value.int IntKind.i64 (1)), D.v (Value.int IntKind.i64 (1)), D.s (1) (4) [[D.v (Value.int IntKind.i64 (2)), D.v (Value.int IntKind.i64 (0)), D.v (Value.int IntKind.i64 (0)), D.v (Value.int IntKind.i64 (1))], [D.v (Value.int IntKind.i64 (3)), D.v (Value.int IntKind.i64 (0)), D.v (Value.int IntKind.i64 (1)), D.v (Value.int IntKind.i64 (0))]] [], D.v (Value.int IntKind.i64 (0)), D.v (Value.int IntKind.i64 (0)), D.v (Value.int IntKind.i64 (0)), D.v (Value.int IntKind.i64 (0)), D.v (Value.int IntKind.i64 (0)), D.v (Value.int IntKind.i64 (0)), D.s (1) (3) [] [], D.s (1) (3) [] [], D.v (Value.int IntKind.i64 (0)), D.v (Value.int IntKind.i64 (0)), D.v (Value.int IntKind.i64 (0)), D.v (Value.int IntKind.i64 (0)), D.v (Value.int IntKind.i64 (0))]] [], D.s (1) (4) [[D.v (Value.int IntKind.i64 (3)), D.v (Value.int IntKind.i64 (0)), D.v (Value.int IntKind.i64 (0)), D.v (Value.int IntKind.i64 (5))]] []])) := by kernel_rfl
theorem cStd17_1 : CT Tryz.prog 37 [I 0, I 1] (.agg (macL 1 bH1 [bA1, bB])) := by
  refine ct_m .nil .nil (.cons iBeg17_ok (.cons iStp_ok .nil)) mixed Tryz.func37 rfl rfl rfl ?_
  rw [eStd17_1]
  exact ⟨by repeat (first | exact rfl | refine ⟨rfl, ?_⟩)⟩
end

section
set_option maxHeartbeats 2000000
open Go Go.Proofs
set_option linter.unusedSimpArgs false
set_option linter.unusedVariables false
set_option maxRecDepth 100000
theorem eSS (s s' : SesD) (K : DV → Prop) : (askW Tryz.prog (hkF [(77, sSameInsts), (42, sSameReads), (45, sSameWrites)] [] []) Tryz.f32 [.agg (sesL 0 s), .agg (sesL 0 s')] K) = (bif s.id == s'.id then bif s.lb == s'.lb then bif s.cl == s'.cl then bif okZ (4) s.pg && okZ (4) s'.pg then bif decide (toZ s.pg = toZ s'.pg) then bif s.st == s'.st then bif s.pc == s'.pc then bif eqI [s.r0, s.r1, s.r2, s.r3] [s'.r0, s'.r1, s'.r2, s'.r3] then bif okZ (3) s.rd && okZ (3) s'.rd then bif decide (toZ s.rd = toZ s'.rd) then bif okZ (3) s.wt && okZ (3) s'.wt then bif decide (toZ s.wt = toZ s'.wt) then bif s.at' == s'.at' then bif s.sp == s'.sp then bif s.tr == s'.tr then bif s.rs == s'.rs then K (B (s.to == s'.to)) else K (B false) else K (B false) else K (B false) else K (B false) else K (B false) else False else K (B false) else False else K (B false) else K (B false) else K (B false) else K (B false) else False else K (B false) else K (B false) else K (B false)) := by kernel_rfl
def sameS (s s' : SesD) : Bool := bif s.id == s'.id then bif s.lb == s'.lb then bif s.cl == s'.cl then bif decide (toZ s.pg = toZ s'.pg) then bif s.st == s'.st then bif s.pc == s'.pc then bif eqI [s.r0, s.r1, s.r2, s.r3] [s'.r0, s'.r1, s'.r2, s'.r3] then bif decide (toZ s.rd = toZ s'.rd) then bif decide (toZ s.wt = toZ s'.wt) then bif s.at' == s'.at' then bif s.sp == s'.sp then bif s.tr == s'.tr then bif s.rs == s'.rs then s.to == s'.to else false else false else false else false else false else false else false else false else false else false else false else false else false
theorem cSS (s s' : SesD) (h : okSes s = true) (h' : okSes s' = true) : CT Tryz.prog 32 [.agg (sesL 0 s), .agg (sesL 0 s')] (B (sameS s s')) := by
  refine ct_wF (.cons oSameInsts (.cons oSameReads (.cons oSameWrites .nil))) .nil .nil mixed Tryz.func32 rfl rfl rfl ?_
  rw [eSS]
  refine ⟨?_⟩
  obtain ⟨a1, a2, a3⟩ := okSes_z h
  obtain ⟨b1, b2, b3⟩ := okSes_z h'
  simp only [a1, a2, a3, b1, b2, b3, Bool.and_self, cond_true, bifAL]
  exact AL.refl _
theorem eqI4 {a b c d a' b' c' d' : Int} : eqI [a, b, c, d] [a', b', c', d'] = true ↔ a = a' ∧ b = b' ∧ c = c' ∧ d = d' := by
  simp only [eqI, Bool.and_eq_true, beq_iff_eq, and_true]
theorem cond_tt {p q : Bool} : (bif p then q else false) = true ↔ p = true ∧ q = true := by cases p <;> simp
theorem toZ_inj {z : Nat} {R S : List (List D)} (h : okZ z R = true) (h' : okZ z S = true) (e : toZ R = toZ S) : R = S := by
  rw [(okZ_spec h).1, (okZ_spec h').1, e]
theorem sameS_eq {s s' : SesD} (h : okSes s = true) (h' : okSes s' = true) : sameS s s' = true ↔ s = s' := by
  obtain ⟨a1, a2, a3⟩ := okSes_z h
  obtain ⟨b1, b2, b3⟩ := okSes_z h'
  unfold sameS
  simp only [cond_tt, eqI4, beq_iff_eq, decide_eq_true_eq]
  constructor
  · rintro ⟨e0, e1, e2, e3, e4, e5, ⟨e6, e7, e8, e9⟩, e10, e11, e12, e13, e14, e15, e16⟩
    have e3 := toZ_inj a1 b1 e3
    have e10 := toZ_inj a2 b2 e10
    have e11 := toZ_inj a3 b3 e11
    cases s; cases s'
    simp only at *
    subst e0 e1 e2 e3 e4 e5 e6 e7 e8 e9 e10 e11 e12 e13 e14 e15 e16
    rfl
  · rintro rfl; simp
def sSS : Spec := fun ds Q => match ds with
  | [d, e] => sesA d fun s => sesA e fun s' => cond (okSes s && okSes s') (Q (B (sameS s s'))) False
  | _ => False
theorem oSS : SpecOK Tryz.prog 32 sSS := o_al Tryz.func32 (by kernel_rfl) rfl fun ds Q h => by
  unfold sSS at h; split at h
  · obtain ⟨s, h, r1⟩ := sesA_spec h
    obtain ⟨s', h, r2⟩ := sesA_spec h
    obtain ⟨h1, h2⟩ := cond_P h
    rw [Bool.and_eq_true] at h1
    exact ⟨_, _, .cons r1 (.cons r2 .nil), cSS s s' h1.1 h1.2, rfl, rfl, h2⟩
  · exact h.elim
theorem eSA (R0 R1 R2 R3 S0 S1 S2 S3 : List (List D)) (K : DV → Prop) : (askW Tryz.prog (hkF [(88, sSameWords)] [] []) Tryz.f41 [.agg (wsL R0 R1 R2 R3), .agg (wsL S0 S1 S2 S3)] K) = (bif okZ (3) R0 && okZ (3) S0 then bif !decide (toZ R0 = toZ S0) then K (B false) else bif okZ (3) R1 && okZ (3) S1 then bif !decide (toZ R1 = toZ S1) then K (B false) else bif okZ (3) R2 && okZ (3) S2 then bif !decide (toZ R2 = toZ S2) then K (B false) else bif okZ (3) R3 && okZ (3) S3 then bif !decide (toZ R3 = toZ S3) then K (B false) else K (B true) else False else False else False else False) := by kernel_rfl
def sameA (R0 R1 R2 R3 S0 S1 S2 S3 : List (List D)) : Bool := bif decide (toZ R0 = toZ S0) then bif decide (toZ R1 = toZ S1) then bif decide (toZ R2 = toZ S2) then bif decide (toZ R3 = toZ S3) then true else false else false else false else false
theorem cSA (R0 R1 R2 R3 S0 S1 S2 S3 : List (List D)) (h : okA R0 R1 R2 R3 = true) (h' : okA S0 S1 S2 S3 = true) : CT Tryz.prog 41 [.agg (wsL R0 R1 R2 R3), .agg (wsL S0 S1 S2 S3)] (B (sameA R0 R1 R2 R3 S0 S1 S2 S3)) := by
  refine ct_wF (.cons oSameWords .nil) .nil .nil mixed Tryz.func41 rfl rfl rfl ?_
  rw [eSA]
  refine ⟨?_⟩
  obtain ⟨a0, a1, a2, a3⟩ := okA_spec h
  obtain ⟨b0, b1, b2, b3⟩ := okA_spec h'
  simp only [a0, a1, a2, a3, b0, b1, b2, b3, Bool.and_self, cond_true, bifALN]
  exact AL.refl _
theorem sameA_eq {R0 R1 R2 R3 S0 S1 S2 S3 : List (List D)} (h : okA R0 R1 R2 R3 = true) (h' : okA S0 S1 S2 S3 = true) : sameA R0 R1 R2 R3 S0 S1 S2 S3 = true ↔ R0 = S0 ∧ R1 = S1 ∧ R2 = S2 ∧ R3 = S3 := by
  obtain ⟨a0, a1, a2, a3⟩ := okA_spec h
  obtain ⟨b0, b1, b2, b3⟩ := okA_spec h'
  unfold sameA
  simp only [cond_tt, decide_eq_true_eq]
  constructor
  · rintro ⟨e0, e1, e2, e3, _⟩
    exact ⟨toZ_inj a0 b0 e0, toZ_inj a1 b1 e1, toZ_inj a2 b2 e2, toZ_inj a3 b3 e3⟩
  · rintro ⟨rfl, rfl, rfl, rfl⟩; simp
def sSA : Spec := fun ds Q => match ds with
  | [.agg cs, .agg es] => cond (noOwn cs && Nat.beq cs.length 4 && (noOwn es && Nat.beq es.length 4)) (takeW4 cs fun R0 R1 R2 R3 => takeW4 es fun S0 S1 S2 S3 => cond (okA R0 R1 R2 R3 && okA S0 S1 S2 S3) (Q (B (sameA R0 R1 R2 R3 S0 S1 S2 S3))) False) False
  | _ => False
theorem oSA : SpecOK Tryz.prog 41 sSA := o_al Tryz.func41 (by kernel_rfl) rfl fun ds Q h => by
  unfold sSA at h; split at h
  · obtain ⟨h0, h⟩ := cond_P h
    simp only [Bool.and_eq_true] at h0
    obtain ⟨R0, R1, R2, R3, h, r1⟩ := takeW4_spec h
    obtain ⟨S0, S1, S2, S3, h, r2⟩ := takeW4_spec h
    obtain ⟨h1, h2⟩ := cond_P h
    rw [Bool.and_eq_true] at h1
    rw [List.take_of_length_le (Nat.le_of_eq (beq_true h0.1.2))] at r1
    rw [List.take_of_length_le (Nat.le_of_eq (beq_true h0.2.2))] at r2
    exact ⟨_, _, .cons (.agg r1 h0.1.1 rfl) (.cons (.agg r2 h0.2.1 rfl) .nil), cSA R0 R1 R2 R3 S0 S1 S2 S3 h1.1 h1.2, rfl, rfl, h2⟩
  · exact h.elim
def stSM (h : Mh) (ss : List SesD) (h' : Mh) (ss' : List SesD) (v : Bool) (i : Int) : X := ⟨mkT 62 [(2, .c (.rp 3 0 11 0 0)), (3, .c (.rp 4 0 11 0 0)), (4, ab v), (5, ai i)], [(3, .bx 0 11 ((macL 0 h ss).map C.d)), (4, .bx 0 11 ((macL 0 h' ss').map C.d))], [], []⟩
def v_stSM (h : Mh) (ss : List SesD) (h' : Mh) (ss' : List SesD) : Vw := fun y K => wB y 4 fun v => wI y 5 fun i => K (stSM h ss h' ss' v i)
theorem v_stSM_ok (h : Mh) (ss : List SesD) (h' : Mh) (ss' : List SesD) : VwOK (v_stSM h ss h' ss') := fun y K h => by
  unfold v_stSM at h
  obtain ⟨v, h⟩ := wB_ex h
  obtain ⟨i, h⟩ := wI_ex h
  exact ⟨_, h⟩
theorem rSM (h : Mh) (ss : List SesD) (h' : Mh) (ss' : List SesD) (v : Bool) (i : Int) (N : X → Prop) (E : Exit → X → Prop) : (roundV Tryz.prog (hkF [(32, sSS)] [] []) Tryz.f24 0 [] [2, 3, 4, 5] [3, 4] (v_stSM h ss h' ss') (fun _ => v_stSM h ss h' ss') N E (stSM h ss h' ss' v i)) = (bif decide (i < @Nat.cast Int _ (List.length (List.map (sesL (0)) ss))) then bif decide (0 ≤ i) && decide (i < @Nat.cast Int _ (List.length (List.map (sesL (0)) ss))) then ∃ s, sesAt (List.map (sesL (0)) ss) (Int.toNat i) (0) s ∧ bif decide (0 ≤ i) && decide (i < @Nat.cast Int _ (List.length (List.map (sesL (0)) ss'))) then ∃ s_1, sesAt (List.map (sesL (0)) ss') (Int.toNat i) (0) s_1 ∧ bif okSes s && okSes s_1 then bif !sameS s s_1 then stSM h ss h' ss' false i = stSM h ss h' ss' false i ∧ E Exit.ret (stSM h ss h' ss' false i) else stSM h ss h' ss' v (IntKind.wrap IntKind.i64 (i + 1)) = stSM h ss h' ss' v (IntKind.wrap IntKind.i64 (i + 1)) ∧ N (stSM h ss h' ss' v (IntKind.wrap IntKind.i64 (i + 1))) else False else False else False else stSM h ss h' ss' v i = stSM h ss h' ss' v i ∧ E (Exit.exit (0)) (stSM h ss h' ss' v i)) := by kernel_rfl
def sesN (ss : List SesD) (i : Nat) : SesD := ss.getD i default
def unl (ss ss' : List SesD) (i : Nat) : Bool := !sameS (sesN ss i) (sesN ss' i)
def fSM (h : Mh) (ss : List SesD) (h' : Mh) (ss' : List SesD) : LSum := fun Q x => ss.length = ss'.length ∧ findS [2, 3, 4, 5] [3, 4] (fun i => stSM h ss h' ss' false i) (fun i => stSM h ss h' ss' false i) ss.length (unl ss ss') .ret (.exit 0) Q x
theorem eSM (h : Mh) (ss : List SesD) (h' : Mh) (ss' : List SesD) (K : DV → Prop) : (askW Tryz.prog (hkFL [(41, sSA), (59, sSameEvents)] [] [] [(4, fSM h ss h' ss')]) Tryz.f24 [.agg (macL 0 h ss), .agg (macL 0 h' ss')] K) = (bif okA h.w0 h.w1 h.w2 h.w3 && okA h'.w0 h'.w1 h'.w2 h'.w3 then bif !sameA h.w0 h.w1 h.w2 h.w3 h'.w0 h'.w1 h'.w2 h'.w3 then K (B false) else bif !eqI [h.c0, h.c1, h.c2, h.c3] [h'.c0, h'.c1, h'.c2, h'.c3] then K (B false) else bif h.ce != h'.ce then K (B false) else bif @Nat.cast Int _ (List.length (List.map (sesL (0)) ss)) != @Nat.cast Int _ (List.length (List.map (sesL (0)) ss')) then K (B false) else bif okZ (4) h.tr && okZ (4) h'.tr then bif !decide (toZ h.tr = toZ h'.tr) then K (B false) else List.length ss = List.length ss' ∧ stSM h ss h' ss' false (0) = stSM h ss h' ss' false (0) ∧ (∀ (i : Nat), firstAt (unl ss ss') (List.length ss) i → K (B false)) ∧ (noneTo (unl ss ss') (List.length ss) → K (B true)) else False else False) := by kernel_rfl
theorem sesN_at {ss : List SesD} {i t : Nat} (h : i < ss.length) : sesAt (List.map (sesL t) ss) i t (sesN ss i) := sesAt_map (by unfold sesN; rw [List.getD_eq_getElem?_getD, List.getElem?_eq_getElem h]; rfl)
theorem sesN_mem {ss : List SesD} {i : Nat} (h : i < ss.length) : sesN ss i ∈ ss := by
  unfold sesN
  rw [List.getD_eq_getElem?_getD, List.getElem?_eq_getElem h]
  exact List.getElem_mem h
theorem kSM {h : Mh} {ss : List SesD} {h' : Mh} {ss' : List SesD} (hs : okSS ss = true) (hs' : okSS ss' = true) (hn : ss.length ≤ 9223372036854775806) (Q : Exit → X → Prop) (x : X) (hq : fSM h ss h' ss' Q x) : XWP Tryz.prog (.loop (bodyL Tryz.f24 0)) Q x := by
  obtain ⟨hl, hq⟩ := hq
  have q1 := List.all_eq_true.1 hs
  have q2 := List.all_eq_true.1 hs'
  refine xwp_findV (sw := []) (V := v_stSM h ss h' ss') (VE := fun _ => v_stSM h ss h' ss') mixed (v_stSM_ok h ss h' ss') (fun _ => v_stSM_ok h ss h' ss') _ _ _ _ _ _ (fun i hi => ⟨hkF [(32, sSS)] [] [], hkF_ok (.cons oSS .nil) .nil .nil, loops_nil rfl, fun N E h1 h2 => ?_⟩) ⟨hkF [(32, sSS)] [] [], hkF_ok (.cons oSS .nil) .nil .nil, loops_nil rfl, fun N E h1 => ?_⟩ Q x hq
  · rw [rSM]
    have wi : IntKind.wrap IntKind.i64 ((i : Int) + 1) = ((i + 1 : Nat) : Int) := wrap_nat (n := 1) (by omega)
    have hi' : i < ss'.length := by omega
    simp only [List.length_map, Int.ofNat_lt, hi, hi', decide_true, cond_true, Int.natCast_nonneg, Bool.and_self, Int.toNat_natCast, wi]
    refine ⟨sesN ss i, sesN_at hi, sesN ss' i, sesN_at hi', ?_⟩
    rw [q1 _ (sesN_mem hi), q2 _ (sesN_mem hi')]
    unfold unl at h1 h2
    generalize sameS (sesN ss i) (sesN ss' i) = u at h1 h2 ⊢
    cases u
    · exact ⟨trivial, h1 rfl⟩
    · exact ⟨trivial, h2 rfl⟩
  · rw [rSM]
    simp only [List.length_map, Int.ofNat_lt, Nat.lt_irrefl, decide_false, cond_false, true_and]
    exact h1
def sameM (h : Mh) (ss : List SesD) (h' : Mh) (ss' : List SesD) : Bool := sameA h.w0 h.w1 h.w2 h.w3 h'.w0 h'.w1 h'.w2 h'.w3 && (eqI [h.c0, h.c1, h.c2, h.c3] [h'.c0, h'.c1, h'.c2, h'.c3] && (h.ce == h'.ce && (decide (ss.length = ss'.length) && (decide (toZ h.tr = toZ h'.tr) && !(List.range ss.length).any (unl ss ss')))))
theorem sesN_ext {ss ss' : List SesD} (hl : ss.length = ss'.length) (h : ∀ i, i < ss.length → sesN ss i = sesN ss' i) : ss = ss' := by
  apply List.ext_getElem hl
  intro i h1 h2
  have := h i h1
  unfold sesN at this
  rwa [List.getD_eq_getElem?_getD, List.getD_eq_getElem?_getD, List.getElem?_eq_getElem h1, List.getElem?_eq_getElem h2] at this
theorem sameM_eq {h : Mh} {ss : List SesD} {h' : Mh} {ss' : List SesD} (ho : okM h ss = true) (ho' : okM h' ss' = true) : sameM h ss h' ss' = true ↔ h = h' ∧ ss = ss' := by
  obtain ⟨a1, a2, a3⟩ := okM_spec ho
  obtain ⟨b1, b2, b3⟩ := okM_spec ho'
  have q1 := List.all_eq_true.1 a3
  have q2 := List.all_eq_true.1 b3
  unfold sameM
  simp only [Bool.and_eq_true, sameA_eq a1 b1, eqI4, beq_iff_eq, decide_eq_true_eq, Bool.not_eq_true', List.any_eq_false, List.mem_range]
  constructor
  · rintro ⟨⟨e0, e1, e2, e3⟩, ⟨e4, e5, e6, e7⟩, e8, e9, e10, e11⟩
    have e10 := toZ_inj a2 b2 e10
    refine ⟨?_, sesN_ext e9 fun i hi => ?_⟩
    · cases h; cases h'
      simp only at *
      subst e0 e1 e2 e3 e4 e5 e6 e7 e8 e10
      rfl
    · have := e11 i hi
      unfold unl at this
      simp only [Bool.not_eq_true, Bool.not_eq_false'] at this
      exact (sameS_eq (q1 _ (sesN_mem hi)) (q2 _ (sesN_mem (by omega)))).1 (by simpa using this)
  · rintro ⟨rfl, rfl⟩
    refine ⟨⟨rfl, rfl, rfl, rfl⟩, ⟨rfl, rfl, rfl, rfl⟩, rfl, rfl, rfl, fun i hi => ?_⟩
    unfold unl
    rw [(sameS_eq (q1 _ (sesN_mem hi)) (q1 _ (sesN_mem hi))).2 rfl]; simp
theorem cSM (h : Mh) (ss : List SesD) (h' : Mh) (ss' : List SesD) (ho : okM h ss = true) (ho' : okM h' ss' = true) (hn : ss.length ≤ 9223372036854775806) : CT Tryz.prog 24 [.agg (macL 0 h ss), .agg (macL 0 h' ss')] (B (sameM h ss h' ss')) := by
  obtain ⟨a1, a2, a3⟩ := okM_spec ho
  obtain ⟨b1, b2, b3⟩ := okM_spec ho'
  refine ct_wL (m := [(4, fSM h ss h' ss')]) (.cons oSA (.cons oSameEvents .nil)) .nil .nil mixed (loopsL1 (i := 0) (fun j hj _ => by have : j < 1 := hj; omega) (kSM a3 b3 hn)) Tryz.func24 rfl rfl rfl ?_
  rw [eSM]
  refine ⟨?_⟩
  unfold sameM
  simp only [a1, a2, b1, b2, Bool.and_self, cond_true, List.length_map]
  cases sameA h.w0 h.w1 h.w2 h.w3 h'.w0 h'.w1 h'.w2 h'.w3
  · exact AL.refl _
  · cases eqI [h.c0, h.c1, h.c2, h.c3] [h'.c0, h'.c1, h'.c2, h'.c3]
    · exact AL.refl _
    · cases hc : h.ce == h'.ce
      · have : (h.ce != h'.ce) = true := by unfold bne; rw [hc]; rfl
        rw [this]; exact AL.refl _
      · have : (h.ce != h'.ce) = false := by unfold bne; rw [hc]; rfl
        rw [this]
        by_cases hl : ss.length = ss'.length
        · have : (@Nat.cast Int _ (List.length ss) != @Nat.cast Int _ (List.length ss')) = false := by rw [hl]; simp
          rw [this, decide_eq_true hl]
          cases decide (toZ h.tr = toZ h'.tr)
          · exact AL.refl _
          · refine ⟨hl, trivial, fun i hi => ?_, fun hn => ?_⟩
            · rw [hi.b]; exact AL.refl _
            · rw [hn.b]; exact AL.refl _
        · have : (@Nat.cast Int _ (List.length ss) != @Nat.cast Int _ (List.length ss')) = true := by simp; omega
          rw [this, decide_eq_false hl]; exact AL.refl _
def sSM : Spec := fun ds Q => match ds with
  | [d, e] => macA d fun h ss => macA e fun h' ss' => cond (okM h ss && (okM h' ss' && Nat.ble ss.length 4)) (Q (B (sameM h ss h' ss'))) False
  | _ => False
theorem oSM : SpecOK Tryz.prog 24 sSM := o_al Tryz.func24 (by kernel_rfl) rfl fun ds Q hq => by
  unfold sSM at hq; split at hq
  · obtain ⟨h, ss, hq, r1⟩ := macA_spec hq
    obtain ⟨h', ss', hq, r2⟩ := macA_spec hq
    obtain ⟨h1, h2⟩ := cond_P hq
    simp only [Bool.and_eq_true] at h1
    exact ⟨_, _, .cons r1 (.cons r2 .nil), cSM h ss h' ss' h1.1 h1.2.1 (by have := Nat.le_of_ble_eq_true h1.2.2; omega), rfl, rfl, h2⟩
  · exact hq.elim
end

section
set_option maxHeartbeats 2000000
open Go Go.Proofs
set_option linter.unusedSimpArgs false
set_option linter.unusedVariables false
set_option maxRecDepth 100000
def iStdK (k : Int) (h : Mh) (s : SesD) : Inl := callB Tryz.prog [3, 3] (sF (sAtD [I 0, I k] (.agg (macL 1 h [s, bB]))))
end

section
set_option maxHeartbeats 2000000
open Go Go.Proofs
set_option linter.unusedSimpArgs false
set_option linter.unusedVariables false
set_option maxRecDepth 100000
theorem smM_set {h : Mh} {ss : List SesD} (hm : smM h ss = true) (j : Nat) {s : SesD} (hs : smS s = true) : smM h (ss.set j s) = true := by
  unfold smM at hm ⊢
  simp only [Bool.and_eq_true] at hm ⊢
  refine ⟨hm.1, hm.2.1, ?_⟩
  rw [List.all_eq_true] at hm ⊢
  intro x hx
  rcases List.mem_or_eq_of_mem_set hx with hx | rfl
  · exact hm.2.2 x hx
  · exact hs
theorem calcS_sm (s : SesD) : smS (calcS s) = smS s := by
  unfold calcS
  cases iC s == 0 <;> cases iC s == 1 <;> cases regAt s (iA s) == 0 <;> rfl
def sCal : Spec := fun ds Q => match ds with
  | [d, e] => macA d fun h ss => inA e fun i => cond (okM h ss) (bif mAt (has3 0 1 4) h ss i then Q (macR h (ss.set i.toNat (calcS (ss.getD i.toNat default))) 0) else Q (macE 1700)) False
  | _ => False
theorem oCalG {f : FuncId} {fn : Func} (hf : Tryz.prog.funcs[f]? = some fn) (hn : (fn.name == "runtime.NumGoroutine") = false) (hb : fn.body.isNone = false) (hc : ∀ h ss i, okM h ss = true → CT Tryz.prog f [.agg (macL 0 h ss), I i] (bif mAt (has3 0 1 4) h ss i then macR h (ss.set i.toNat (calcS (ss.getD i.toNat default))) 0 else macE 1700)) : SpecOK Tryz.prog f sCal := o_al hf hn hb fun ds Q hq => by
  unfold sCal at hq; split at hq
  · obtain ⟨h, ss, hq, r1⟩ := macA_spec hq
    obtain ⟨i, hq, rfl⟩ := inA_spec hq
    obtain ⟨ho, hq⟩ := cond_P hq
    have hct := hc h ss i ho
    cases hm : mAt (has3 0 1 4) h ss i with
    | false =>
      rw [hm] at hq hct
      exact ⟨_, _, .cons r1 (.cons (.refl _) .nil), hct, rfl, rfl, hq⟩
    | true =>
      rw [hm] at hq hct
      obtain ⟨hsm, _⟩ := at_cpF i ho hm
      obtain ⟨s, f, _⟩ := mAt_spec ho hm
      refine ⟨_, _, .cons r1 (.cons (.refl _) .nil), hct, own_macR (smM_set hsm _ ?_) 0, rfl, hq⟩
      rw [calcS_sm, f.getD]
      exact List.all_eq_true.1 (by have := f.sm; unfold smM at this; simp only [Bool.and_eq_true] at this; exact this.2.2) s (List.mem_of_getElem? f.at')
  · exact hq.elim
theorem oCal : SpecOK Tryz.prog 33 sCal := oCalG Tryz.func33 (by kernel_rfl) rfl cCalc
def iCal : Inl := callB Tryz.prog [34, 3] (sF sCal)
theorem iCal_ok : InlOK Tryz.prog 33 iCal := callB_ok (oF oCal)
theorem iStd17_1_ok : InlOK Tryz.prog 37 (iStdK 1 bH1 bA1) := callB_ok (oF (oAtD (goes_of Tryz.func37 (by kernel_rfl) rfl) cStd17_1 rfl rfl))
theorem eAw17 (K : DV → Prop) : (askH Tryz.prog (hkM [(25, sI)] [] [(36, iBeg), (33, iCal), (37, iStdK 1 bH1 bA1)]) Tryz.f35 [] K) = ([I (0), I (1)] = [I (0), I (1)] ∧ ([] : List DV) = [] ∧ ([] : List DV) = [] ∧ K (B true)) := by kernel_rfl
theorem cAw17 : CT Tryz.prog 35 [] (B true) := by
  refine ct_m (.cons oNum .nil) .nil (.cons iBeg17_ok (.cons iCal_ok (.cons iStd17_1_ok .nil))) mixed Tryz.func35 rfl rfl rfl ?_
  rw [eAw17]
  exact ⟨by repeat (first | exact rfl | refine ⟨rfl, ?_⟩)⟩
theorem oAw17 : SpecOK Tryz.prog 35 (sAtD [] (B true)) := oAtD (goes_of Tryz.func35 (by kernel_rfl) rfl) cAw17 rfl rfl
end

section
set_option maxHeartbeats 2000000
open Go Go.Proofs
set_option linter.unusedSimpArgs false
set_option linter.unusedVariables false
set_option maxRecDepth 100000
theorem Foc.smS {h : Mh} {ss : List SesD} {i : Int} {s : SesD} (f : Foc h ss i s) : Vm.smS s = true :=
  List.all_eq_true.1 (by have := f.sm; unfold smM at this; simp only [Bool.and_eq_true] at this; exact this.2.2) s (List.mem_of_getElem? f.at')
end

section
set_option maxHeartbeats 2000000
open Go Go.Proofs
set_option linter.unusedSimpArgs false
set_option linter.unusedVariables false
set_option maxRecDepth 100000
theorem OD.frz {w : World} {G : Nat → Prop} {v : Value} {S G' S' : Nat → Prop} {d e : D} (h : RD d e) (he : e.isOwn = false) (hg : ∀ b, G b → G' b) (hs : ∀ b, S b → G' b) (hv : OD w G v d S) : OD w G' v e S' := by
  refine .r _ _ _ (fun z rows sp q => ?_) (h _ _ _ (hv.read hg hs))
  subst q; cases he
theorem frz_c {d e : D} (h : RD d e) (he : e.isOwn = false) : Frz (.c d) (.c e) := fun w G v S hv => by
  cases hv with
  | c _ _ _ hx => exact .c _ _ _ (hx.frz h he (fun _ => .inl) (fun _ => .inr))
theorem frz_agg {cs cs' : List D} (h : All2 RD cs cs') (he : cs'.all (fun d => !d.isOwn) = true) : Frz (.agg cs) (.agg cs') := fun w G v S hv => by
  cases hv with
  | agg vs _ _ sub h1 h2 h3 h4 =>
    refine .agg vs cs' _ (fun _ _ => False) (by rw [← h.len]; exact h1) (fun i e hi => ?_) (fun _ _ q => q) (fun _ _ _ q => q.elim)
    obtain ⟨d, g1, g2⟩ := h.get hi
    have a2 := List.all_eq_true.1 he e (List.mem_of_getElem? hi)
    exact (h2 i d g1).frz g2 (by simpa using a2) (fun _ => .inl) (fun b hb => .inr (h3 i b hb))
theorem frz_tup {xs ys : List DV} (h : All2 Frz xs ys) : Frz (.tup xs) (.tup ys) := fun w G v S hv => by
  cases hv with
  | tup vs _ _ sub h1 h2 h3 h4 =>
    refine .tup vs ys _ (fun _ _ => False) (by rw [← h.len]; exact h1) (fun i e hi => ?_) (fun _ _ q => q) (fun _ _ _ q => q.elim)
    obtain ⟨d, g1, g2⟩ := h.get hi
    exact (g2 _ _ _ _ (h2 i d g1)).mono (fun b hb => hb.elim .inl fun q => .inr (h3 i b q)) (.refl _ _) (.refl _ _)
theorem ses_rd {t t' : Nat} (s : SesD) : All2 RD (sesL t s) (sesL t' s) :=
  .cons (.refl _) (.cons (.refl _) (.cons (.refl _) (.cons .slice (.cons (.refl _) (.cons (.refl _) (.cons (.refl _) (.cons (.refl _) (.cons (.refl _) (.cons (.refl _) (.cons .slice (.cons .slice (.cons (.refl _) (.cons (.refl _) (.cons (.refl _) (.cons (.refl _) (.cons (.refl _) .nil))))))))))))))))
theorem sss_rd {t t' : Nat} : ∀ ss : List SesD, All2 (All2 RD) (ss.map (sesL t)) (ss.map (sesL t'))
  | [] => .nil
  | s :: ss => .cons (ses_rd s) (sss_rd ss)
theorem mac_rd {t t' : Nat} (h : Mh) (ss : List SesD) : All2 RD (macL t h ss) (macL t' h ss) :=
  .cons .slice (.cons .slice (.cons .slice (.cons .slice (.cons (.refl _) (.cons (.refl _) (.cons (.refl _) (.cons (.refl _) (.cons (.refl _) (.cons (.rows (sss_rd ss)) (.cons .slice .nil))))))))))
def macZ (h : Mh) (ss : List SesD) (e : Int) : DV := .tup [.agg (macL 0 h ss), I e]
theorem frz_macR (h : Mh) (ss : List SesD) (e : Int) : Frz (macR h ss e) (macZ h ss e) := frz_tup (.cons (frz_agg (mac_rd h ss) rfl) (.cons (frz_c (.refl _) rfl) .nil))
def allAL (ds es : List DV) : Prop := All2 AL ds es
def sAtL (es : List DV) (r : DV) : Spec := fun ds Q => allAL ds es ∧ Q r
theorem oAtL {f : FuncId} {fn : Func} {es : List DV} {r : DV} (hf : Tryz.prog.funcs[f]? = some fn) (hn : (fn.name == "runtime.NumGoroutine") = false) (hb : fn.body.isNone = false) (hc : CT Tryz.prog f es r) (hp : r.pureOwn = true) (hfit : r.fit32 = true) : SpecOK Tryz.prog f (sAtL es r) :=
  o_al hf hn hb fun ds Q hq => ⟨_, _, hq.1, hc, hp, hfit, hq.2⟩
theorem cut_rd {t t' z n : Nat} {R sp : List (List D)} (h : n = R.length) : RD (.s t z (cut R 0 n) sp) (.s t' z R []) := by rw [cut_all h.symm]; exact .slice
theorem cut_sss {t t' t2 n : Nat} {ss ss1 : List SesD} {j : Nat} {s : SesD} {sp : List (List D)} (h : n = ss1.length) (e : ss1.set j s = ss) : RD (.s t 17 (cut (List.set (List.map (sesL t2) ss1) j (sesL t2 s)) 0 n) sp) (.s t' 17 (ss.map (sesL t')) []) := by
  rw [set_ses, e, cut_all (by rw [List.length_map, ← e, List.length_set]; exact h.symm)]
  exact .rows (sss_rd ss)
theorem calcS_back (s : SesD) : { calcS s with pc := s.pc, r0 := s.r0, r1 := s.r1, r2 := s.r2, r3 := s.r3 } = s := by
  unfold calcS
  cases iC s == 0 <;> cases iC s == 1 <;> cases regAt s (iA s) == 0 <;> rfl
theorem calcS_pc {h : Mh} {ss : List SesD} {i : Int} {s : SesD} (f : Foc h ss i s) (h0 : 0 ≤ s.pc) (h1 : s.pc < s.pg.length) (hc : has3 0 1 4 (iC s) = true) : s.pc < (calcS s).pc ∧ (calcS s).pc ≤ s.pg.length := by
  have hj := (ins_may f.ok f.may h1).2
  unfold calcS
  rcases has3_spec hc with e | e | e
  · rw [e]; show s.pc < s.pc + 1 ∧ s.pc + 1 ≤ (s.pg.length : Int); omega
  · rw [e]; show s.pc < s.pc + 1 ∧ s.pc + 1 ≤ (s.pg.length : Int); omega
  · obtain ⟨j1, j2⟩ := hj e
    rw [e]
    show s.pc < (bif regAt s (iA s) == 0 then ({ s with pc := iB s } : SesD) else { s with pc := s.pc + 1 }).pc ∧ (bif regAt s (iA s) == 0 then ({ s with pc := iB s } : SesD) else { s with pc := s.pc + 1 }).pc ≤ (s.pg.length : Int)
    cases regAt s (iA s) == 0
    · show s.pc < s.pc + 1 ∧ s.pc + 1 ≤ (s.pg.length : Int); omega
    · exact ⟨j1, j2⟩
theorem Foc.smS1 {h : Mh} {ss : List SesD} {i : Int} {s : SesD} (f : Foc h ss i s) {s' : SesD} (hs : Vm.smS s' = true) : smM h (ss.set i.toNat s') = true := smM_set f.sm _ hs
theorem gCal : Goes Tryz.prog 33 := goes_of Tryz.func33 (by kernel_rfl) rfl
theorem gLCop : Goes Tryz.prog 19 := goes_of Tryz.func19 (by kernel_rfl) rfl
theorem iLCpF_ok {t : Bool} {h : Mh} {ss : List SesD} (i : Int) (s : SesD) (hl : t = true → smM h ss = true ∧ ss.length ≤ 4) : InlOK Tryz.prog 19 (iCpF t h ss i s) :=
  callM_ok (matF_ok _ _) (oIf fun ht => oAtD gLCop (cLCop h ss (hl ht).2 (hl ht).1) (own_mac (hl ht).1) rfl)
theorem cSMrefl {h : Mh} {ss : List SesD} (ho : okM h ss = true) (hl : ss.length ≤ 4) : CT Tryz.prog 24 [.agg (macL 0 h ss), .agg (macL 0 h ss)] (B true) := by
  have := cSM h ss h ss ho ho (by omega)
  rwa [(sameM_eq ho ho).2 ⟨rfl, rfl⟩] at this
theorem ixTrue {t : Nat} {ss : List SesD} {i : Int} (h0 : 0 ≤ i) (h1 : i.toNat < ss.length) : (decide (0 ≤ i) && decide (i < @Nat.cast Int _ (List.length (List.map (sesL t) ss)))) = true := by
  rw [List.length_map, decide_eq_true h0, decide_eq_true (by omega)]; rfl
theorem eCT0 (h : Mh) (ss : List SesD) (i : Int) (K : DV → Prop) : (askW Tryz.prog (hkF [(35, sAtD [] (B true)), (33, sAtD [.agg (macL 0 h ss), I i] (macE 1700)), (25, sI), (24, sSM)] [] []) Tryz.f10 [.agg (macL 0 h ss), I i] K) = (([] : List DV) = [] ∧ [DV.agg (macL (0) h ss), I i] = [DV.agg (macL (0) h ss), I i] ∧ K (B true)) := by kernel_rfl
theorem eCT1 (h h1 : Mh) (ss ss1 : List SesD) (s1 : SesD) (i : Int) (K : DV → Prop) : (askW Tryz.prog (hkF [(35, sAtD [] (B true)), (33, sAtD [.agg (macL 0 h ss), I i] (.tup [.agg (macL 0 h1 ss1), I 0])), (25, sI), (24, sAtL [.agg (macL 0 h ss), .agg (macL 0 h ss)] (B true))] [] [(19, iCpF true h1 ss1 i s1)]) Tryz.f10 [.agg (macL 0 h ss), I i] K) = (([] : List DV) = [] ∧ [DV.agg (macL (0) h ss), I i] = [DV.agg (macL (0) h ss), I i] ∧ bif decide (i < 0) then K (B false) else bif decide (i ≥ @Nat.cast Int _ (List.length (List.map (sesL (0)) ss1))) then K (B false) else bif decide (i ≥ @Nat.cast Int _ (List.length (List.map (sesL (0)) ss))) then K (B false) else bif decide (0 ≤ i) && decide (i < @Nat.cast Int _ (List.length (List.map (sesL (0)) ss))) then ∃ s, sesAt (List.map (sesL (0)) ss) (Int.toNat i) (0) s ∧ bif decide (0 ≤ i) && decide (i < @Nat.cast Int _ (List.length (List.map (sesL (0)) ss1))) then ∃ s_1, sesAt (List.map (sesL (0)) ss1) (Int.toNat i) (0) s_1 ∧ bif decide (s_1.pc ≤ s.pc) then K (B false) else bif decide (s_1.pc > @Nat.cast Int _ (List.length s.pg)) then K (B false) else true = true ∧ [DV.agg (macL (0) h1 ss1)] = [DV.agg (macL (0) h1 ss1)] ∧ sesAt (List.map (sesL (1)) ss1) (Int.toNat i) (1) s1 ∧ bif decide (0 ≤ i) && decide (i < @Nat.cast Int _ (List.length (List.map (sesL (1)) ss1))) then foAt (addN (0) (Int.toNat i)) (Int.toNat i) (List.length (List.map (sesL (1)) ss1)) ∧ bif decide (0 ≤ i) && decide (i < @Nat.cast Int _ (List.length (List.map (sesL (1)) ss1))) then foAt (addN (0) (Int.toNat i)) (Int.toNat i) (List.length (List.map (sesL (1)) ss1)) ∧ bif decide (0 + List.length h1.w0 ≤ List.length h1.w0) then bif decide (0 + List.length h1.w1 ≤ List.length h1.w1) then bif decide (0 + List.length h1.w2 ≤ List.length h1.w2) then bif decide (0 + List.length h1.w3 ≤ List.length h1.w3) then bif decide (0 + List.length (List.map (sesL (1)) ss1) ≤ List.length (List.set (List.map (sesL (1)) ss1) (Int.toNat i) (sesL (1) { s1 with pc := s.pc, r0 := s.r0, r1 := s.r1, r2 := s.r2, r3 := s.r3 }))) then bif decide (0 + List.length h1.tr ≤ List.length h1.tr) then allAL [DV.agg [D.s (0) (3) (cut h1.w0 (0) (List.length h1.w0)) (cut h1.w0 (0 + List.length h1.w0) (List.length h1.w0 - List.length h1.w0)), D.s (0) (3) (cut h1.w1 (0) (List.length h1.w1)) (cut h1.w1 (0 + List.length h1.w1) (List.length h1.w1 - List.length h1.w1)), D.s (0) (3) (cut h1.w2 (0) (List.length h1.w2)) (cut h1.w2 (0 + List.length h1.w2) (List.length h1.w2 - List.length h1.w2)), D.s (0) (3) (cut h1.w3 (0) (List.length h1.w3)) (cut h1.w3 (0 + List.length h1.w3) (List.length h1.w3 - List.length h1.w3)), vN h1.c0, vN h1.c1, vN h1.c2, vN h1.c3, vN h1.ce, D.s (0) (17) (cut (List.set (List.map (sesL (1)) ss1) (Int.toNat i) (sesL (1) { s1 with pc := s.pc, r0 := s.r0, r1 := s.r1, r2 := s.r2, r3 := s.r3 })) (0) (List.length (List.map (sesL (1)) ss1))) (cut (List.set (List.map (sesL (1)) ss1) (Int.toNat i) (sesL (1) { s1 with pc := s.pc, r0 := s.r0, r1 := s.r1, r2 := s.r2, r3 := s.r3 })) (0 + List.length (List.map (sesL (1)) ss1)) (List.length (List.map (sesL (1)) ss1) - List.length (List.map (sesL (1)) ss1))), D.s (0) (4) (cut h1.tr (0) (List.length h1.tr)) (cut h1.tr (0 + List.length h1.tr) (List.length h1.tr - List.length h1.tr))], DV.agg (macL (0) h ss)] [DV.agg (macL (0) h ss), DV.agg (macL (0) h ss)] ∧ K (B true) else False else False else False else False else False else False else False else False else False else False) := by kernel_rfl
end

section
set_option maxHeartbeats 2000000
open Go Go.Proofs
set_option linter.unusedSimpArgs false
set_option linter.unusedVariables false
set_option maxRecDepth 100000
theorem cCT (h : Mh) (ss : List SesD) (i : Int) (hok : okM h ss = true) : CT Tryz.prog 10 [.agg (macL 0 h ss), I i] (B true) := by
  have hc := cCalc h ss i hok
  cases hm : mAt (has3 0 1 4) h ss i with
  | false =>
    simp only [hm, cond_false] at hc
    refine ct_wF (.cons oAw17 (.cons (oAtD gCal hc rfl rfl) (.cons oNum (.cons oSM .nil)))) .nil .nil mixed Tryz.func10 rfl rfl rfl ?_
    rw [eCT0]
    exact ⟨⟨rfl, rfl, AL.refl _⟩⟩
  | true =>
    obtain ⟨s, f, hst, hp0, hp1, hp2, hcode⟩ := mAt_spec hok hm
    simp only [hm, f.getD, cond_true] at hc
    have hsm : smM h (ss.set i.toNat (calcS s)) = true := f.smS1 (by rw [calcS_sm]; exact f.smS)
    have hll : (ss.set i.toNat (calcS s)).length = ss.length := List.length_set
    have hat : (ss.set i.toNat (calcS s))[i.toNat]? = some (calcS s) := by rw [List.getElem?_set_self f.lt]
    refine ct_wF (.cons oAw17 (.cons (oAtZ gCal hc (own_macR hsm 0) (frz_macR _ _ _) rfl) (.cons oNum (.cons (oAtL Tryz.func24 (by kernel_rfl) rfl (cSMrefl hok f.len) rfl rfl) .nil)))) .nil (.cons (iLCpF_ok (t := true) i (calcS s) fun _ => ⟨hsm, by rw [hll]; exact f.len⟩) .nil) mixed Tryz.func10 rfl rfl rfl ?_
    rw [show macZ h (ss.set i.toNat (calcS s)) 0 = .tup [.agg (macL 0 h (ss.set i.toNat (calcS s))), I 0] from rfl, eCT1]
    obtain ⟨q1, q2⟩ := calcS_pc f hp0 hp1 hcode
    have l0 := f.lt
    have l1 : i.toNat < (ss.set i.toNat (calcS s)).length := by rw [hll]; exact l0
    have n0 : ¬ i < 0 := by have := f.i0; omega
    have n1 : ¬ i ≥ @Nat.cast Int _ (List.length (List.map (sesL 0) (ss.set i.toNat (calcS s)))) := by rw [List.length_map]; have := f.i0; omega
    have n2 : ¬ i ≥ @Nat.cast Int _ (List.length (List.map (sesL 0) ss)) := by rw [List.length_map]; have := f.i0; omega
    refine ⟨⟨rfl, rfl, ?_⟩⟩
    simp only [decide_eq_false n0, decide_eq_false n1, decide_eq_false n2, cond_false, ixTrue f.i0 l0, ixTrue f.i0 l1, cond_true]
    refine ⟨s, sesAt_map f.at', calcS s, sesAt_map hat, ?_⟩
    simp only [decide_eq_false (show ¬ (calcS s).pc ≤ s.pc by omega), decide_eq_false (show ¬ (calcS s).pc > @Nat.cast Int _ (List.length s.pg) by omega), cond_false]
    refine ⟨trivial, trivial, sesAt_map hat, foAt_iff.2 ⟨rfl, by rw [List.length_map]; exact l1⟩, foAt_iff.2 ⟨rfl, by rw [List.length_map]; exact l1⟩, ?_⟩
    simp only [Nat.zero_add, List.length_set, List.length_map, Nat.le_refl, decide_true, cond_true]
    rw [calcS_back]
    refine ⟨.cons (.agg ?_ rfl rfl) (.cons (.refl _) .nil), AL.refl _⟩
    exact .cons (cut_rd rfl) (.cons (cut_rd rfl) (.cons (cut_rd rfl) (.cons (cut_rd rfl) (.cons (.refl _) (.cons (.refl _) (.cons (.refl _) (.cons (.refl _) (.cons (.refl _) (.cons (cut_sss (by simp) (by rw [List.set_set, f.set])) (.cons (cut_rd rfl) .nil))))))))))
end

section
set_option maxHeartbeats 2000000
open Go Go.Proofs
set_option linter.unusedSimpArgs false
set_option linter.unusedVariables false
set_option maxRecDepth 100000
def kSes : List KT := [.int, .int, .int, .sl (List.replicate 4 .int) 32, .int, .int, .int, .int, .int, .int, .sl (List.replicate 3 .int) 24, .sl (List.replicate 3 .int) 24, .int, .int, .int, .int, .int]
def kMac : List KT := [.sl (List.replicate 3 .int) 24, .sl (List.replicate 3 .int) 24, .sl (List.replicate 3 .int) 24, .sl (List.replicate 3 .int) 24, .int, .int, .int, .int, .int, .sl kSes 184, .sl (List.replicate 4 .int) 32]
theorem GoodL.i {cs : List KT} {ds : List D} (h : GoodL (.int :: cs) ds) : ∃ n ds', ds = vN n :: ds' ∧ GoodL cs ds' := by
  obtain ⟨d, ds', rfl, h1, h2⟩ := h.cons_inv
  obtain ⟨n, rfl, _⟩ := h1.int_inv
  exact ⟨n, ds', rfl, h2⟩
theorem GoodL.r {z b : Nat} {cs : List KT} {ds : List D} (h : GoodL (.sl (List.replicate z .int) b :: cs) ds) : ∃ R ds', ds = .s 0 z R [] :: ds' ∧ okZ z R = true ∧ GoodL cs ds' := by
  obtain ⟨d, ds', rfl, h1, h2⟩ := h.cons_inv
  obtain ⟨R, rfl, h3, _⟩ := h1.rows
  exact ⟨R, ds', rfl, h3, h2⟩
theorem gSes {r : List D} (h : GoodL kSes r) : ∃ s, r = sesL 0 s ∧ okSes s = true := by
  unfold kSes at h
  obtain ⟨x0, r0, rfl, g0⟩ := h.i
  obtain ⟨x1, r1, rfl, g1⟩ := g0.i
  obtain ⟨x2, r2, rfl, g2⟩ := g1.i
  obtain ⟨x3, r3, rfl, o3, g3⟩ := g2.r
  obtain ⟨x4, r4, rfl, g4⟩ := g3.i
  obtain ⟨x5, r5, rfl, g5⟩ := g4.i
  obtain ⟨x6, r6, rfl, g6⟩ := g5.i
  obtain ⟨x7, r7, rfl, g7⟩ := g6.i
  obtain ⟨x8, r8, rfl, g8⟩ := g7.i
  obtain ⟨x9, r9, rfl, g9⟩ := g8.i
  obtain ⟨x10, r10, rfl, o10, g10⟩ := g9.r
  obtain ⟨x11, r11, rfl, o11, g11⟩ := g10.r
  obtain ⟨x12, r12, rfl, g12⟩ := g11.i
  obtain ⟨x13, r13, rfl, g13⟩ := g12.i
  obtain ⟨x14, r14, rfl, g14⟩ := g13.i
  obtain ⟨x15, r15, rfl, g15⟩ := g14.i
  obtain ⟨x16, r16, rfl, g16⟩ := g15.i
  obtain rfl := g16.nil_inv
  refine ⟨⟨x0, x1, x2, x3, x4, x5, x6, x7, x8, x9, x10, x11, x12, x13, x14, x15, x16⟩, rfl, ?_⟩
  show (okZ 4 x3 && (okZ 3 x10 && okZ 3 x11)) = true
  rw [o3, o10, o11]; rfl
theorem gSess : ∀ rows : List (List D), (∀ r ∈ rows, GoodL kSes r) → ∃ ss : List SesD, rows = ss.map (sesL 0) ∧ okSS ss = true
  | [], _ => ⟨[], rfl, rfl⟩
  | r :: rows, h => by
    obtain ⟨s, rfl, hs⟩ := gSes (h r (by simp))
    obtain ⟨ss, rfl, hss⟩ := gSess rows fun r hr => h r (by simp [hr])
    refine ⟨s :: ss, rfl, ?_⟩
    unfold okSS at hss ⊢
    rw [List.all_cons, hs, hss]; rfl
theorem gMac {r : List D} (h : GoodL kMac r) : ∃ m ss, r = macL 0 m ss ∧ okM m ss = true ∧ ss.length * 184 ≤ 140737488351232 := by
  unfold kMac at h
  obtain ⟨x0, r0, rfl, o0, g0⟩ := h.r
  obtain ⟨x1, r1, rfl, o1, g1⟩ := g0.r
  obtain ⟨x2, r2, rfl, o2, g2⟩ := g1.r
  obtain ⟨x3, r3, rfl, o3, g3⟩ := g2.r
  obtain ⟨x4, r4, rfl, g4⟩ := g3.i
  obtain ⟨x5, r5, rfl, g5⟩ := g4.i
  obtain ⟨x6, r6, rfl, g6⟩ := g5.i
  obtain ⟨x7, r7, rfl, g7⟩ := g6.i
  obtain ⟨x8, r8, rfl, g8⟩ := g7.i
  obtain ⟨d, r9, rfl, h9, g9⟩ := g8.cons_inv
  obtain ⟨rows, rfl, hb, _, hr⟩ := h9.sl_inv
  obtain ⟨ss, rfl, hss⟩ := gSess rows hr
  obtain ⟨x10, r10, rfl, o10, g10⟩ := g9.r
  obtain rfl := g10.nil_inv
  refine ⟨{ w0 := x0, w1 := x1, w2 := x2, w3 := x3, c0 := x4, c1 := x5, c2 := x6, c3 := x7, ce := x8, tr := x10 }, ss, rfl, ?_, by rwa [List.length_map] at hb⟩
  unfold okM okA
  show (okZ 3 x0 && (okZ 3 x1 && (okZ 3 x2 && okZ 3 x3)) && (okZ 4 x10 && okSS ss)) = true
  rw [o0, o1, o2, o3, o10, hss]; rfl
theorem cCTg (xs : List D) (i : Int) (g : GoodL kMac xs) : CT Tryz.prog 10 [.agg xs, I i] (B true) := by
  obtain ⟨h, ss, rfl, ho, _⟩ := gMac g
  exact cCT h ss i ho
end

end Vm
