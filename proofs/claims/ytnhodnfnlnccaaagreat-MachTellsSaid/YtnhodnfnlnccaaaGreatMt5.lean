/- An interpreter for Go's texts over plain data, its proof, and what it says of the functions that the law reaches. My own work. -/
import Derived.Test.YtnhodnfnlnccaaaGreatMt4
set_option linter.unusedSimpArgs false
set_option linter.unusedVariables false
set_option maxRecDepth 100000
set_option maxHeartbeats 2000000
namespace Vm
section
open Go Go.Proofs
def sLS : Spec := fun ds Q => match ds with
  | [.agg [p], e] => ZkX p fun R0 R1 R2 R3 => sesA e fun s => cond (ZaI s) (Q (B (Zam R0 R1 R2 R3 s))) False
  | _ => False
theorem oLS : Zac Tryz.prog 66 sLS := o_al Tryz.func66 (by kernel_rfl) rfl fun ds Q h => by
  unfold sLS at h; split at h
  · obtain ⟨R0, R1, R2, R3, h, r1, e1⟩ := ZfB h
    obtain ⟨s, h, r2⟩ := Zbz h
    obtain ⟨h1, h2⟩ := Zae h
    exact ⟨_, _, .cons (.agg (.cons r1 .nil) (by simp [e1]) rfl) (.cons r2 .nil), cLS R0 R1 R2 R3 s h1, rfl, rfl, h2⟩
  · exact h.elim
theorem eA1S (R0 R1 R2 R3 : List (List D)) (s : SesD) (K : DV → Prop) : (ask Tryz.prog [(66, sLS)] Tryz.f104 [.agg (sesL 0 s), .c (.p 0 [.f 66 [.f AG [] [.p 0 (wsL R0 R1 R2 R3) 0]] []] 0)] K) = (bif ZaI s then K (DV.c (D.v (Value.bool !Zam R0 R1 R2 R3 s))) else False) := by kernel_rfl
def sA1S : Spec := fun ds Q => match ds with
  | [e, .c (.p _ [c] 0)] => sesA e fun s => Zgf 66 c fun R0 R1 R2 R3 => cond (ZaI s) (Q (B (!Zam R0 R1 R2 R3 s))) False
  | _ => False
theorem oA1S : Zac Tryz.prog 104 sA1S := o_al Tryz.func104 (by kernel_rfl) rfl fun ds Q h => by
  unfold sA1S at h; split at h
  · obtain ⟨s, h, r2⟩ := Zbz h
    obtain ⟨R0, R1, R2, R3, h, r1, e1⟩ := Zb2 (by decide) h
    obtain ⟨h1, h2⟩ := Zae h
    exact ⟨_, _, .cons r2 (.cons (.c (RD.cells (t' := 0) (.cons r1 .nil)) rfl rfl) .nil), Zai (.cons oLS .nil) mixed Tryz.func104 rfl rfl rfl (by rw [eA1S, h1]; rfl), rfl, rfl, h2⟩
  · exact h.elim
def iIxS : Inl := inlB Tryz.prog band bor [(104, sA1S)] [] [] Tryz.f152
def iCoS : Inl := inlB Tryz.prog band bor [] [] [(152, iIxS)] Tryz.f103
theorem ZqF : Zbf Tryz.prog 152 iIxS := ZnA (.cons oA1S .nil) .nil .nil mixed Tryz.func152 rfl (Zat Tryz.func152 (by kernel_rfl) rfl)
theorem ZfN : Zbf Tryz.prog 103 iCoS := ZnA .nil .nil (.cons ZqF .nil) mixed Tryz.func103 rfl (Zat Tryz.func103 (by kernel_rfl) rfl)
theorem bifN (p q : Bool) (x : DV) : (bif !p then (DV.c (.v (.bool false)) = x) else (DV.c (.v (.bool q)) = x)) = (DV.c (.v (.bool (p && q))) = x) := by cases p <;> rfl
theorem Zs4 (R0 R1 R2 R3 : List (List D)) (K : DV → Prop) : (askX Tryz.prog band bor [] [] [(103, iCoS)] Tryz.f65 [.c (.s 0 17 ([].map (sesL 0)) []), .c (.f 66 [.f AG [] [.p 0 (wsL R0 R1 R2 R3) 0]] [])] K) = (K (DV.c (D.v (Value.bool true)))) := by kernel_rfl
theorem ZsZ (R0 R1 R2 R3 : List (List D)) (s0 : SesD) (K : DV → Prop) : (askX Tryz.prog band bor [] [] [(103, iCoS)] Tryz.f65 [.c (.s 0 17 ([s0].map (sesL 0)) []), .c (.f 66 [.f AG [] [.p 0 (wsL R0 R1 R2 R3) 0]] [])] K) = (bif ZaI s0 then bif !Zam R0 R1 R2 R3 s0 then K (DV.c (D.v (Value.bool false))) else K (DV.c (D.v (Value.bool true))) else False) := by kernel_rfl
theorem ZsA (R0 R1 R2 R3 : List (List D)) (s0 s1 : SesD) (K : DV → Prop) : (askX Tryz.prog band bor [] [] [(103, iCoS)] Tryz.f65 [.c (.s 0 17 ([s0, s1].map (sesL 0)) []), .c (.f 66 [.f AG [] [.p 0 (wsL R0 R1 R2 R3) 0]] [])] K) = (bif ZaI s0 then bif !Zam R0 R1 R2 R3 s0 then K (DV.c (D.v (Value.bool false))) else bif ZaI s1 then bif !Zam R0 R1 R2 R3 s1 then K (DV.c (D.v (Value.bool false))) else K (DV.c (D.v (Value.bool true))) else False else False) := by kernel_rfl
theorem Ztd (R0 R1 R2 R3 : List (List D)) (s0 s1 s2 : SesD) (K : DV → Prop) : (askX Tryz.prog band bor [] [] [(103, iCoS)] Tryz.f65 [.c (.s 0 17 ([s0, s1, s2].map (sesL 0)) []), .c (.f 66 [.f AG [] [.p 0 (wsL R0 R1 R2 R3) 0]] [])] K) = (bif ZaI s0 then bif !Zam R0 R1 R2 R3 s0 then K (DV.c (D.v (Value.bool false))) else bif ZaI s1 then bif !Zam R0 R1 R2 R3 s1 then K (DV.c (D.v (Value.bool false))) else bif ZaI s2 then bif !Zam R0 R1 R2 R3 s2 then K (DV.c (D.v (Value.bool false))) else K (DV.c (D.v (Value.bool true))) else False else False else False) := by kernel_rfl
theorem ZsK (R0 R1 R2 R3 : List (List D)) (s0 s1 s2 s3 : SesD) (K : DV → Prop) : (askX Tryz.prog band bor [] [] [(103, iCoS)] Tryz.f65 [.c (.s 0 17 ([s0, s1, s2, s3].map (sesL 0)) []), .c (.f 66 [.f AG [] [.p 0 (wsL R0 R1 R2 R3) 0]] [])] K) = (bif ZaI s0 then bif !Zam R0 R1 R2 R3 s0 then K (DV.c (D.v (Value.bool false))) else bif ZaI s1 then bif !Zam R0 R1 R2 R3 s1 then K (DV.c (D.v (Value.bool false))) else bif ZaI s2 then bif !Zam R0 R1 R2 R3 s2 then K (DV.c (D.v (Value.bool false))) else bif ZaI s3 then bif !Zam R0 R1 R2 R3 s3 then K (DV.c (D.v (Value.bool false))) else K (DV.c (D.v (Value.bool true))) else False else False else False else False) := by kernel_rfl
def okSS (ss : List SesD) : Bool := ss.all ZaI
theorem ZtJ (R0 R1 R2 R3 : List (List D)) : ∀ (ss : List SesD), ss.length ≤ 4 → okSS ss = true → CT Tryz.prog 65 [.c (.s 0 17 (ss.map (sesL 0)) []), .c (.f 66 [.f AG [] [.p 0 (wsL R0 R1 R2 R3) 0]] [])] (B (ss.all (Zam R0 R1 R2 R3))) := by
  intro ss hl hok
  unfold okSS at hok
  rcases ss with _ | ⟨s0, _ | ⟨s1, _ | ⟨s2, _ | ⟨s3, _ | ⟨s4, l⟩⟩⟩⟩⟩
  · refine ct_x .nil .nil (.cons ZfN .nil) mixed Tryz.func65 rfl rfl rfl ?_
    rw [Zs4]
    refine ⟨?_⟩
    simp only [List.all_cons, List.all_nil, Bool.and_eq_true, Bool.and_true] at hok
    simp only [hok, cond_true, List.all_cons, List.all_nil, bifN, Bool.and_true, Bool.and_assoc]
  · refine ct_x .nil .nil (.cons ZfN .nil) mixed Tryz.func65 rfl rfl rfl ?_
    rw [ZsZ]
    refine ⟨?_⟩
    simp only [List.all_cons, List.all_nil, Bool.and_eq_true, Bool.and_true] at hok
    simp only [hok, cond_true, List.all_cons, List.all_nil, bifN, Bool.and_true, Bool.and_assoc]
  · refine ct_x .nil .nil (.cons ZfN .nil) mixed Tryz.func65 rfl rfl rfl ?_
    rw [ZsA]
    refine ⟨?_⟩
    simp only [List.all_cons, List.all_nil, Bool.and_eq_true, Bool.and_true] at hok
    simp only [hok, cond_true, List.all_cons, List.all_nil, bifN, Bool.and_true, Bool.and_assoc]
  · refine ct_x .nil .nil (.cons ZfN .nil) mixed Tryz.func65 rfl rfl rfl ?_
    rw [Ztd]
    refine ⟨?_⟩
    simp only [List.all_cons, List.all_nil, Bool.and_eq_true, Bool.and_true] at hok
    simp only [hok, cond_true, List.all_cons, List.all_nil, bifN, Bool.and_true, Bool.and_assoc]
  · refine ct_x .nil .nil (.cons ZfN .nil) mixed Tryz.func65 rfl rfl rfl ?_
    rw [ZsK]
    refine ⟨?_⟩
    simp only [List.all_cons, List.all_nil, Bool.and_eq_true, Bool.and_true] at hok
    simp only [hok, cond_true, List.all_cons, List.all_nil, bifN, Bool.and_true, Bool.and_assoc]
  · simp at hl
def ZkN : Spec := fun ds Q => match ds with
  | [.c d, .c e] => cond d.isOwn False (Zly d fun ss => Zgf 66 e fun R0 R1 R2 R3 => cond (Nat.ble ss.length 4 && okSS ss) (Q (B (ss.all (Zam R0 R1 R2 R3)))) False)
  | _ => False
theorem Zm3 : Zac Tryz.prog 65 ZkN := o_al Tryz.func65 (by kernel_rfl) rfl fun ds Q h => by
  unfold ZkN at h; split at h
  · rename_i d e
    cases hd : d.isOwn with
    | true => rw [hd] at h; exact h.elim
    | false =>
      rw [hd] at h
      obtain ⟨ss, h, r1⟩ := ZdD h
      obtain ⟨R0, R1, R2, R3, h, r2, e2⟩ := Zb2 (by decide) h
      obtain ⟨h1, h2⟩ := Zae h
      rw [Bool.and_eq_true] at h1
      exact ⟨_, _, .cons (.c r1 hd rfl) (.cons (.c r2 e2 rfl) .nil), ZtJ R0 R1 R2 R3 ss (Nat.le_of_ble_eq_true h1.1) h1.2, rfl, rfl, h2⟩
  · exact h.elim
def Zdh : List SesD → Bool
  | a :: b :: l => !decide (a.id ≥ b.id) && Zdh (b :: l)
  | _ => true
def clkB (h : Mh) : Bool := ck4 h.c0 h.c1 h.c2 h.c3 && clk h.ce
def mmay (h : Mh) (ss : List SesD) : Bool := amay (toZ h.w0) (toZ h.w1) (toZ h.w2) (toZ h.w3) && (clkB h && (!decide (mx4 h.c0 h.c1 h.c2 h.c3 > h.ce) && (!decide ((ss.length : Int) > 4) && (!decide ((h.tr.length : Int) > 512) && (Zdh ss && (ss.all (Zam h.w0 h.w1 h.w2 h.w3) && !(toZ h.tr).any noEv))))))
def okM (h : Mh) (ss : List SesD) : Bool := okA h.w0 h.w1 h.w2 h.w3 && (okZ 4 h.tr && okSS ss)
theorem eMM0 (h : Mh) (K : DV → Prop) : (ask Tryz.prog [(60, ZbU), (61, sCkM), (62, sMx), (65, ZkN), (67, Zgc)] Tryz.f26 [.agg (macL 0 h [])] K) = (bif okA h.w0 h.w1 h.w2 h.w3 then bif !amay (toZ h.w0) (toZ h.w1) (toZ h.w2) (toZ h.w3) then K (DV.c (D.v (Value.bool false))) else bif !(ck4 h.c0 h.c1 h.c2 h.c3 && clk h.ce) then K (DV.c (D.v (Value.bool false))) else bif decide (mx4 h.c0 h.c1 h.c2 h.c3 > h.ce) then K (DV.c (D.v (Value.bool false))) else bif decide (@Nat.cast Int _ (List.length h.tr) > 512) then K (DV.c (D.v (Value.bool false))) else bif okZ (4) h.tr then K (DV.c (D.v (Value.bool !List.any (toZ h.tr) noEv))) else False else False) := by kernel_rfl
theorem eMM1 (h : Mh) (s0 : SesD) (K : DV → Prop) : (ask Tryz.prog [(60, ZbU), (61, sCkM), (62, sMx), (65, ZkN), (67, Zgc)] Tryz.f26 [.agg (macL 0 h [s0])] K) = (bif okA h.w0 h.w1 h.w2 h.w3 then bif !amay (toZ h.w0) (toZ h.w1) (toZ h.w2) (toZ h.w3) then K (DV.c (D.v (Value.bool false))) else bif !(ck4 h.c0 h.c1 h.c2 h.c3 && clk h.ce) then K (DV.c (D.v (Value.bool false))) else bif decide (mx4 h.c0 h.c1 h.c2 h.c3 > h.ce) then K (DV.c (D.v (Value.bool false))) else bif decide (@Nat.cast Int _ (List.length h.tr) > 512) then K (DV.c (D.v (Value.bool false))) else bif Nat.ble (1) (OfNat.ofNat (4)) && okSS [s0] then bif List.all [s0] (Zam h.w0 h.w1 h.w2 h.w3) then bif okZ (4) h.tr then K (DV.c (D.v (Value.bool !List.any (toZ h.tr) noEv))) else False else K (DV.c (D.v (Value.bool false))) else False else False) := by kernel_rfl
theorem eMM2 (h : Mh) (s0 s1 : SesD) (K : DV → Prop) : (ask Tryz.prog [(60, ZbU), (61, sCkM), (62, sMx), (65, ZkN), (67, Zgc)] Tryz.f26 [.agg (macL 0 h [s0, s1])] K) = (bif okA h.w0 h.w1 h.w2 h.w3 then bif !amay (toZ h.w0) (toZ h.w1) (toZ h.w2) (toZ h.w3) then K (DV.c (D.v (Value.bool false))) else bif !(ck4 h.c0 h.c1 h.c2 h.c3 && clk h.ce) then K (DV.c (D.v (Value.bool false))) else bif decide (mx4 h.c0 h.c1 h.c2 h.c3 > h.ce) then K (DV.c (D.v (Value.bool false))) else bif decide (@Nat.cast Int _ (List.length h.tr) > 512) then K (DV.c (D.v (Value.bool false))) else bif decide (s0.id ≥ s1.id) then K (DV.c (D.v (Value.bool false))) else bif Nat.ble (2) (OfNat.ofNat (4)) && okSS [s0, s1] then bif List.all [s0, s1] (Zam h.w0 h.w1 h.w2 h.w3) then bif okZ (4) h.tr then K (DV.c (D.v (Value.bool !List.any (toZ h.tr) noEv))) else False else K (DV.c (D.v (Value.bool false))) else False else False) := by kernel_rfl
theorem eMM3 (h : Mh) (s0 s1 s2 : SesD) (K : DV → Prop) : (ask Tryz.prog [(60, ZbU), (61, sCkM), (62, sMx), (65, ZkN), (67, Zgc)] Tryz.f26 [.agg (macL 0 h [s0, s1, s2])] K) = (bif okA h.w0 h.w1 h.w2 h.w3 then bif !amay (toZ h.w0) (toZ h.w1) (toZ h.w2) (toZ h.w3) then K (DV.c (D.v (Value.bool false))) else bif !(ck4 h.c0 h.c1 h.c2 h.c3 && clk h.ce) then K (DV.c (D.v (Value.bool false))) else bif decide (mx4 h.c0 h.c1 h.c2 h.c3 > h.ce) then K (DV.c (D.v (Value.bool false))) else bif decide (@Nat.cast Int _ (List.length h.tr) > 512) then K (DV.c (D.v (Value.bool false))) else bif decide (s0.id ≥ s1.id) then K (DV.c (D.v (Value.bool false))) else bif decide (s1.id ≥ s2.id) then K (DV.c (D.v (Value.bool false))) else bif Nat.ble (3) (OfNat.ofNat (4)) && okSS [s0, s1, s2] then bif List.all [s0, s1, s2] (Zam h.w0 h.w1 h.w2 h.w3) then bif okZ (4) h.tr then K (DV.c (D.v (Value.bool !List.any (toZ h.tr) noEv))) else False else K (DV.c (D.v (Value.bool false))) else False else False) := by kernel_rfl
theorem eMM4 (h : Mh) (s0 s1 s2 s3 : SesD) (K : DV → Prop) : (ask Tryz.prog [(60, ZbU), (61, sCkM), (62, sMx), (65, ZkN), (67, Zgc)] Tryz.f26 [.agg (macL 0 h [s0, s1, s2, s3])] K) = (bif okA h.w0 h.w1 h.w2 h.w3 then bif !amay (toZ h.w0) (toZ h.w1) (toZ h.w2) (toZ h.w3) then K (DV.c (D.v (Value.bool false))) else bif !(ck4 h.c0 h.c1 h.c2 h.c3 && clk h.ce) then K (DV.c (D.v (Value.bool false))) else bif decide (mx4 h.c0 h.c1 h.c2 h.c3 > h.ce) then K (DV.c (D.v (Value.bool false))) else bif decide (@Nat.cast Int _ (List.length h.tr) > 512) then K (DV.c (D.v (Value.bool false))) else bif decide (s0.id ≥ s1.id) then K (DV.c (D.v (Value.bool false))) else bif decide (s1.id ≥ s2.id) then K (DV.c (D.v (Value.bool false))) else bif decide (s2.id ≥ s3.id) then K (DV.c (D.v (Value.bool false))) else bif Nat.ble (4) (OfNat.ofNat (4)) && okSS [s0, s1, s2, s3] then bif List.all [s0, s1, s2, s3] (Zam h.w0 h.w1 h.w2 h.w3) then bif okZ (4) h.tr then K (DV.c (D.v (Value.bool !List.any (toZ h.tr) noEv))) else False else K (DV.c (D.v (Value.bool false))) else False else False) := by kernel_rfl
theorem eMMB (h : Mh) (R sp : List (List D)) (K : DV → Prop) : (askL Tryz.prog [(60, ZbU), (61, sCkM), (62, sMx)] [(4, fun _ _ => False)] Tryz.f26 [.agg [.s 0 3 h.w0 [], .s 0 3 h.w1 [], .s 0 3 h.w2 [], .s 0 3 h.w3 [], vN h.c0, vN h.c1, vN h.c2, vN h.c3, vN h.ce, .s 0 17 R sp, .s 0 4 h.tr []]] K) = (bif okA h.w0 h.w1 h.w2 h.w3 then bif !amay (toZ h.w0) (toZ h.w1) (toZ h.w2) (toZ h.w3) then K (DV.c (D.v (Value.bool false))) else bif !(ck4 h.c0 h.c1 h.c2 h.c3 && clk h.ce) then K (DV.c (D.v (Value.bool false))) else bif decide (mx4 h.c0 h.c1 h.c2 h.c3 > h.ce) then K (DV.c (D.v (Value.bool false))) else bif decide (@Nat.cast Int _ (List.length R) > 4) then K (DV.c (D.v (Value.bool false))) else bif decide (@Nat.cast Int _ (List.length h.tr) > 512) then K (DV.c (D.v (Value.bool false))) else False else False) := by kernel_rfl
theorem bifP (p q : Bool) (x : DV) : (bif p then (DV.c (.v (.bool false)) = x) else (DV.c (.v (.bool q)) = x)) = (DV.c (.v (.bool (!p && q))) = x) := by cases p <;> rfl
theorem Zla {P : Program} {l : List (FuncId × Spec)} {k : Nat} {c : Code} : ZaC P (hkl l [(k, fun _ _ => False)]) c := fun b hb s hs Q x hq => by
  have hs' : ZcY [(k, fun _ _ => False)] (Zbt b) = some s := hs
  unfold ZcY at hs'
  split at hs'
  · cases hs'; exact hq.elim
  · cases hs'
theorem ZbK {h : Mh} {ss : List SesD} (hm : okM h ss = true) : okA h.w0 h.w1 h.w2 h.w3 = true ∧ okZ 4 h.tr = true ∧ okSS ss = true := by
  unfold okM at hm; simpa [Bool.and_eq_true] using hm
theorem Zs7 (h : Mh) (ss : List SesD) (hok : okM h ss = true) : CT Tryz.prog 26 [.agg (macL 0 h ss)] (B (mmay h ss)) := by
  obtain ⟨h1, h2, h3⟩ := ZbK hok
  rcases ss with _ | ⟨s0, _ | ⟨s1, _ | ⟨s2, _ | ⟨s3, _ | ⟨s4, l⟩⟩⟩⟩⟩
  · refine ct_s (.cons Zis (.cons oCkM (.cons oMx (.cons Zm3 (.cons Zjb .nil))))) mixed Tryz.func26 rfl rfl rfl ?_
    rw [eMM0]
    refine ⟨?_⟩
    simp only [h1, h2, h3, cond_true, bifN, bifP, bifK, Bool.and_true, (by decide : Nat.ble 0 4 = true), Bool.true_and]
    unfold mmay clkB
    simp [Zdh, Bool.and_assoc]
  · refine ct_s (.cons Zis (.cons oCkM (.cons oMx (.cons Zm3 (.cons Zjb .nil))))) mixed Tryz.func26 rfl rfl rfl ?_
    rw [eMM1]
    refine ⟨?_⟩
    simp only [h1, h2, h3, cond_true, bifN, bifP, bifK, Bool.and_true, (by decide : Nat.ble 1 4 = true), Bool.true_and]
    unfold mmay clkB
    simp [Zdh, Bool.and_assoc]
  · refine ct_s (.cons Zis (.cons oCkM (.cons oMx (.cons Zm3 (.cons Zjb .nil))))) mixed Tryz.func26 rfl rfl rfl ?_
    rw [eMM2]
    refine ⟨?_⟩
    simp only [h1, h2, h3, cond_true, bifN, bifP, bifK, Bool.and_true, (by decide : Nat.ble 2 4 = true), Bool.true_and]
    unfold mmay clkB
    simp [Zdh, Bool.and_assoc]
  · refine ct_s (.cons Zis (.cons oCkM (.cons oMx (.cons Zm3 (.cons Zjb .nil))))) mixed Tryz.func26 rfl rfl rfl ?_
    rw [eMM3]
    refine ⟨?_⟩
    simp only [h1, h2, h3, cond_true, bifN, bifP, bifK, Bool.and_true, (by decide : Nat.ble 3 4 = true), Bool.true_and]
    unfold mmay clkB
    simp [Zdh, Bool.and_assoc]
  · refine ct_s (.cons Zis (.cons oCkM (.cons oMx (.cons Zm3 (.cons Zjb .nil))))) mixed Tryz.func26 rfl rfl rfl ?_
    rw [eMM4]
    refine ⟨?_⟩
    simp only [h1, h2, h3, cond_true, bifN, bifP, bifK, Bool.and_true, (by decide : Nat.ble 4 4 = true), Bool.true_and]
    unfold mmay clkB
    simp [Zdh, Bool.and_assoc]
  · refine Zif (l := [(60, ZbU), (61, sCkM), (62, sMx)]) (m := [(4, fun _ _ => False)]) (.cons Zis (.cons oCkM (.cons oMx .nil))) mixed Zla Tryz.func26 rfl rfl rfl ?_
    unfold macL
    rw [eMMB]
    refine ⟨?_⟩
    have h5 : decide (((List.map (sesL 0) (s0 :: s1 :: s2 :: s3 :: s4 :: l)).length : Int) > 4) = true := by simp; omega
    have h6 : decide (((s0 :: s1 :: s2 :: s3 :: s4 :: l).length : Int) > 4) = true := by simp; omega
    unfold mmay clkB
    simp only [h1, h5, h6, cond_true, bifN, bifP, Bool.not_true, Bool.false_and, Bool.not_not]
def ZpV : Spec := fun ds Q => match ds with
  | [d] => macA d fun h ss => cond (okM h ss) (Q (B (mmay h ss))) False
  | _ => False
theorem Ztc : Zac Tryz.prog 26 ZpV := o_al Tryz.func26 (by kernel_rfl) rfl fun ds Q h => by
  unfold ZpV at h; split at h
  · obtain ⟨m, ss, h, r⟩ := ZbA h
    obtain ⟨h1, h2⟩ := Zae h
    exact ⟨_, _, .cons r .nil, Zs7 m ss h1, rfl, rfl, h2⟩
  · exact h.elim
theorem eThe (h : Mh) (ss : List SesD) (at' : Int) (K : DV → Prop) : (ask Tryz.prog [(26, sAtD [.agg (macL 0 h ss)] (B (mmay h ss)))] Tryz.f52 [.c (.p 0 (macL 0 h ss) 0), I at'] K) = ([DV.agg (macL (0) h ss)] = [DV.agg (macL (0) h ss)] ∧ bif mmay h ss then bif decide (at' ≥ 0) then K (DV.c (D.v (Value.bool (decide (at' < @Nat.cast Int _ (List.length (List.map (sesL (0)) ss))))))) else K (DV.c (D.v (Value.bool false))) else K (DV.c (D.v (Value.bool false)))) := by kernel_rfl
def Zb6 (h : Mh) (ss : List SesD) (i : Int) : Bool := mmay h ss && (decide (i ≥ 0) && decide (i < ss.length))
theorem ZtC : Goes Tryz.prog 26 := Zat Tryz.func26 (by kernel_rfl) rfl
theorem cThe (h : Mh) (ss : List SesD) (i : Int) (hok : okM h ss = true) : CT Tryz.prog 52 [.c (.p 0 (macL 0 h ss) 0), I i] (B (Zb6 h ss i)) := by
  refine ct_s (.cons (oAtD ZtC (Zs7 h ss hok) rfl rfl) .nil) mixed Tryz.func52 rfl rfl rfl ?_
  rw [eThe]
  refine ⟨rfl, ?_⟩
  unfold Zb6
  rw [List.length_map]
  simp only [bifK]
end

section
open Go Go.Proofs
theorem ZcG {h : Mh} {ss : List SesD} {i : Int} (hm : Zb6 h ss i = true) : mmay h ss = true ∧ 0 ≤ i ∧ i < ss.length := by
  unfold Zb6 at hm; simpa [Bool.and_eq_true] using hm
theorem Zfc {h : Mh} {ss : List SesD} (hm : mmay h ss = true) : ss.length ≤ 4 ∧ ∀ s ∈ ss, Zam h.w0 h.w1 h.w2 h.w3 s = true := by
  unfold mmay at hm
  simp only [Bool.and_eq_true, Bool.not_eq_true', decide_eq_false_iff_not, List.all_eq_true] at hm
  exact ⟨by omega, hm.2.2.2.2.2.2.1⟩
theorem Zn7 {h : Mh} {ss : List SesD} {i : Int} (hok : okM h ss = true) (hm : Zb6 h ss i = true) : ∃ s, ss[i.toNat]? = some s ∧ ZaI s = true ∧ Zam h.w0 h.w1 h.w2 h.w3 s = true := by
  obtain ⟨g0, g1, g2⟩ := ZcG hm
  have hl : i.toNat < ss.length := by omega
  have hmem : ss[i.toNat] ∈ ss := List.getElem_mem hl
  exact ⟨ss[i.toNat], List.getElem?_eq_getElem hl, List.all_eq_true.1 (ZbK hok).2.2 _ hmem, (Zfc g0).2 _ hmem⟩
end

section
open Go Go.Proofs
def kX (R : List (List D)) : Bool := decide (List.length R ≤ List.length (R ++ [])) && List.all (R ++ []) fun r => List.all r D.keeps
def tC (R : List (List D)) : List (List D) := List.take (List.length R) (R ++ [])
def tD (R : List (List D)) : List (List D) := List.take (List.length R + 0 - List.length R) (List.drop (List.length R) (R ++ []))
def sTt (s : SesD) : List D := [vN s.id, vN s.lb, vN s.cl, .s 1 4 (tC s.pg) (tD s.pg), vN s.st, vN s.pc, vN s.r0, vN s.r1, vN s.r2, vN s.r3, .s 1 3 (tC s.rd) (tD s.rd), .s 1 3 (tC s.wt) (tD s.wt), vN s.at', vN s.sp, vN s.tr, vN s.rs, vN s.to]
theorem ZtR (s : SesD) (K : DV → Prop) : (ask Tryz.prog [(90, ZcN), (149, ZdN), (137, Zdg)] Tryz.f96 [.agg (sesL 0 s)] K) = (bif allV s.pg && decide (List.length s.pg ≤ 4398046510977) then bif allV s.rd && decide (List.length s.rd ≤ 5864062014635) then bif allV s.wt && decide (List.length s.wt ≤ 5864062014635) then bif kX s.pg then bif kX s.rd then bif kX s.wt then K (DV.agg (sTt s)) else False else False else False else False else False else False) := by kernel_rfl
def smR (n : Nat) (R : List (List D)) : Bool := allV R && decide (R.length ≤ n)
def smS (s : SesD) : Bool := smR 4398046510977 s.pg && (smR 5864062014635 s.rd && smR 5864062014635 s.wt)
def smM (h : Mh) (ss : List SesD) : Bool := okC4 h.w0 h.w1 h.w2 h.w3 && (smR 4398046510977 h.tr && ss.all smS)
theorem Zab {n : Nat} {R : List (List D)} (h : smR n R = true) : allV R = true ∧ R.length ≤ n ∧ (R.all fun r => r.all D.keeps) = true := by
  unfold smR at h
  simp only [Bool.and_eq_true, decide_eq_true_eq] at h
  exact ⟨h.1, h.2, Zax h.1⟩
theorem Zcl {n z m : Nat} {R : List (List D)} (h : okZ z R = true) (hl : R.length ≤ m) (hm : m ≤ n) : smR n R = true := by
  unfold smR
  rw [ZaT h, decide_eq_true (by omega : R.length ≤ n)]; rfl
theorem ZaD {s : SesD} (h : smS s = true) : smR 4398046510977 s.pg = true ∧ smR 5864062014635 s.rd = true ∧ smR 5864062014635 s.wt = true := by
  unfold smS at h; simpa [Bool.and_eq_true] using h
theorem Zby (R : List (List D)) : List.take R.length R = R := List.take_length
theorem Ze9 {s : SesD} (h : smS s = true) : ownL (sesL 1 s) = true := by
  obtain ⟨h1, h2, h3⟩ := ZaD h
  simp only [sesL, ownL, D.pureOwn, ZaO (Zab h1).1, ZaO (Zab h2).1, ZaO (Zab h3).1, Zd2]; rfl
theorem Zto (s : SesD) (hs : smS s = true) : CT Tryz.prog 96 [.agg (sesL 0 s)] (.agg (sesL 1 s)) := by
  obtain ⟨h1, h2, h3⟩ := ZaD hs
  obtain ⟨a1, a2, a3⟩ := Zab h1
  obtain ⟨b1, b2, b3⟩ := Zab h2
  obtain ⟨c1, c2, c3⟩ := Zab h3
  refine ct_s (.cons ZdJ (.cons Zki (.cons Zi3 .nil))) mixed Tryz.func96 rfl rfl rfl ?_
  rw [ZtR]
  refine ⟨?_⟩
  simp only [kX, tC, tD, sTt]
  simp only [a1, a2, a3, b1, b2, b3, c1, c2, c3, List.append_nil, Nat.le_refl, decide_true, Bool.and_self, cond_true, Zby, Nat.add_zero, Nat.sub_self, List.take_zero]
  rfl
def Zcq : Spec := fun ds Q => match ds with
  | [d] => sesA d fun s => cond (smS s) (Q (.agg (sesL 1 s))) False
  | _ => False
theorem Zou : Zac Tryz.prog 96 Zcq := o_al Tryz.func96 (by kernel_rfl) rfl fun ds Q h => by
  unfold Zcq at h; split at h
  · obtain ⟨s, h, r⟩ := Zbz h
    obtain ⟨h1, h2⟩ := Zae h
    exact ⟨_, _, .cons r .nil, Zto s h1, Ze9 h1, rfl, h2⟩
  · exact h.elim
theorem ZuI (K : DV → Prop) : (ask Tryz.prog [] Tryz.f94 [.c (.s 0 17 ([].map (sesL 0)) [])] K) = (K (DV.c (D.s (1) (17) [] [])) ∧ K (DV.c (D.s (1) (17) [] []))) := by kernel_rfl
theorem Zt3 (s0 : SesD) (K : DV → Prop) : (ask Tryz.prog [] Tryz.f94 [.c (.s 0 17 ([s0].map (sesL 0)) [])] K) = (True ∧ K (DV.c (D.s (1) (17) [(sesL (0) s0)] []))) := by kernel_rfl
theorem ZuB (s0 s1 : SesD) (K : DV → Prop) : (ask Tryz.prog [] Tryz.f94 [.c (.s 0 17 ([s0, s1].map (sesL 0)) [])] K) = (True ∧ K (DV.c (D.s (1) (17) [(sesL (0) s0), (sesL (0) s1)] []))) := by kernel_rfl
theorem ZtV (s0 s1 s2 : SesD) (K : DV → Prop) : (ask Tryz.prog [] Tryz.f94 [.c (.s 0 17 ([s0, s1, s2].map (sesL 0)) [])] K) = (True ∧ K (DV.c (D.s (1) (17) [(sesL (0) s0), (sesL (0) s1), (sesL (0) s2)] []))) := by kernel_rfl
theorem ZuR (s0 s1 s2 s3 : SesD) (K : DV → Prop) : (ask Tryz.prog [] Tryz.f94 [.c (.s 0 17 ([s0, s1, s2, s3].map (sesL 0)) [])] K) = (True ∧ K (DV.c (D.s (1) (17) [(sesL (0) s0), (sesL (0) s1), (sesL (0) s2), (sesL (0) s3)] []))) := by kernel_rfl
theorem cClS (ss : List SesD) (hl : ss.length ≤ 4) : CT Tryz.prog 94 [.c (.s 0 17 (ss.map (sesL 0)) [])] (.c (.s 1 17 (ss.map (sesL 0)) [])) := by
  rcases ss with _ | ⟨s0, _ | ⟨s1, _ | ⟨s2, _ | ⟨s3, _ | ⟨s4, l⟩⟩⟩⟩⟩
  · refine ct_s .nil mixed Tryz.func94 rfl rfl rfl ?_
    rw [ZuI]
    exact ⟨⟨rfl, rfl⟩⟩
  · refine ct_s .nil mixed Tryz.func94 rfl rfl rfl ?_
    rw [Zt3]
    exact ⟨⟨trivial, rfl⟩⟩
  · refine ct_s .nil mixed Tryz.func94 rfl rfl rfl ?_
    rw [ZuB]
    exact ⟨⟨trivial, rfl⟩⟩
  · refine ct_s .nil mixed Tryz.func94 rfl rfl rfl ?_
    rw [ZtV]
    exact ⟨⟨trivial, rfl⟩⟩
  · refine ct_s .nil mixed Tryz.func94 rfl rfl rfl ?_
    rw [ZuR]
    exact ⟨⟨trivial, rfl⟩⟩
  · simp at hl
def sClS : Spec := fun ds Q => match ds with
  | [.c d] => cond d.isOwn False (Zly d fun ss => cond (Nat.ble ss.length 4) (Q (.c (.s 1 17 (ss.map (sesL 0)) []))) False)
  | _ => False
theorem oClS : ZjO Tryz.prog 94 sClS := fun ds Q h => by
  refine ⟨Zat Tryz.func94 (by kernel_rfl) rfl, ?_⟩
  unfold sClS at h; split at h
  · rename_i d
    cases hd : d.isOwn with
    | true => rw [hd] at h; exact h.elim
    | false =>
      rw [hd] at h
      obtain ⟨ss, h, r⟩ := ZdD h
      obtain ⟨h1, h2⟩ := Zae h
      exact ⟨_, (cClS ss (Nat.le_of_ble_eq_true h1)).args (.cons (.c r hd rfl) .nil), rfl, h2⟩
  · exact h.elim
theorem ZtK (h : Mh) (K : DV → Prop) : (askH Tryz.prog (hkM [(93, ZbD), (95, Zbh), (96, Zcq)] [(94, sClS)] []) Tryz.f53 [.agg (macL 0 h [])] K) = (bif okC4 h.w0 h.w1 h.w2 h.w3 then bif allV h.tr && decide (List.length h.tr ≤ 4398046510977) then bif kX h.w0 then bif kX h.w1 then bif kX h.w2 then bif kX h.w3 then bif kX h.tr then K (DV.agg [D.s (1) (3) (tC h.w0) (tD h.w0), D.s (1) (3) (tC h.w1) (tD h.w1), D.s (1) (3) (tC h.w2) (tD h.w2), D.s (1) (3) (tC h.w3) (tD h.w3), vN h.c0, vN h.c1, vN h.c2, vN h.c3, vN h.ce, D.s (1) (17) [] [], D.s (1) (4) (tC h.tr) (tD h.tr)]) else False else False else False else False else False else False else False) := by kernel_rfl
theorem ZtD (h : Mh) (s0 : SesD) (K : DV → Prop) : (askH Tryz.prog (hkM [(93, ZbD), (95, Zbh), (96, Zcq)] [(94, sClS)] []) Tryz.f53 [.agg (macL 0 h [s0])] K) = (bif okC4 h.w0 h.w1 h.w2 h.w3 then bif allV h.tr && decide (List.length h.tr ≤ 4398046510977) then bif smS s0 then bif kX h.w0 then bif kX h.w1 then bif kX h.w2 then bif kX h.w3 then bif kX s0.pg then bif kX s0.rd then bif kX s0.wt then bif kX h.tr then K (DV.agg [D.s (1) (3) (tC h.w0) (tD h.w0), D.s (1) (3) (tC h.w1) (tD h.w1), D.s (1) (3) (tC h.w2) (tD h.w2), D.s (1) (3) (tC h.w3) (tD h.w3), vN h.c0, vN h.c1, vN h.c2, vN h.c3, vN h.ce, D.s (1) (17) [(sTt s0)] [], D.s (1) (4) (tC h.tr) (tD h.tr)]) else False else False else False else False else False else False else False else False else False else False else False) := by kernel_rfl
theorem ZtM (h : Mh) (s0 s1 : SesD) (K : DV → Prop) : (askH Tryz.prog (hkM [(93, ZbD), (95, Zbh), (96, Zcq)] [(94, sClS)] []) Tryz.f53 [.agg (macL 0 h [s0, s1])] K) = (bif okC4 h.w0 h.w1 h.w2 h.w3 then bif allV h.tr && decide (List.length h.tr ≤ 4398046510977) then bif smS s0 then bif smS s1 then bif kX h.w0 then bif kX h.w1 then bif kX h.w2 then bif kX h.w3 then bif kX s0.pg then bif kX s0.rd then bif kX s0.wt then bif kX s1.pg then bif kX s1.rd then bif kX s1.wt then bif kX h.tr then K (DV.agg [D.s (1) (3) (tC h.w0) (tD h.w0), D.s (1) (3) (tC h.w1) (tD h.w1), D.s (1) (3) (tC h.w2) (tD h.w2), D.s (1) (3) (tC h.w3) (tD h.w3), vN h.c0, vN h.c1, vN h.c2, vN h.c3, vN h.ce, D.s (1) (17) [(sTt s0), (sTt s1)] [], D.s (1) (4) (tC h.tr) (tD h.tr)]) else False else False else False else False else False else False else False else False else False else False else False else False else False else False else False) := by kernel_rfl
theorem Ztl (h : Mh) (s0 s1 s2 : SesD) (K : DV → Prop) : (askH Tryz.prog (hkM [(93, ZbD), (95, Zbh), (96, Zcq)] [(94, sClS)] []) Tryz.f53 [.agg (macL 0 h [s0, s1, s2])] K) = (bif okC4 h.w0 h.w1 h.w2 h.w3 then bif allV h.tr && decide (List.length h.tr ≤ 4398046510977) then bif smS s0 then bif smS s1 then bif smS s2 then bif kX h.w0 then bif kX h.w1 then bif kX h.w2 then bif kX h.w3 then bif kX s0.pg then bif kX s0.rd then bif kX s0.wt then bif kX s1.pg then bif kX s1.rd then bif kX s1.wt then bif kX s2.pg then bif kX s2.rd then bif kX s2.wt then bif kX h.tr then K (DV.agg [D.s (1) (3) (tC h.w0) (tD h.w0), D.s (1) (3) (tC h.w1) (tD h.w1), D.s (1) (3) (tC h.w2) (tD h.w2), D.s (1) (3) (tC h.w3) (tD h.w3), vN h.c0, vN h.c1, vN h.c2, vN h.c3, vN h.ce, D.s (1) (17) [(sTt s0), (sTt s1), (sTt s2)] [], D.s (1) (4) (tC h.tr) (tD h.tr)]) else False else False else False else False else False else False else False else False else False else False else False else False else False else False else False else False else False else False else False) := by kernel_rfl
theorem Ztt (h : Mh) (s0 s1 s2 s3 : SesD) (K : DV → Prop) : (askH Tryz.prog (hkM [(93, ZbD), (95, Zbh), (96, Zcq)] [(94, sClS)] []) Tryz.f53 [.agg (macL 0 h [s0, s1, s2, s3])] K) = (bif okC4 h.w0 h.w1 h.w2 h.w3 then bif allV h.tr && decide (List.length h.tr ≤ 4398046510977) then bif smS s0 then bif smS s1 then bif smS s2 then bif smS s3 then bif kX h.w0 then bif kX h.w1 then bif kX h.w2 then bif kX h.w3 then bif kX s0.pg then bif kX s0.rd then bif kX s0.wt then bif kX s1.pg then bif kX s1.rd then bif kX s1.wt then bif kX s2.pg then bif kX s2.rd then bif kX s2.wt then bif kX s3.pg then bif kX s3.rd then bif kX s3.wt then bif kX h.tr then K (DV.agg [D.s (1) (3) (tC h.w0) (tD h.w0), D.s (1) (3) (tC h.w1) (tD h.w1), D.s (1) (3) (tC h.w2) (tD h.w2), D.s (1) (3) (tC h.w3) (tD h.w3), vN h.c0, vN h.c1, vN h.c2, vN h.c3, vN h.ce, D.s (1) (17) [(sTt s0), (sTt s1), (sTt s2), (sTt s3)] [], D.s (1) (4) (tC h.tr) (tD h.tr)]) else False else False else False else False else False else False else False else False else False else False else False else False else False else False else False else False else False else False else False else False else False else False else False) := by kernel_rfl
theorem Zcj {h : Mh} {ss : List SesD} (hm : smM h ss = true) : (smR 5864062014635 h.w0 = true ∧ smR 5864062014635 h.w1 = true ∧ smR 5864062014635 h.w2 = true ∧ smR 5864062014635 h.w3 = true) ∧ smR 4398046510977 h.tr = true ∧ ∀ s ∈ ss, smS s = true := by
  unfold smM okC4 okC at hm
  simp only [Bool.and_eq_true, List.all_eq_true] at hm
  unfold smR
  simp only [Bool.and_eq_true]
  refine ⟨⟨hm.1.1, hm.1.2.1, hm.1.2.2.1, hm.1.2.2.2⟩, ?_, hm.2.2⟩
  have := hm.2.1
  unfold smR at this
  rw [Bool.and_eq_true] at this
  exact this
theorem Zlc {h : Mh} {ss : List SesD} (hm : smM h ss = true) : okC4 h.w0 h.w1 h.w2 h.w3 = true := by unfold smM at hm; rw [Bool.and_eq_true] at hm; exact hm.1
theorem Zhr {h : Mh} {ss : List SesD} (hm : smM h ss = true) : ownL (macL 1 h ss) = true := by
  obtain ⟨⟨a0, a1, a2, a3⟩, a4, a5⟩ := Zcj hm
  have h6 : Zd2 (ss.map (sesL 1)) = true := by
    clear hm
    induction ss with
    | nil => rfl
    | cons s l ih => simp only [List.map_cons, Zd2, Ze9 (a5 s (by simp)), ih fun q hq => a5 q (by simp [hq])]; rfl
  simp only [macL, ownL, D.pureOwn, ZaO (Zab a0).1, ZaO (Zab a1).1, ZaO (Zab a2).1, ZaO (Zab a3).1, ZaO (Zab a4).1, h6, Zd2]; rfl
theorem cCop (h : Mh) (ss : List SesD) (hl : ss.length ≤ 4) (hm : smM h ss = true) : CT Tryz.prog 53 [.agg (macL 0 h ss)] (.agg (macL 1 h ss)) := by
  have h4 := Zlc hm
  obtain ⟨⟨a0, a1, a2, a3⟩, a4, a5⟩ := Zcj hm
  obtain ⟨_, _, b0⟩ := Zab a0
  obtain ⟨_, _, b1⟩ := Zab a1
  obtain ⟨_, _, b2⟩ := Zab a2
  obtain ⟨_, _, b3⟩ := Zab a3
  obtain ⟨t1, t2, t3⟩ := Zab a4
  rcases ss with _ | ⟨s0, _ | ⟨s1, _ | ⟨s2, _ | ⟨s3, _ | ⟨s4, l⟩⟩⟩⟩⟩
  · refine ct_m (.cons Zjl (.cons ZbL (.cons Zou .nil))) (.cons oClS .nil) .nil mixed Tryz.func53 rfl rfl rfl ?_
    rw [ZtK]
    refine ⟨?_⟩
    simp only [kX, tC, tD, sTt]
    simp only [h4, b0, b1, b2, b3, t1, t2, t3, List.append_nil, Nat.le_refl, decide_true, Bool.and_self, cond_true, Zby, Nat.add_zero, Nat.sub_self, List.take_zero]
    rfl
  · have q0 := a5 s0 (by simp)
    obtain ⟨p0, r0, w0⟩ := ZaD q0
    obtain ⟨_, _, x0⟩ := Zab p0
    obtain ⟨_, _, y0⟩ := Zab r0
    obtain ⟨_, _, z0⟩ := Zab w0
    refine ct_m (.cons Zjl (.cons ZbL (.cons Zou .nil))) (.cons oClS .nil) .nil mixed Tryz.func53 rfl rfl rfl ?_
    rw [ZtD]
    refine ⟨?_⟩
    simp only [kX, tC, tD, sTt]
    simp only [h4, b0, b1, b2, b3, t1, t2, t3, q0, x0, y0, z0, List.append_nil, Nat.le_refl, decide_true, Bool.and_self, cond_true, Zby, Nat.add_zero, Nat.sub_self, List.take_zero]
    rfl
  · have q0 := a5 s0 (by simp)
    obtain ⟨p0, r0, w0⟩ := ZaD q0
    obtain ⟨_, _, x0⟩ := Zab p0
    obtain ⟨_, _, y0⟩ := Zab r0
    obtain ⟨_, _, z0⟩ := Zab w0
    have q1 := a5 s1 (by simp)
    obtain ⟨p1, r1, w1⟩ := ZaD q1
    obtain ⟨_, _, x1⟩ := Zab p1
    obtain ⟨_, _, y1⟩ := Zab r1
    obtain ⟨_, _, z1⟩ := Zab w1
    refine ct_m (.cons Zjl (.cons ZbL (.cons Zou .nil))) (.cons oClS .nil) .nil mixed Tryz.func53 rfl rfl rfl ?_
    rw [ZtM]
    refine ⟨?_⟩
    simp only [kX, tC, tD, sTt]
    simp only [h4, b0, b1, b2, b3, t1, t2, t3, q0, x0, y0, z0, q1, x1, y1, z1, List.append_nil, Nat.le_refl, decide_true, Bool.and_self, cond_true, Zby, Nat.add_zero, Nat.sub_self, List.take_zero]
    rfl
  · have q0 := a5 s0 (by simp)
    obtain ⟨p0, r0, w0⟩ := ZaD q0
    obtain ⟨_, _, x0⟩ := Zab p0
    obtain ⟨_, _, y0⟩ := Zab r0
    obtain ⟨_, _, z0⟩ := Zab w0
    have q1 := a5 s1 (by simp)
    obtain ⟨p1, r1, w1⟩ := ZaD q1
    obtain ⟨_, _, x1⟩ := Zab p1
    obtain ⟨_, _, y1⟩ := Zab r1
    obtain ⟨_, _, z1⟩ := Zab w1
    have q2 := a5 s2 (by simp)
    obtain ⟨p2, r2, w2⟩ := ZaD q2
    obtain ⟨_, _, x2⟩ := Zab p2
    obtain ⟨_, _, y2⟩ := Zab r2
    obtain ⟨_, _, z2⟩ := Zab w2
    refine ct_m (.cons Zjl (.cons ZbL (.cons Zou .nil))) (.cons oClS .nil) .nil mixed Tryz.func53 rfl rfl rfl ?_
    rw [Ztl]
    refine ⟨?_⟩
    simp only [kX, tC, tD, sTt]
    simp only [h4, b0, b1, b2, b3, t1, t2, t3, q0, x0, y0, z0, q1, x1, y1, z1, q2, x2, y2, z2, List.append_nil, Nat.le_refl, decide_true, Bool.and_self, cond_true, Zby, Nat.add_zero, Nat.sub_self, List.take_zero]
    rfl
  · have q0 := a5 s0 (by simp)
    obtain ⟨p0, r0, w0⟩ := ZaD q0
    obtain ⟨_, _, x0⟩ := Zab p0
    obtain ⟨_, _, y0⟩ := Zab r0
    obtain ⟨_, _, z0⟩ := Zab w0
    have q1 := a5 s1 (by simp)
    obtain ⟨p1, r1, w1⟩ := ZaD q1
    obtain ⟨_, _, x1⟩ := Zab p1
    obtain ⟨_, _, y1⟩ := Zab r1
    obtain ⟨_, _, z1⟩ := Zab w1
    have q2 := a5 s2 (by simp)
    obtain ⟨p2, r2, w2⟩ := ZaD q2
    obtain ⟨_, _, x2⟩ := Zab p2
    obtain ⟨_, _, y2⟩ := Zab r2
    obtain ⟨_, _, z2⟩ := Zab w2
    have q3 := a5 s3 (by simp)
    obtain ⟨p3, r3, w3⟩ := ZaD q3
    obtain ⟨_, _, x3⟩ := Zab p3
    obtain ⟨_, _, y3⟩ := Zab r3
    obtain ⟨_, _, z3⟩ := Zab w3
    refine ct_m (.cons Zjl (.cons ZbL (.cons Zou .nil))) (.cons oClS .nil) .nil mixed Tryz.func53 rfl rfl rfl ?_
    rw [Ztt]
    refine ⟨?_⟩
    simp only [kX, tC, tD, sTt]
    simp only [h4, b0, b1, b2, b3, t1, t2, t3, q0, x0, y0, z0, q1, x1, y1, z1, q2, x2, y2, z2, q3, x3, y3, z3, List.append_nil, Nat.le_refl, decide_true, Bool.and_self, cond_true, Zby, Nat.add_zero, Nat.sub_self, List.take_zero]
    rfl
  · simp at hl
def sCop : Spec := fun ds Q => match ds with
  | [d] => macA d fun h ss => cond (Nat.ble ss.length 4 && smM h ss) (Q (.agg (macL 1 h ss))) False
  | _ => False
def Zsx : Inl := inlM Tryz.prog [] [] [] Tryz.f54
theorem ZpE : Zbf Tryz.prog 54 Zsx := Zba .nil .nil .nil mixed Tryz.func54 rfl (Zat Tryz.func54 (by kernel_rfl) rfl)
end

section
open Go Go.Proofs
instance : Inhabited SesD := ⟨⟨0, 0, 0, [], 0, 0, 0, 0, 0, 0, [], [], 0, 0, 0, 0, 0⟩⟩
theorem Zpm {l : List (List Int)} (h : pmay l = true) : l.length ≤ 16 := by unfold pmay at h; simp only [Bool.and_eq_true, decide_eq_true_eq] at h; exact h.2
theorem ZpQ {l : List (List Int)} (h : rmay l = true) : l.length ≤ 16 := by unfold rmay at h; simp only [Bool.and_eq_true, decide_eq_true_eq] at h; exact h.1
theorem Zos {l : List (List Int)} (h : ZfJ l = true) : l.length ≤ 16 := by unfold ZfJ at h; simp only [Bool.and_eq_true, decide_eq_true_eq] at h; exact h.1
theorem Zdl {l : List (List Int)} (h : ZaE l = true) : l.length ≤ 4 := by
  unfold ZaE at h
  simp only [Bool.not_eq_true', Bool.or_eq_false_iff, decide_eq_false_iff_not] at h
  omega
theorem ZmT {R0 R1 R2 R3 : List (List D)} {s : SesD} (hs : ZaI s = true) (h : Zam R0 R1 R2 R3 s = true) : smS s = true := by
  unfold Zam Zmb smay at h
  simp only [Bool.and_eq_true] at h
  unfold ZaI at hs
  simp only [Bool.and_eq_true] at hs
  have a1 := Zpm h.1.2.2.2.2
  have a2 := ZpQ h.2.1.1
  have a3 := Zos h.2.1.2.1
  rw [Zau] at a1 a2 a3
  unfold smS
  rw [Zcl hs.1 a1 (by omega), Zcl hs.2.1 a2 (by omega), Zcl hs.2.2 a3 (by omega)]; rfl
theorem Zko {h : Mh} {ss : List SesD} (ho : okM h ss = true) (hm : mmay h ss = true) : smM h ss = true := by
  obtain ⟨h1, h2, h3⟩ := ZbK ho
  obtain ⟨_, g5⟩ := Zfc hm
  unfold mmay amay at hm
  simp only [Bool.and_eq_true, Bool.not_eq_true', decide_eq_false_iff_not] at hm
  obtain ⟨⟨a0, a1, a2, a3⟩, _, _, _, htr, _⟩ := hm
  unfold okA at h1
  simp only [Bool.and_eq_true] at h1
  have l0 := Zdl a0
  have l1 := Zdl a1
  have l2 := Zdl a2
  have l3 := Zdl a3
  rw [Zau] at l0 l1 l2 l3
  have e0 : okC h.w0 = true := Zcl (n := 5864062014635) h1.1 l0 (by omega)
  have e1 : okC h.w1 = true := Zcl (n := 5864062014635) h1.2.1 l1 (by omega)
  have e2 : okC h.w2 = true := Zcl (n := 5864062014635) h1.2.2.1 l2 (by omega)
  have e3 : okC h.w3 = true := Zcl (n := 5864062014635) h1.2.2.2 l3 (by omega)
  unfold smM okC4
  rw [e0, e1, e2, e3, Zcl (n := 4398046510977) (m := 512) h2 (by omega) (by omega)]
  simp only [Bool.and_self, Bool.true_and, List.all_eq_true]
  intro s hs
  exact ZmT (List.all_eq_true.1 h3 s hs) (g5 s hs)
def evD (s : SesD) (k v : Int) : List D := [vN s.id, vN s.lb, vN k, vN v]
def Zcr (h : Mh) (s : SesD) (k v : Int) : Mh := { h with tr := bif decide ((h.tr.length : Int) < 512) then h.tr ++ [evD s k v] else h.tr }
def ZcW (h : Mh) (ss : List SesD) (i k : Int) : Bool := Zb6 h ss i && (!decide (k < 0) && !decide (k > 6))
abbrev macE (e : Int) : DV := .tup [.agg (macL 1 h0 []), I e]
abbrev macR (h : Mh) (ss : List SesD) (e : Int) : DV := .tup [.agg (macL 1 h ss), I e]
theorem Zo0 {h : Mh} {ss : List SesD} (hm : smM h ss = true) : ((h.w0.all fun r => r.all D.keeps) = true ∧ (h.w1.all fun r => r.all D.keeps) = true ∧ (h.w2.all fun r => r.all D.keeps) = true ∧ (h.w3.all fun r => r.all D.keeps) = true) ∧ (h.tr.all fun r => r.all D.keeps) = true ∧ ∀ s ∈ ss, (s.pg.all fun r => r.all D.keeps) = true ∧ (s.rd.all fun r => r.all D.keeps) = true ∧ (s.wt.all fun r => r.all D.keeps) = true := by
  obtain ⟨⟨a0, a1, a2, a3⟩, a4, a5⟩ := Zcj hm
  exact ⟨⟨(Zab a0).2.2, (Zab a1).2.2, (Zab a2).2.2, (Zab a3).2.2⟩, (Zab a4).2.2, fun s hs => by
    obtain ⟨p, r, w⟩ := ZaD (a5 s hs)
    exact ⟨(Zab p).2.2, (Zab r).2.2, (Zab w).2.2⟩⟩
structure Foc (h : Mh) (ss : List SesD) (i : Int) (s : SesD) : Prop where
  at' : ss[i.toNat]? = some s
  ok : ZaI s = true
  may : Zam h.w0 h.w1 h.w2 h.w3 s = true
  lt : i.toNat < ss.length
  i0 : 0 ≤ i
  i1 : i < ss.length
  sm : smM h ss = true
  len : ss.length ≤ 4
  mm : mmay h ss = true
  w0 : allK h.w0 = true
  w1 : allK h.w1 = true
  w2 : allK h.w2 = true
  w3 : allK h.w3 = true
  tr : allK h.tr = true
  tl : h.tr.length ≤ 512
theorem foc {h : Mh} {ss : List SesD} {i : Int} (hok : okM h ss = true) (hm : Zb6 h ss i = true) : ∃ s, Foc h ss i s := by
  obtain ⟨s, h1, h2, h3⟩ := Zn7 hok hm
  obtain ⟨g0, g1, g2⟩ := ZcG hm
  have hsm := Zko hok g0
  obtain ⟨⟨b0, b1, b2, b3⟩, t3, _⟩ := Zo0 hsm
  refine ⟨s, h1, h2, h3, by omega, g1, g2, hsm, (Zfc g0).1, g0, b0, b1, b2, b3, t3, ?_⟩
  unfold mmay at g0
  simp only [Bool.and_eq_true, Bool.not_eq_true', decide_eq_false_iff_not] at g0
  omega
theorem Foc.getD {h : Mh} {ss : List SesD} {i : Int} {s : SesD} (f : Foc h ss i s) : ss.getD i.toNat default = s := by
  rw [List.getD_eq_getElem?_getD, f.at']; rfl
theorem Foc.foAt {h : Mh} {ss : List SesD} {i : Int} {s : SesD} (f : Foc h ss i s) : Vm.foAt (addN 0 i.toNat) i.toNat (List.length (List.map (sesL 1) ss)) := ZoP.2 ⟨rfl, by rw [List.length_map]; exact f.lt⟩
theorem Foc.ix {h : Mh} {ss : List SesD} {i : Int} {s : SesD} (f : Foc h ss i s) : (decide (0 ≤ i) && decide (i < @Nat.cast Int _ (List.length (List.map (sesL 1) ss)))) = true := by
  rw [List.length_map, decide_eq_true f.i0, decide_eq_true f.i1]; rfl
theorem Foc.row {h : Mh} {ss : List SesD} {i : Int} {s : SesD} (f : Foc h ss i s) : Zdy (List.map (sesL 1) ss) (Int.toNat i) 1 s := Zi5 f.at'
theorem Foc.ow0 {h : Mh} {ss : List SesD} {i : Int} {s : SesD} (f : Foc h ss i s) : whole h.w0.length h.w0 := ZaQ f.w0
theorem Foc.ow1 {h : Mh} {ss : List SesD} {i : Int} {s : SesD} (f : Foc h ss i s) : whole h.w1.length h.w1 := ZaQ f.w1
theorem Foc.ow2 {h : Mh} {ss : List SesD} {i : Int} {s : SesD} (f : Foc h ss i s) : whole h.w2.length h.w2 := ZaQ f.w2
theorem Foc.ow3 {h : Mh} {ss : List SesD} {i : Int} {s : SesD} (f : Foc h ss i s) : whole h.w3.length h.w3 := ZaQ f.w3
theorem Foc.otr {h : Mh} {ss : List SesD} {i : Int} {s : SesD} (f : Foc h ss i s) : whole h.tr.length h.tr := ZaQ f.tr
theorem Foc.oss {h : Mh} {ss : List SesD} {i : Int} {s : SesD} (f : Foc h ss i s) (j : Nat) (s' : SesD) : whole (List.length (List.map (sesL 1) ss)) (List.set (List.map (sesL 1) ss) j (sesL 1 s')) := Znr (List.length_map _)
theorem Foc.set {h : Mh} {ss : List SesD} {i : Int} {s : SesD} (f : Foc h ss i s) : List.set ss i.toNat s = ss := Zjj _ _ _ f.at'
theorem ZmX {R : List (List D)} {r : List D} (h : allK R = true) (hr : r.all D.keeps = true) : whole (R.length + 1) (List.take R.length R ++ [r]) := by
  rw [List.take_length]
  refine ⟨by simp, ?_⟩
  unfold allK at *
  rw [List.all_append, h]; simp [hr]
theorem Znv (h : Mh) (ss : List SesD) (j : Nat) (s : SesD) (e : Int) : AL (.tup [.agg (Ze4 1 h (List.set (List.map (sesL 1) ss) j (sesL 1 s))), I e]) (macR h (ss.set j s) e) := by
  rw [ZkU, ZpN]; exact AL.refl _
theorem Zrd (e : Int) : AL (.tup [.agg mac0, I e]) (macE e) := Zsv e
theorem gCop : Goes Tryz.prog 53 := Zat Tryz.func53 (by kernel_rfl) rfl
theorem gThe : Goes Tryz.prog 52 := Zat Tryz.func52 (by kernel_rfl) rfl
def iCpF (t : Bool) (h : Mh) (ss : List SesD) (i : Int) (s : SesD) : Inl := Znc Tryz.prog [34] (sIf t (sAtD [.agg (macL 0 h ss)] (.agg (macL 1 h ss)))) (matF i.toNat s)
theorem ZkI {h : Mh} {ss : List SesD} (hm : smM h ss = true) : (DV.agg (macL 1 h ss)).pureOwn = true := Zhr hm
theorem Zrb {t : Bool} {h : Mh} {ss : List SesD} (i : Int) (s : SesD) (hl : t = true → smM h ss = true ∧ ss.length ≤ 4) : Zbf Tryz.prog 53 (iCpF t h ss i s) :=
  Zh1 (ZnW _ _) (oIf fun ht => oAtD gCop (cCop h ss (hl ht).2 (hl ht).1) (ZkI (hl ht).1) rfl)
theorem eTel (h : Mh) (ss : List SesD) (s : SesD) (i k v : Int) (t : Bool) (K : DV → Prop) : (askW Tryz.prog (hkF [(52, sAtD [.c (.p 0 (macL 0 h ss) 0), I i] (B t))] [] [(53, iCpF t h ss i s), (54, Zsx)]) Tryz.f22 [.agg (macL 0 h ss), I i, I k, I v] K) = ([DV.c (D.p (0) (macL (0) h ss) (0)), I i] = [DV.c (D.p (0) (macL (0) h ss) (0)), I i] ∧ bif !t then K (DV.tup [DV.agg mac0, I (1200)]) else bif decide (k < 0) then K (DV.tup [DV.agg mac0, I (1200)]) else bif decide (k > 6) then K (DV.tup [DV.agg mac0, I (1200)]) else t = true ∧ [DV.agg (macL (0) h ss)] = [DV.agg (macL (0) h ss)] ∧ Zdy (List.map (sesL (1)) ss) (Int.toNat i) (1) s ∧ bif decide (@Nat.cast Int _ (List.length h.tr) < 512) then bif decide (0 ≤ i) && decide (i < @Nat.cast Int _ (List.length (List.map (sesL (1)) ss))) then foAt (addN (0) (Int.toNat i)) (Int.toNat i) (List.length (List.map (sesL (1)) ss)) ∧ foAt (addN (0) (Int.toNat i)) (Int.toNat i) (List.length (List.map (sesL (1)) ss)) ∧ bif decide (List.length h.tr ≤ List.length h.tr) && (decide ((List.length h.tr + 1) * 32 ≤ 140737488355328) && decide (List.length h.tr + 1 ≤ 9223372036854775807)) then whole (List.length h.w0) h.w0 ∧ whole (List.length h.w1) h.w1 ∧ whole (List.length h.w2) h.w2 ∧ whole (List.length h.w3) h.w3 ∧ whole (List.length (List.map (sesL (1)) ss)) (List.set (List.map (sesL (1)) ss) (Int.toNat i) (sesL (1) s)) ∧ whole (List.length h.tr + 1) (List.take (List.length h.tr) h.tr ++ [[vN s.id, vN s.lb, vN k, vN v]]) ∧ K (DV.tup [DV.agg (Ze4 (1) { h with tr := (List.take (List.length h.tr) h.tr ++ [[vN s.id, vN s.lb, vN k, vN v]]) } (List.set (List.map (sesL (1)) ss) (Int.toNat i) (sesL (1) s))), I (0)]) else False else False else whole (List.length h.w0) h.w0 ∧ whole (List.length h.w1) h.w1 ∧ whole (List.length h.w2) h.w2 ∧ whole (List.length h.w3) h.w3 ∧ whole (List.length (List.map (sesL (1)) ss)) (List.set (List.map (sesL (1)) ss) (Int.toNat i) (sesL (1) s)) ∧ whole (List.length h.tr) h.tr ∧ K (DV.tup [DV.agg (Ze4 (1) h (List.set (List.map (sesL (1)) ss) (Int.toNat i) (sesL (1) s))), I (0)])) := by kernel_rfl
theorem ZmU {h : Mh} {ss : List SesD} (i : Int) (hok : okM h ss = true) : Zb6 h ss i = true → smM h ss = true ∧ ss.length ≤ 4 := fun hm => by
  obtain ⟨g0, _, _⟩ := ZcG hm
  exact ⟨Zko hok g0, (Zfc g0).1⟩
theorem cTel (h : Mh) (ss : List SesD) (i k v : Int) (hok : okM h ss = true) : CT Tryz.prog 22 [.agg (macL 0 h ss), I i, I k, I v] (bif ZcW h ss i k then macR (Zcr h (ss.getD i.toNat default) k v) ss 0 else macE 1200) := by
  refine Zke (.cons (oAtD gThe (cThe h ss i hok) rfl rfl) .nil) .nil (.cons (Zrb i (ss.getD i.toNat default) (ZmU i hok)) (.cons ZpE .nil)) mixed Tryz.func22 rfl rfl rfl ?_
  rw [eTel]
  refine ⟨⟨rfl, ?_⟩⟩
  unfold ZcW
  cases hm : Zb6 h ss i with
  | false => exact Zrd 1200
  | true =>
    obtain ⟨s, f⟩ := foc hok hm
    rw [f.getD]
    cases hk1 : decide (k < 0)
    · cases hk2 : decide (k > 6)
      · refine ⟨rfl, rfl, f.row, ?_⟩
        unfold Zcr
        cases hl : decide ((h.tr.length : Int) < 512)
        · refine ⟨f.ow0, f.ow1, f.ow2, f.ow3, f.oss _ _, f.otr, ?_⟩
          have := Znv h ss i.toNat s 0
          rw [f.set] at this; exact this
        · have hl' : h.tr.length < 512 := by have := of_decide_eq_true hl; omega
          simp only [cond_true, cond_false, f.ix, Bool.not_false, Bool.and_self]
          refine ⟨f.foAt, f.foAt, ?_⟩
          rw [decide_eq_true (Nat.le_refl _), decide_eq_true (by omega), decide_eq_true (by omega)]
          refine ⟨f.ow0, f.ow1, f.ow2, f.ow3, f.oss _ _, ZmX f.tr rfl, ?_⟩
          have := Znv { h with tr := h.tr ++ [evD s k v] } ss i.toNat s 0
          rw [f.set] at this
          rw [List.take_length]; exact this
      · exact Zrd 1200
    · exact Zrd 1200
def sTel : Spec := fun ds Q => match ds with
  | [d, .c (.v (.int .i64 i)), .c (.v (.int .i64 k)), .c (.v (.int .i64 v))] => macA d fun h ss => cond (okM h ss) (bif ZcW h ss i k then Q (macR (Zcr h (ss.getD i.toNat default) k v) ss 0) else Q (macE 1200)) False
  | _ => False
theorem Zk1 {R : List (List D)} {r : List D} (h : allV R = true) (hr : allV [r] = true) : allV (R ++ [r]) = true := by
  unfold allV at *
  rw [List.all_append, h, hr]; rfl
theorem ZoL {h : Mh} {ss : List SesD} (hm : smM h ss = true) (s : SesD) (k v : Int) : smM (Zcr h s k v) ss = true := by
  obtain ⟨_, a4, _⟩ := Zcj hm
  unfold smM at hm ⊢
  simp only [Bool.and_eq_true] at hm ⊢
  refine ⟨hm.1, ?_, hm.2.2⟩
  show smR 4398046510977 (bif decide ((h.tr.length : Int) < 512) then h.tr ++ [evD s k v] else h.tr) = true
  cases hl : decide ((h.tr.length : Int) < 512)
  · exact a4
  · have hl' := of_decide_eq_true hl
    unfold smR
    rw [cond_true, Zk1 (Zab a4).1 rfl, List.length_append, decide_eq_true (by simp; omega)]; rfl
theorem ZmW {h : Mh} {ss : List SesD} {i k : Int} (ho : okM h ss = true) (ht : ZcW h ss i k = true) (v : Int) : smM (Zcr h (ss.getD i.toNat default) k v) ss = true := by
  unfold ZcW at ht
  rw [Bool.and_eq_true] at ht
  exact ZoL (Zko ho (ZcG ht.1).1) _ k v
theorem ZhE {h : Mh} {ss : List SesD} (hm : smM h ss = true) (e : Int) : (macR h ss e).pureOwn = true := by
  have := Zhr hm
  simp only [macR, DV.pureOwn, DV.pureOwn.go, this]
  rfl
theorem oTel : Zac Tryz.prog 22 sTel := o_al Tryz.func22 (by kernel_rfl) rfl fun ds Q h => by
  unfold sTel at h; split at h
  · rename_i i k v
    obtain ⟨m, ss, h, r⟩ := ZbA h
    obtain ⟨h1, h2⟩ := Zae h
    have hc := cTel m ss i k v h1
    cases ht : ZcW m ss i k with
    | false =>
      rw [ht] at hc h2
      exact ⟨_, _, .cons r (.cons (.refl _) (.cons (.refl _) (.cons (.refl _) .nil))), hc, rfl, rfl, h2⟩
    | true =>
      rw [ht] at hc h2
      exact ⟨_, _, .cons r (.cons (.refl _) (.cons (.refl _) (.cons (.refl _) .nil))), hc, ZhE (ZmW h1 ht v) 0, rfl, h2⟩
  · exact h.elim
end

section
open Go Go.Proofs
def wdsB (R0 R1 R2 R3 : List (List D)) (s : SesD) : Bool := !(toZ s.pg).any (noIn R0 R1 R2 R3) && (!(toZ s.wt).any (noWr R0 R1 R2 R3) && !(toZ s.rd).any (noRd R0 R1 R2 R3))
theorem ZpZ (a b c d : List (List Int)) (l : List (List Int)) : l.all (thv a b c d) = !l.any (noRd (mZ a) (mZ b) (mZ c) (mZ d)) := by
  rw [List.all_eq_not_any_not]
  congr 2
  funext r
  unfold thv noRd thW
  rw [Zaf, Zaf, Zaf, Zaf]
theorem cWds (R0 R1 R2 R3 : List (List D)) (s : SesD) (hA : okA R0 R1 R2 R3 = true) (hs : ZaI s = true) : CT Tryz.prog 120 [.agg (wsL R0 R1 R2 R3), .agg (sesL 0 s)] (B (wdsB R0 R1 R2 R3 s)) := by
  obtain ⟨q0, q1, q2, q3⟩ := Zci hA
  obtain ⟨a1, a2, _⟩ := Zah q0
  obtain ⟨b1, b2, _⟩ := Zah q1
  obtain ⟨c1, c2, _⟩ := Zah q2
  obtain ⟨d1, d2, _⟩ := Zah q3
  obtain ⟨e, ⟨hp, hpl⟩, ⟨hr, hrl⟩, ⟨hw, hwl⟩⟩ := Zl4 hs
  have hz : okZ 3 s.rd = true := by unfold ZaI at hs; simp only [Bool.and_eq_true] at hs; exact hs.2.1
  rw [a1, b1, c1, d1] at hA ⊢
  have hz2 : okZ 3 (mZ (toZ s.rd)) = true := by rw [← (Zah hz).1]; exact hz
  rw [e]
  generalize toZ R0 = a at *
  generalize toZ R1 = b at *
  generalize toZ R2 = c at *
  generalize toZ R3 = d at *
  generalize toZ s.pg = p at *
  generalize toZ s.rd = r at *
  generalize toZ s.wt = w at *
  refine Zif (m := [(2, fWd1 a b c d s p r w), (8, fWd2 a b c d s p r w)]) (.cons ZiX (.cons oRT .nil)) mixed (ZrP rfl (by kernel_rfl) (by kernel_rfl) rfl (kWd1 hp hpl) (kWd2 hw hwl)) Tryz.func120 rfl rfl rfl ?_
  rw [eWds]
  unfold wdsB SesD.on
  simp only [ZeS]
  refine ⟨⟨trivial, fun i hi => ?_, fun hn => ⟨trivial, fun i hi => ?_, fun hn2 => ?_⟩⟩⟩
  · rw [hi.any]; rfl
  · rw [hn.any, hi.any]; rfl
  · rw [hn.any, hn2.any, hA, hz2, ZpZ]; rfl
def sWds : Spec := fun ds Q => match ds with
  | [.agg cs, e] => cond (ZkD cs && Nat.beq cs.length 4) (ZgS cs fun R0 R1 R2 R3 => sesA e fun s => cond (okA R0 R1 R2 R3 && ZaI s) (Q (B (wdsB R0 R1 R2 R3 s))) False) False
  | _ => False
theorem oWds : Zac Tryz.prog 120 sWds := o_al Tryz.func120 (by kernel_rfl) rfl fun ds Q h => by
  unfold sWds at h; split at h
  · obtain ⟨h0, h⟩ := Zae h
    rw [Bool.and_eq_true] at h0
    have hl := Zaa h0.2
    obtain ⟨R0, R1, R2, R3, h, r1⟩ := ZcO h
    obtain ⟨s, h, r2⟩ := Zbz h
    obtain ⟨h1, h2⟩ := Zae h
    rw [Bool.and_eq_true] at h1
    rw [List.take_of_length_le (Nat.le_of_eq hl)] at r1
    exact ⟨_, _, .cons (.agg r1 h0.1 rfl) (.cons r2 .nil), cWds R0 R1 R2 R3 s h1.1 h1.2, rfl, rfl, h2⟩
  · exact h.elim
theorem eUp2 (x l m : Int) (K : DV → Prop) : (ask Tryz.prog [] Tryz.f56 [I x, I l, I m] K) = (bif decide (x ≥ l) then K (DV.c (D.v (Value.bool (decide (x ≤ m))))) else K (DV.c (D.v (Value.bool false)))) := by kernel_rfl
theorem oUp2 : Zac Tryz.prog 56 sUp := o_of Tryz.func56 (by kernel_rfl) rfl fun ds Q h => by
  unfold sUp at h; split at h
  · refine ⟨_, Zai .nil mixed Tryz.func56 rfl rfl rfl ?_, rfl, rfl, h⟩
    rw [eUp2]; rename_i x l m; unfold upto; cases decide (x ≥ l) <;> rfl
  · exact h.elim
theorem Zui (h : Mh) (ss : List SesD) (s : SesD) (K : DV → Prop) : (ask Tryz.prog [(92, ZiP), (120, sWds), (56, sUp), (121, ZoW), (122, sRM), (123, sWMy), (69, sB clk), (91, sB val8)] Tryz.f70 [.agg (macL 0 h ss), .agg (sesL 0 s)] K) = (bif okZ (4) s.pg then bif !smay s.id s.lb s.cl (toZ s.pg) then K (DV.c (D.v (Value.bool false))) else bif okA h.w0 h.w1 h.w2 h.w3 && ZaI s then bif !wdsB h.w0 h.w1 h.w2 h.w3 s then K (DV.c (D.v (Value.bool false))) else bif !upto s.st (0) (6) then K (DV.c (D.v (Value.bool false))) else bif !upto s.pc (0) (@Nat.cast Int _ (List.length s.pg)) then K (DV.c (D.v (Value.bool false))) else bif !v4 s.r0 s.r1 s.r2 s.r3 then K (DV.c (D.v (Value.bool false))) else bif okZ (3) s.rd then bif !rmay (toZ s.rd) then K (DV.c (D.v (Value.bool false))) else bif okZ (3) s.wt then bif !ZfJ (toZ s.wt) then K (DV.c (D.v (Value.bool false))) else bif upto s.at' (0) (@Nat.cast Int _ (List.length s.wt)) then bif clk s.sp then bif clk s.tr then bif upto s.rs (0) (5) then K (DV.c (D.v (Value.bool (val8 s.to)))) else K (DV.c (D.v (Value.bool false))) else K (DV.c (D.v (Value.bool false))) else K (DV.c (D.v (Value.bool false))) else K (DV.c (D.v (Value.bool false))) else False else False else False else False) := by kernel_rfl
theorem Zug (h : Mh) (ss : List SesD) (s : SesD) (hA : okA h.w0 h.w1 h.w2 h.w3 = true) (hs : ZaI s = true) : CT Tryz.prog 70 [.agg (macL 0 h ss), .agg (sesL 0 s)] (B (Zam h.w0 h.w1 h.w2 h.w3 s)) := by
  refine ct_s (.cons ZmQ (.cons oWds (.cons oUp2 (.cons ZsL (.cons oQM (.cons oWPy (.cons Zgw (.cons Zf3 .nil)))))))) mixed Tryz.func70 rfl rfl rfl ?_
  rw [Zui]
  refine ⟨?_⟩
  have hz := hs
  unfold ZaI at hz
  simp only [Bool.and_eq_true] at hz
  simp only [hz.1, hz.2.1, hz.2.2, hA, hs, Bool.and_self, cond_true, bifN, bifK]
  unfold Zam Zmb farB Znx wdsB
  congr 3
  ac_rfl
def Zi1 : Spec := fun ds Q => match ds with
  | [d, e] => macA d fun h _ => sesA e fun s => cond (okA h.w0 h.w1 h.w2 h.w3 && ZaI s) (Q (B (Zam h.w0 h.w1 h.w2 h.w3 s))) False
  | _ => False
theorem Znw : Zac Tryz.prog 70 Zi1 := o_al Tryz.func70 (by kernel_rfl) rfl fun ds Q hq => by
  unfold Zi1 at hq; split at hq
  · obtain ⟨h, ss, hq, r1⟩ := ZbA hq
    obtain ⟨s, hq, r⟩ := Zbz hq
    obtain ⟨h1, h2⟩ := Zae hq
    rw [Bool.and_eq_true] at h1
    exact ⟨_, _, .cons r1 (.cons r .nil), Zug h ss s h1.1 h1.2, rfl, rfl, h2⟩
  · exact hq.elim
def stTr (h : Mh) (ss : List SesD) (v : Bool) (i : Int) : X := ⟨mkT 90 [(1, .c (.rp 2 0 11 0 0)), (2, ab v), (5, ai i)], [(2, .bx 0 11 ((macL 0 h ss).map C.d))], [], []⟩
def ZgZ (h : Mh) (ss : List SesD) : Vw := fun y K => wB y 2 fun v => wI y 5 fun i => K (stTr h ss v i)
theorem Zia (h : Mh) (ss : List SesD) : VwOK (ZgZ h ss) := fun y K h => by
  unfold ZgZ at h
  obtain ⟨v, h⟩ := Zdi h
  obtain ⟨i, h⟩ := Zcp h
  exact ⟨_, h⟩
theorem rTr (h : Mh) (ss : List SesD) (v : Bool) (i : Int) (N : X → Prop) (E : Exit → X → Prop) : (Zcs Tryz.prog (hkA band bor [(71, sB lab)] []) Tryz.f27 2 [] [1, 2, 5] [2] (ZgZ h ss) (fun _ => ZgZ h ss) N E (stTr h ss v i)) = (bif decide (i < @Nat.cast Int _ (List.length h.tr)) then bif decide (0 ≤ i) && decide (i < @Nat.cast Int _ (List.length h.tr)) then bif isJ [IntKind.i64] (List.drop (1) (List.getD h.tr (Int.toNat i) [])) then bif !lab (hdJ (List.drop (1) (List.getD h.tr (Int.toNat i) []))) then stTr h ss false i = stTr h ss false i ∧ E Exit.ret (stTr h ss false i) else stTr h ss v (IntKind.wrap IntKind.i64 (i + 1)) = stTr h ss v (IntKind.wrap IntKind.i64 (i + 1)) ∧ N (stTr h ss v (IntKind.wrap IntKind.i64 (i + 1))) else False else False else stTr h ss v i = stTr h ss v i ∧ E (Exit.exit (4)) (stTr h ss v i)) := by kernel_rfl
def Mh.on (h : Mh) (t : List (List Int)) : Mh := { h with tr := mZ t }
def fTr (h : Mh) (ss : List SesD) (t : List (List Int)) : LSum := ZcZ [1, 2, 5] [2] (fun i => stTr (h.on t) ss false i) (fun i => stTr (h.on t) ss false i) t.length (fun i => noEv (t.getD i [])) .ret (.exit 4)
theorem kTr {h : Mh} {ss : List SesD} {t : List (List Int)} (hw : wid 4 t) (hn : t.length ≤ 9223372036854775807) (Q : Exit → X → Prop) (x : X) (hq : fTr h ss t Q x) : XWP Tryz.prog (.loop (Zan Tryz.f27 2)) Q x := by
  refine Zb5 (sw := []) (V := ZgZ (h.on t) ss) (VE := fun _ => ZgZ (h.on t) ss) mixed (Zia (h.on t) ss) (fun _ => Zia (h.on t) ss) _ _ _ _ _ _ (fun i hl => ⟨hkA band bor [(71, sB lab)] [], ZaH (.cons ZlX .nil), Zag rfl, fun N E h1 h2 => ?_⟩) ⟨hkA band bor [(71, sB lab)] [], ZaH (.cons ZlX .nil), Zag rfl, fun N E h1 => ?_⟩ Q x hq
  · rw [rTr]
    have wi : IntKind.wrap .i64 ((i : Int) + 1) = ((i + 1 : Nat) : Int) := Zak (n := 1) (by omega)
    have a1 : isJ [IntKind.i64] (List.drop 1 ((mZ t).getD i [])) = true := Zao (j := 1) (n := 1) hw hl (by omega)
    simp only [Mh.on, Zaf, Int.ofNat_lt, hl, decide_true, cond_true, Int.natCast_nonneg, Bool.and_self, Int.toNat_natCast, a1, Zcv, true_and, wi] at h1 h2 ⊢
    unfold noEv at h1 h2
    generalize lab ((t.getD i []).getD 1 0) = u at h1 h2 ⊢
    cases u <;> simp only [cond_true, cond_false, Bool.not_true, Bool.not_false, forall_const, reduceCtorEq, false_implies] at h1 h2 ⊢ <;> first | exact h1 | exact h2 | exact h1 trivial | exact h2 trivial
  · rw [rTr]
    simp only [Mh.on, Zaf, Int.ofNat_lt, Nat.lt_irrefl, decide_false, cond_false, true_and]
    exact h1
theorem Zuv (h : Mh) (t : List (List Int)) (K : DV → Prop) : (askL Tryz.prog [(68, ZbU), (69, sB clk), (56, sUp), (70, Zi1)] [(14, fTr h [] t)] Tryz.f27 [.agg (macL 0 (h.on t) [])] K) = (bif okA h.w0 h.w1 h.w2 h.w3 then bif !amay (toZ h.w0) (toZ h.w1) (toZ h.w2) (toZ h.w3) then K (DV.c (D.v (Value.bool false))) else bif !clk h.ce then K (DV.c (D.v (Value.bool false))) else bif decide (@Nat.cast Int _ (List.length (mZ t)) > 512) then K (DV.c (D.v (Value.bool false))) else bif !upto h.c0 (0) h.ce then K (DV.c (D.v (Value.bool false))) else bif !upto h.c1 (0) h.ce then K (DV.c (D.v (Value.bool false))) else bif !upto h.c2 (0) h.ce then K (DV.c (D.v (Value.bool false))) else bif !upto h.c3 (0) h.ce then K (DV.c (D.v (Value.bool false))) else stTr { w0 := h.w0, w1 := h.w1, w2 := h.w2, w3 := h.w3, c0 := h.c0, c1 := h.c1, c2 := h.c2, c3 := h.c3, ce := h.ce, tr := mZ t } [] false (0) = stTr { w0 := h.w0, w1 := h.w1, w2 := h.w2, w3 := h.w3, c0 := h.c0, c1 := h.c1, c2 := h.c2, c3 := h.c3, ce := h.ce, tr := mZ t } [] false (0) ∧ (∀ (i : Nat), firstAt (fun i => noEv (List.getD t i [])) (List.length t) i → K (DV.c (D.v (Value.bool false)))) ∧ (noneTo (fun i => noEv (List.getD t i [])) (List.length t) → K (DV.c (D.v (Value.bool true)))) else False) := by kernel_rfl
theorem Zuw (h : Mh) (s0 : SesD) (t : List (List Int)) (K : DV → Prop) : (askL Tryz.prog [(68, ZbU), (69, sB clk), (56, sUp), (70, Zi1)] [(14, fTr h [s0] t)] Tryz.f27 [.agg (macL 0 (h.on t) [s0])] K) = (bif okA h.w0 h.w1 h.w2 h.w3 then bif !amay (toZ h.w0) (toZ h.w1) (toZ h.w2) (toZ h.w3) then K (DV.c (D.v (Value.bool false))) else bif !clk h.ce then K (DV.c (D.v (Value.bool false))) else bif decide (@Nat.cast Int _ (List.length (mZ t)) > 512) then K (DV.c (D.v (Value.bool false))) else bif !upto h.c0 (0) h.ce then K (DV.c (D.v (Value.bool false))) else bif !upto h.c1 (0) h.ce then K (DV.c (D.v (Value.bool false))) else bif !upto h.c2 (0) h.ce then K (DV.c (D.v (Value.bool false))) else bif !upto h.c3 (0) h.ce then K (DV.c (D.v (Value.bool false))) else bif okA h.w0 h.w1 h.w2 h.w3 && ZaI s0 then bif !Zam h.w0 h.w1 h.w2 h.w3 s0 then K (DV.c (D.v (Value.bool false))) else stTr { w0 := h.w0, w1 := h.w1, w2 := h.w2, w3 := h.w3, c0 := h.c0, c1 := h.c1, c2 := h.c2, c3 := h.c3, ce := h.ce, tr := mZ t } [s0] false (0) = stTr { w0 := h.w0, w1 := h.w1, w2 := h.w2, w3 := h.w3, c0 := h.c0, c1 := h.c1, c2 := h.c2, c3 := h.c3, ce := h.ce, tr := mZ t } [s0] false (0) ∧ (∀ (i : Nat), firstAt (fun i => noEv (List.getD t i [])) (List.length t) i → K (DV.c (D.v (Value.bool false)))) ∧ (noneTo (fun i => noEv (List.getD t i [])) (List.length t) → K (DV.c (D.v (Value.bool true)))) else False else False) := by kernel_rfl
theorem ZtZ (h : Mh) (s0 s1 : SesD) (t : List (List Int)) (K : DV → Prop) : (askL Tryz.prog [(68, ZbU), (69, sB clk), (56, sUp), (70, Zi1)] [(14, fTr h [s0, s1] t)] Tryz.f27 [.agg (macL 0 (h.on t) [s0, s1])] K) = (bif okA h.w0 h.w1 h.w2 h.w3 then bif !amay (toZ h.w0) (toZ h.w1) (toZ h.w2) (toZ h.w3) then K (DV.c (D.v (Value.bool false))) else bif !clk h.ce then K (DV.c (D.v (Value.bool false))) else bif decide (@Nat.cast Int _ (List.length (mZ t)) > 512) then K (DV.c (D.v (Value.bool false))) else bif !upto h.c0 (0) h.ce then K (DV.c (D.v (Value.bool false))) else bif !upto h.c1 (0) h.ce then K (DV.c (D.v (Value.bool false))) else bif !upto h.c2 (0) h.ce then K (DV.c (D.v (Value.bool false))) else bif !upto h.c3 (0) h.ce then K (DV.c (D.v (Value.bool false))) else bif okA h.w0 h.w1 h.w2 h.w3 && ZaI s0 then bif !Zam h.w0 h.w1 h.w2 h.w3 s0 then K (DV.c (D.v (Value.bool false))) else bif okA h.w0 h.w1 h.w2 h.w3 && ZaI s1 then bif !Zam h.w0 h.w1 h.w2 h.w3 s1 then K (DV.c (D.v (Value.bool false))) else bif decide (s1.id ≤ s0.id) then K (DV.c (D.v (Value.bool false))) else stTr { w0 := h.w0, w1 := h.w1, w2 := h.w2, w3 := h.w3, c0 := h.c0, c1 := h.c1, c2 := h.c2, c3 := h.c3, ce := h.ce, tr := mZ t } [s0, s1] false (0) = stTr { w0 := h.w0, w1 := h.w1, w2 := h.w2, w3 := h.w3, c0 := h.c0, c1 := h.c1, c2 := h.c2, c3 := h.c3, ce := h.ce, tr := mZ t } [s0, s1] false (0) ∧ (∀ (i : Nat), firstAt (fun i => noEv (List.getD t i [])) (List.length t) i → K (DV.c (D.v (Value.bool false)))) ∧ (noneTo (fun i => noEv (List.getD t i [])) (List.length t) → K (DV.c (D.v (Value.bool true)))) else False else False else False) := by kernel_rfl
theorem Zuo (h : Mh) (s0 s1 s2 : SesD) (t : List (List Int)) (K : DV → Prop) : (askL Tryz.prog [(68, ZbU), (69, sB clk), (56, sUp), (70, Zi1)] [(14, fTr h [s0, s1, s2] t)] Tryz.f27 [.agg (macL 0 (h.on t) [s0, s1, s2])] K) = (bif okA h.w0 h.w1 h.w2 h.w3 then bif !amay (toZ h.w0) (toZ h.w1) (toZ h.w2) (toZ h.w3) then K (DV.c (D.v (Value.bool false))) else bif !clk h.ce then K (DV.c (D.v (Value.bool false))) else bif decide (@Nat.cast Int _ (List.length (mZ t)) > 512) then K (DV.c (D.v (Value.bool false))) else bif !upto h.c0 (0) h.ce then K (DV.c (D.v (Value.bool false))) else bif !upto h.c1 (0) h.ce then K (DV.c (D.v (Value.bool false))) else bif !upto h.c2 (0) h.ce then K (DV.c (D.v (Value.bool false))) else bif !upto h.c3 (0) h.ce then K (DV.c (D.v (Value.bool false))) else bif okA h.w0 h.w1 h.w2 h.w3 && ZaI s0 then bif !Zam h.w0 h.w1 h.w2 h.w3 s0 then K (DV.c (D.v (Value.bool false))) else bif okA h.w0 h.w1 h.w2 h.w3 && ZaI s1 then bif !Zam h.w0 h.w1 h.w2 h.w3 s1 then K (DV.c (D.v (Value.bool false))) else bif decide (s1.id ≤ s0.id) then K (DV.c (D.v (Value.bool false))) else bif okA h.w0 h.w1 h.w2 h.w3 && ZaI s2 then bif !Zam h.w0 h.w1 h.w2 h.w3 s2 then K (DV.c (D.v (Value.bool false))) else bif decide (s2.id ≤ s1.id) then K (DV.c (D.v (Value.bool false))) else stTr { w0 := h.w0, w1 := h.w1, w2 := h.w2, w3 := h.w3, c0 := h.c0, c1 := h.c1, c2 := h.c2, c3 := h.c3, ce := h.ce, tr := mZ t } [s0, s1, s2] false (0) = stTr { w0 := h.w0, w1 := h.w1, w2 := h.w2, w3 := h.w3, c0 := h.c0, c1 := h.c1, c2 := h.c2, c3 := h.c3, ce := h.ce, tr := mZ t } [s0, s1, s2] false (0) ∧ (∀ (i : Nat), firstAt (fun i => noEv (List.getD t i [])) (List.length t) i → K (DV.c (D.v (Value.bool false)))) ∧ (noneTo (fun i => noEv (List.getD t i [])) (List.length t) → K (DV.c (D.v (Value.bool true)))) else False else False else False else False) := by kernel_rfl
theorem ZuN (h : Mh) (s0 s1 s2 s3 : SesD) (t : List (List Int)) (K : DV → Prop) : (askL Tryz.prog [(68, ZbU), (69, sB clk), (56, sUp), (70, Zi1)] [(14, fTr h [s0, s1, s2, s3] t)] Tryz.f27 [.agg (macL 0 (h.on t) [s0, s1, s2, s3])] K) = (bif okA h.w0 h.w1 h.w2 h.w3 then bif !amay (toZ h.w0) (toZ h.w1) (toZ h.w2) (toZ h.w3) then K (DV.c (D.v (Value.bool false))) else bif !clk h.ce then K (DV.c (D.v (Value.bool false))) else bif decide (@Nat.cast Int _ (List.length (mZ t)) > 512) then K (DV.c (D.v (Value.bool false))) else bif !upto h.c0 (0) h.ce then K (DV.c (D.v (Value.bool false))) else bif !upto h.c1 (0) h.ce then K (DV.c (D.v (Value.bool false))) else bif !upto h.c2 (0) h.ce then K (DV.c (D.v (Value.bool false))) else bif !upto h.c3 (0) h.ce then K (DV.c (D.v (Value.bool false))) else bif okA h.w0 h.w1 h.w2 h.w3 && ZaI s0 then bif !Zam h.w0 h.w1 h.w2 h.w3 s0 then K (DV.c (D.v (Value.bool false))) else bif okA h.w0 h.w1 h.w2 h.w3 && ZaI s1 then bif !Zam h.w0 h.w1 h.w2 h.w3 s1 then K (DV.c (D.v (Value.bool false))) else bif decide (s1.id ≤ s0.id) then K (DV.c (D.v (Value.bool false))) else bif okA h.w0 h.w1 h.w2 h.w3 && ZaI s2 then bif !Zam h.w0 h.w1 h.w2 h.w3 s2 then K (DV.c (D.v (Value.bool false))) else bif decide (s2.id ≤ s1.id) then K (DV.c (D.v (Value.bool false))) else bif okA h.w0 h.w1 h.w2 h.w3 && ZaI s3 then bif !Zam h.w0 h.w1 h.w2 h.w3 s3 then K (DV.c (D.v (Value.bool false))) else bif decide (s3.id ≤ s2.id) then K (DV.c (D.v (Value.bool false))) else stTr { w0 := h.w0, w1 := h.w1, w2 := h.w2, w3 := h.w3, c0 := h.c0, c1 := h.c1, c2 := h.c2, c3 := h.c3, ce := h.ce, tr := mZ t } [s0, s1, s2, s3] false (0) = stTr { w0 := h.w0, w1 := h.w1, w2 := h.w2, w3 := h.w3, c0 := h.c0, c1 := h.c1, c2 := h.c2, c3 := h.c3, ce := h.ce, tr := mZ t } [s0, s1, s2, s3] false (0) ∧ (∀ (i : Nat), firstAt (fun i => noEv (List.getD t i [])) (List.length t) i → K (DV.c (D.v (Value.bool false)))) ∧ (noneTo (fun i => noEv (List.getD t i [])) (List.length t) → K (DV.c (D.v (Value.bool true)))) else False else False else False else False else False) := by kernel_rfl
theorem ZtB (h : Mh) (ss : List SesD) (K : DV → Prop) : (askL Tryz.prog [(68, ZbU), (69, sB clk), (56, sUp)] [(4, fun _ _ => False)] Tryz.f27 [.agg (macL 0 h ss)] K) = (bif okA h.w0 h.w1 h.w2 h.w3 then bif !amay (toZ h.w0) (toZ h.w1) (toZ h.w2) (toZ h.w3) then K (DV.c (D.v (Value.bool false))) else bif !clk h.ce then K (DV.c (D.v (Value.bool false))) else bif decide (@Nat.cast Int _ (List.length (List.map (sesL (0)) ss)) > 4) then K (DV.c (D.v (Value.bool false))) else bif decide (@Nat.cast Int _ (List.length h.tr) > 512) then K (DV.c (D.v (Value.bool false))) else False else False) := by kernel_rfl
end

section
open Go Go.Proofs
theorem Zqy (a b e : Int) : decide (mx a b > e) = (decide (a > e) || decide (b > e)) := by
  rw [Bool.eq_iff_iff]
  simp only [Bool.or_eq_true, decide_eq_true_eq]
  unfold mx
  split <;> omega
theorem Zne (c0 c1 c2 c3 e : Int) : ((ck4 c0 c1 c2 c3 && clk e) && !decide (mx4 c0 c1 c2 c3 > e)) = (clk e && (upto c0 0 e && (upto c1 0 e && (upto c2 0 e && upto c3 0 e)))) := by
  unfold mx4
  rw [Zqy, Zqy, Zqy, Bool.eq_iff_iff]
  unfold ck4 clk upto
  simp only [Bool.and_eq_true, Bool.not_eq_true', Bool.or_eq_false_iff, decide_eq_true_eq, decide_eq_false_iff_not]
  omega
theorem Zji (a b : Int) : (!decide (a ≥ b)) = !decide (b ≤ a) := rfl
theorem bN {p : Bool} {R : Prop} {q : Bool} (h : p = true → R) (h2 : p = false → q = false) : bif !p then (DV.c (.v (.bool false)) = B q) else R := by
  cases p
  · rw [h2 rfl]; rfl
  · exact h rfl
theorem bP {p : Bool} {R : Prop} {q : Bool} (h : p = false → R) (h2 : p = true → q = false) : bif p then (DV.c (.v (.bool false)) = B q) else R := by
  cases p
  · exact h rfl
  · rw [h2 rfl]; rfl
theorem bO {p : Bool} {R : Prop} (hp : p = true) (h : R) : bif p then R else False := by rw [hp]; exact h
theorem bT {T : Prop} {t : List (List Int)} {q : Bool} (hT : T) (h1 : t.any noEv = true → q = false) (h2 : t.any noEv = false → q = true) : T ∧ (∀ i : Nat, firstAt (fun i => noEv (List.getD t i [])) (List.length t) i → (DV.c (.v (.bool false)) = B q)) ∧ (noneTo (fun i => noEv (List.getD t i [])) (List.length t) → (DV.c (.v (.bool true)) = B q)) :=
  ⟨hT, fun i hi => by rw [h1 hi.any], fun hn => by rw [h2 hn.any]⟩
theorem ZrV {P : Program} {l : List (FuncId × Spec)} {fn : Func} {k1 k2 k3 : Nat} {s3 : LSum} (hn : (Za3 (Zas fn)).length = 3) (e1 : Zbt (Zan fn 0) = k1) (e2 : Zbt (Zan fn 1) = k2) (e3 : Zbt (Zan fn 2) = k3) (n1 : Nat.beq k3 k1 = false) (n2 : Nat.beq k3 k2 = false) (h3 : ∀ Q x, s3 Q x → XWP P (.loop (Zan fn 2)) Q x) : ZaC P (hkl l [(k3, s3)]) (Zas fn) :=
  ZcF 3 hn fun i hi s hs Q x hq => by
    match i, hi with
    | 0, _ =>
      rw [e1] at hs
      have hs' : ZcY [(k3, s3)] k1 = some s := hs
      simp only [ZcY, n1] at hs'
      cases hs'
    | 1, _ =>
      rw [e2] at hs
      have hs' : ZcY [(k3, s3)] k2 = some s := hs
      simp only [ZcY, n2] at hs'
      cases hs'
    | 2, _ =>
      rw [e3] at hs
      have hs' : some s3 = some s := by simpa [ZcY, hkl, hkA, Zbc] using hs
      cases hs'
      exact h3 Q x hq
theorem ZfT {h : Mh} {ss : List SesD} {t : List (List Int)} (hw : wid 4 t) (hl : t.length ≤ 9223372036854775807) : ZaC Tryz.prog (hkl [(68, ZbU), (69, sB clk), (56, sUp), (70, Zi1)] [(14, fTr h ss t)]) (Zas Tryz.f27) :=
  ZrV rfl rfl rfl (by kernel_rfl) (by kernel_rfl) (by kernel_rfl) (fun Q x hq => kTr hw hl Q x hq)
theorem cRMt (h : Mh) (ss : List SesD) (t : List (List Int)) (hA : okA h.w0 h.w1 h.w2 h.w3 = true) (hw : wid 4 t) (hl : t.length ≤ 9223372036854775807) (hs : okSS ss = true) : CT Tryz.prog 27 [.agg (macL 0 (h.on t) ss)] (B (mmay (h.on t) ss)) := by
  have hq : ∀ s ∈ ss, ZaI s = true := List.all_eq_true.1 hs
  rcases ss with _ | ⟨s0, _ | ⟨s1, _ | ⟨s2, _ | ⟨s3, _ | ⟨s4, l⟩⟩⟩⟩⟩
  · 
    have key : mmay (h.on t) [] = (amay (toZ h.w0) (toZ h.w1) (toZ h.w2) (toZ h.w3) && (clk h.ce && (!decide (((mZ t).length : Int) > 512) && (upto h.c0 0 h.ce && (upto h.c1 0 h.ce && (upto h.c2 0 h.ce && (upto h.c3 0 h.ce && !t.any noEv))))))) := by
      show (amay (toZ h.w0) (toZ h.w1) (toZ h.w2) (toZ h.w3) && ((ck4 h.c0 h.c1 h.c2 h.c3 && clk h.ce) && (!decide (mx4 h.c0 h.c1 h.c2 h.c3 > h.ce) && (!decide ((([] : List SesD).length : Int) > 4) && (!decide (((mZ t).length : Int) > 512) && (Zdh [] && (([] : List SesD).all (Zam h.w0 h.w1 h.w2 h.w3) && !(toZ (mZ t)).any noEv))))))) = _
      rw [ZeS, ← Bool.and_assoc (ck4 h.c0 h.c1 h.c2 h.c3 && clk h.ce), Zne]
      simp only [Zdh, List.all_cons, List.all_nil, Bool.and_true, Bool.true_and, Zji, (by simp : (!decide ((([] : List SesD).length : Int) > 4)) = true)]
      try ac_rfl
    refine Zif (m := [(14, fTr h [] t)]) (.cons Zgk (.cons Zgw (.cons oUp2 (.cons Znw .nil)))) mixed (ZfT hw hl) Tryz.func27 rfl rfl rfl ?_
    rw [Zuv]
    refine ⟨?_⟩
    refine bO hA ?_
    refine bN (fun gA => ?_) (fun g => by rw [key, g]; rfl)
    refine bN (fun gC => ?_) (fun g => by rw [key, gA, g]; rfl)
    refine bP (fun gT => ?_) (fun g => by rw [key, gA, gC, g]; rfl)
    refine bN (fun gc0 => ?_) (fun g => by rw [key, gA, gC, gT, g]; simp)
    refine bN (fun gc1 => ?_) (fun g => by rw [key, gA, gC, gT, gc0, g]; simp)
    refine bN (fun gc2 => ?_) (fun g => by rw [key, gA, gC, gT, gc0, gc1, g]; simp)
    refine bN (fun gc3 => ?_) (fun g => by rw [key, gA, gC, gT, gc0, gc1, gc2, g]; simp)
    exact bT rfl (fun g => by rw [key, gA, gC, gT, gc0, gc1, gc2, gc3, g]; rfl) (fun g => by rw [key, gA, gC, gT, gc0, gc1, gc2, gc3, g]; rfl)
  · 
    have q0 : ZaI s0 = true := hq s0 (by simp)
    have key : mmay (h.on t) [s0] = (amay (toZ h.w0) (toZ h.w1) (toZ h.w2) (toZ h.w3) && (clk h.ce && (!decide (((mZ t).length : Int) > 512) && (upto h.c0 0 h.ce && (upto h.c1 0 h.ce && (upto h.c2 0 h.ce && (upto h.c3 0 h.ce && (Zam h.w0 h.w1 h.w2 h.w3 s0 && !t.any noEv)))))))) := by
      show (amay (toZ h.w0) (toZ h.w1) (toZ h.w2) (toZ h.w3) && ((ck4 h.c0 h.c1 h.c2 h.c3 && clk h.ce) && (!decide (mx4 h.c0 h.c1 h.c2 h.c3 > h.ce) && (!decide ((([s0] : List SesD).length : Int) > 4) && (!decide (((mZ t).length : Int) > 512) && (Zdh [s0] && (([s0] : List SesD).all (Zam h.w0 h.w1 h.w2 h.w3) && !(toZ (mZ t)).any noEv))))))) = _
      rw [ZeS, ← Bool.and_assoc (ck4 h.c0 h.c1 h.c2 h.c3 && clk h.ce), Zne]
      simp only [Zdh, List.all_cons, List.all_nil, Bool.and_true, Bool.true_and, Zji, (by simp : (!decide ((([s0] : List SesD).length : Int) > 4)) = true)]
      try ac_rfl
    refine Zif (m := [(14, fTr h [s0] t)]) (.cons Zgk (.cons Zgw (.cons oUp2 (.cons Znw .nil)))) mixed (ZfT hw hl) Tryz.func27 rfl rfl rfl ?_
    rw [Zuw]
    refine ⟨?_⟩
    refine bO hA ?_
    refine bN (fun gA => ?_) (fun g => by rw [key, g]; rfl)
    refine bN (fun gC => ?_) (fun g => by rw [key, gA, g]; rfl)
    refine bP (fun gT => ?_) (fun g => by rw [key, gA, gC, g]; rfl)
    refine bN (fun gc0 => ?_) (fun g => by rw [key, gA, gC, gT, g]; simp)
    refine bN (fun gc1 => ?_) (fun g => by rw [key, gA, gC, gT, gc0, g]; simp)
    refine bN (fun gc2 => ?_) (fun g => by rw [key, gA, gC, gT, gc0, gc1, g]; simp)
    refine bN (fun gc3 => ?_) (fun g => by rw [key, gA, gC, gT, gc0, gc1, gc2, g]; simp)
    refine bO (by rw [hA, q0]; rfl) ?_
    refine bN (fun gs0 => ?_) (fun g => by rw [key, gA, gC, gT, gc0, gc1, gc2, gc3, g]; simp)
    exact bT rfl (fun g => by rw [key, gA, gC, gT, gc0, gc1, gc2, gc3, gs0, g]; rfl) (fun g => by rw [key, gA, gC, gT, gc0, gc1, gc2, gc3, gs0, g]; rfl)
  · 
    have q0 : ZaI s0 = true := hq s0 (by simp)
    have q1 : ZaI s1 = true := hq s1 (by simp)
    have key : mmay (h.on t) [s0, s1] = (amay (toZ h.w0) (toZ h.w1) (toZ h.w2) (toZ h.w3) && (clk h.ce && (!decide (((mZ t).length : Int) > 512) && (upto h.c0 0 h.ce && (upto h.c1 0 h.ce && (upto h.c2 0 h.ce && (upto h.c3 0 h.ce && (Zam h.w0 h.w1 h.w2 h.w3 s0 && (Zam h.w0 h.w1 h.w2 h.w3 s1 && (!decide (s1.id ≤ s0.id) && !t.any noEv)))))))))) := by
      show (amay (toZ h.w0) (toZ h.w1) (toZ h.w2) (toZ h.w3) && ((ck4 h.c0 h.c1 h.c2 h.c3 && clk h.ce) && (!decide (mx4 h.c0 h.c1 h.c2 h.c3 > h.ce) && (!decide ((([s0, s1] : List SesD).length : Int) > 4) && (!decide (((mZ t).length : Int) > 512) && (Zdh [s0, s1] && (([s0, s1] : List SesD).all (Zam h.w0 h.w1 h.w2 h.w3) && !(toZ (mZ t)).any noEv))))))) = _
      rw [ZeS, ← Bool.and_assoc (ck4 h.c0 h.c1 h.c2 h.c3 && clk h.ce), Zne]
      simp only [Zdh, List.all_cons, List.all_nil, Bool.and_true, Bool.true_and, Zji, (by simp : (!decide ((([s0, s1] : List SesD).length : Int) > 4)) = true)]
      try ac_rfl
    refine Zif (m := [(14, fTr h [s0, s1] t)]) (.cons Zgk (.cons Zgw (.cons oUp2 (.cons Znw .nil)))) mixed (ZfT hw hl) Tryz.func27 rfl rfl rfl ?_
    rw [ZtZ]
    refine ⟨?_⟩
    refine bO hA ?_
    refine bN (fun gA => ?_) (fun g => by rw [key, g]; rfl)
    refine bN (fun gC => ?_) (fun g => by rw [key, gA, g]; rfl)
    refine bP (fun gT => ?_) (fun g => by rw [key, gA, gC, g]; rfl)
    refine bN (fun gc0 => ?_) (fun g => by rw [key, gA, gC, gT, g]; simp)
    refine bN (fun gc1 => ?_) (fun g => by rw [key, gA, gC, gT, gc0, g]; simp)
    refine bN (fun gc2 => ?_) (fun g => by rw [key, gA, gC, gT, gc0, gc1, g]; simp)
    refine bN (fun gc3 => ?_) (fun g => by rw [key, gA, gC, gT, gc0, gc1, gc2, g]; simp)
    refine bO (by rw [hA, q0]; rfl) ?_
    refine bN (fun gs0 => ?_) (fun g => by rw [key, gA, gC, gT, gc0, gc1, gc2, gc3, g]; simp)
    refine bO (by rw [hA, q1]; rfl) ?_
    refine bN (fun gs1 => ?_) (fun g => by rw [key, gA, gC, gT, gc0, gc1, gc2, gc3, gs0, g]; simp)
    refine bP (fun gi1 => ?_) (fun g => by rw [key, gA, gC, gT, gc0, gc1, gc2, gc3, gs0, gs1, g]; simp)
    exact bT rfl (fun g => by rw [key, gA, gC, gT, gc0, gc1, gc2, gc3, gs0, gs1, gi1, g]; rfl) (fun g => by rw [key, gA, gC, gT, gc0, gc1, gc2, gc3, gs0, gs1, gi1, g]; rfl)
  · 
    have q0 : ZaI s0 = true := hq s0 (by simp)
    have q1 : ZaI s1 = true := hq s1 (by simp)
    have q2 : ZaI s2 = true := hq s2 (by simp)
    have key : mmay (h.on t) [s0, s1, s2] = (amay (toZ h.w0) (toZ h.w1) (toZ h.w2) (toZ h.w3) && (clk h.ce && (!decide (((mZ t).length : Int) > 512) && (upto h.c0 0 h.ce && (upto h.c1 0 h.ce && (upto h.c2 0 h.ce && (upto h.c3 0 h.ce && (Zam h.w0 h.w1 h.w2 h.w3 s0 && (Zam h.w0 h.w1 h.w2 h.w3 s1 && (!decide (s1.id ≤ s0.id) && (Zam h.w0 h.w1 h.w2 h.w3 s2 && (!decide (s2.id ≤ s1.id) && !t.any noEv)))))))))))) := by
      show (amay (toZ h.w0) (toZ h.w1) (toZ h.w2) (toZ h.w3) && ((ck4 h.c0 h.c1 h.c2 h.c3 && clk h.ce) && (!decide (mx4 h.c0 h.c1 h.c2 h.c3 > h.ce) && (!decide ((([s0, s1, s2] : List SesD).length : Int) > 4) && (!decide (((mZ t).length : Int) > 512) && (Zdh [s0, s1, s2] && (([s0, s1, s2] : List SesD).all (Zam h.w0 h.w1 h.w2 h.w3) && !(toZ (mZ t)).any noEv))))))) = _
      rw [ZeS, ← Bool.and_assoc (ck4 h.c0 h.c1 h.c2 h.c3 && clk h.ce), Zne]
      simp only [Zdh, List.all_cons, List.all_nil, Bool.and_true, Bool.true_and, Zji, (by simp : (!decide ((([s0, s1, s2] : List SesD).length : Int) > 4)) = true)]
      try ac_rfl
    refine Zif (m := [(14, fTr h [s0, s1, s2] t)]) (.cons Zgk (.cons Zgw (.cons oUp2 (.cons Znw .nil)))) mixed (ZfT hw hl) Tryz.func27 rfl rfl rfl ?_
    rw [Zuo]
    refine ⟨?_⟩
    refine bO hA ?_
    refine bN (fun gA => ?_) (fun g => by rw [key, g]; rfl)
    refine bN (fun gC => ?_) (fun g => by rw [key, gA, g]; rfl)
    refine bP (fun gT => ?_) (fun g => by rw [key, gA, gC, g]; rfl)
    refine bN (fun gc0 => ?_) (fun g => by rw [key, gA, gC, gT, g]; simp)
    refine bN (fun gc1 => ?_) (fun g => by rw [key, gA, gC, gT, gc0, g]; simp)
    refine bN (fun gc2 => ?_) (fun g => by rw [key, gA, gC, gT, gc0, gc1, g]; simp)
    refine bN (fun gc3 => ?_) (fun g => by rw [key, gA, gC, gT, gc0, gc1, gc2, g]; simp)
    refine bO (by rw [hA, q0]; rfl) ?_
    refine bN (fun gs0 => ?_) (fun g => by rw [key, gA, gC, gT, gc0, gc1, gc2, gc3, g]; simp)
    refine bO (by rw [hA, q1]; rfl) ?_
    refine bN (fun gs1 => ?_) (fun g => by rw [key, gA, gC, gT, gc0, gc1, gc2, gc3, gs0, g]; simp)
    refine bP (fun gi1 => ?_) (fun g => by rw [key, gA, gC, gT, gc0, gc1, gc2, gc3, gs0, gs1, g]; simp)
    refine bO (by rw [hA, q2]; rfl) ?_
    refine bN (fun gs2 => ?_) (fun g => by rw [key, gA, gC, gT, gc0, gc1, gc2, gc3, gs0, gs1, gi1, g]; simp)
    refine bP (fun gi2 => ?_) (fun g => by rw [key, gA, gC, gT, gc0, gc1, gc2, gc3, gs0, gs1, gi1, gs2, g]; simp)
    exact bT rfl (fun g => by rw [key, gA, gC, gT, gc0, gc1, gc2, gc3, gs0, gs1, gi1, gs2, gi2, g]; rfl) (fun g => by rw [key, gA, gC, gT, gc0, gc1, gc2, gc3, gs0, gs1, gi1, gs2, gi2, g]; rfl)
  · 
    have q0 : ZaI s0 = true := hq s0 (by simp)
    have q1 : ZaI s1 = true := hq s1 (by simp)
    have q2 : ZaI s2 = true := hq s2 (by simp)
    have q3 : ZaI s3 = true := hq s3 (by simp)
    have key : mmay (h.on t) [s0, s1, s2, s3] = (amay (toZ h.w0) (toZ h.w1) (toZ h.w2) (toZ h.w3) && (clk h.ce && (!decide (((mZ t).length : Int) > 512) && (upto h.c0 0 h.ce && (upto h.c1 0 h.ce && (upto h.c2 0 h.ce && (upto h.c3 0 h.ce && (Zam h.w0 h.w1 h.w2 h.w3 s0 && (Zam h.w0 h.w1 h.w2 h.w3 s1 && (!decide (s1.id ≤ s0.id) && (Zam h.w0 h.w1 h.w2 h.w3 s2 && (!decide (s2.id ≤ s1.id) && (Zam h.w0 h.w1 h.w2 h.w3 s3 && (!decide (s3.id ≤ s2.id) && !t.any noEv)))))))))))))) := by
      show (amay (toZ h.w0) (toZ h.w1) (toZ h.w2) (toZ h.w3) && ((ck4 h.c0 h.c1 h.c2 h.c3 && clk h.ce) && (!decide (mx4 h.c0 h.c1 h.c2 h.c3 > h.ce) && (!decide ((([s0, s1, s2, s3] : List SesD).length : Int) > 4) && (!decide (((mZ t).length : Int) > 512) && (Zdh [s0, s1, s2, s3] && (([s0, s1, s2, s3] : List SesD).all (Zam h.w0 h.w1 h.w2 h.w3) && !(toZ (mZ t)).any noEv))))))) = _
      rw [ZeS, ← Bool.and_assoc (ck4 h.c0 h.c1 h.c2 h.c3 && clk h.ce), Zne]
      simp only [Zdh, List.all_cons, List.all_nil, Bool.and_true, Bool.true_and, Zji, (by simp : (!decide ((([s0, s1, s2, s3] : List SesD).length : Int) > 4)) = true)]
      try ac_rfl
    refine Zif (m := [(14, fTr h [s0, s1, s2, s3] t)]) (.cons Zgk (.cons Zgw (.cons oUp2 (.cons Znw .nil)))) mixed (ZfT hw hl) Tryz.func27 rfl rfl rfl ?_
    rw [ZuN]
    refine ⟨?_⟩
    refine bO hA ?_
    refine bN (fun gA => ?_) (fun g => by rw [key, g]; rfl)
    refine bN (fun gC => ?_) (fun g => by rw [key, gA, g]; rfl)
    refine bP (fun gT => ?_) (fun g => by rw [key, gA, gC, g]; rfl)
    refine bN (fun gc0 => ?_) (fun g => by rw [key, gA, gC, gT, g]; simp)
    refine bN (fun gc1 => ?_) (fun g => by rw [key, gA, gC, gT, gc0, g]; simp)
    refine bN (fun gc2 => ?_) (fun g => by rw [key, gA, gC, gT, gc0, gc1, g]; simp)
    refine bN (fun gc3 => ?_) (fun g => by rw [key, gA, gC, gT, gc0, gc1, gc2, g]; simp)
    refine bO (by rw [hA, q0]; rfl) ?_
    refine bN (fun gs0 => ?_) (fun g => by rw [key, gA, gC, gT, gc0, gc1, gc2, gc3, g]; simp)
    refine bO (by rw [hA, q1]; rfl) ?_
    refine bN (fun gs1 => ?_) (fun g => by rw [key, gA, gC, gT, gc0, gc1, gc2, gc3, gs0, g]; simp)
    refine bP (fun gi1 => ?_) (fun g => by rw [key, gA, gC, gT, gc0, gc1, gc2, gc3, gs0, gs1, g]; simp)
    refine bO (by rw [hA, q2]; rfl) ?_
    refine bN (fun gs2 => ?_) (fun g => by rw [key, gA, gC, gT, gc0, gc1, gc2, gc3, gs0, gs1, gi1, g]; simp)
    refine bP (fun gi2 => ?_) (fun g => by rw [key, gA, gC, gT, gc0, gc1, gc2, gc3, gs0, gs1, gi1, gs2, g]; simp)
    refine bO (by rw [hA, q3]; rfl) ?_
    refine bN (fun gs3 => ?_) (fun g => by rw [key, gA, gC, gT, gc0, gc1, gc2, gc3, gs0, gs1, gi1, gs2, gi2, g]; simp)
    refine bP (fun gi3 => ?_) (fun g => by rw [key, gA, gC, gT, gc0, gc1, gc2, gc3, gs0, gs1, gi1, gs2, gi2, gs3, g]; simp)
    exact bT rfl (fun g => by rw [key, gA, gC, gT, gc0, gc1, gc2, gc3, gs0, gs1, gi1, gs2, gi2, gs3, gi3, g]; rfl) (fun g => by rw [key, gA, gC, gT, gc0, gc1, gc2, gc3, gs0, gs1, gi1, gs2, gi2, gs3, gi3, g]; rfl)
  · refine Zif (l := [(68, ZbU), (69, sB clk), (56, sUp)]) (m := [(4, fun _ _ => False)]) (.cons Zgk (.cons Zgw (.cons oUp2 .nil))) mixed Zla Tryz.func27 rfl rfl rfl ?_
    rw [ZtB]
    refine ⟨?_⟩
    have h6 : mmay (h.on t) (s0 :: s1 :: s2 :: s3 :: s4 :: l) = false := by
      unfold mmay
      rw [(by simp; omega : (!decide (((s0 :: s1 :: s2 :: s3 :: s4 :: l).length : Int) > 4)) = false)]
      simp
    rw [h6]
    refine bO hA (bN (fun _ => bN (fun _ => bP (fun g => ?_) fun _ => rfl) fun _ => rfl) fun _ => rfl)
    simp at g
    omega
theorem cRM (h : Mh) (ss : List SesD) (hok : okM h ss = true) : CT Tryz.prog 27 [.agg (macL 0 h ss)] (B (mmay h ss)) := by
  obtain ⟨h1, h2, h3⟩ := ZbK hok
  obtain ⟨e, hw, hl⟩ := Zah h2
  have := cRMt h ss (toZ h.tr) h1 hw (by rw [Zau]; exact hl) h3
  have eh : h.on (toZ h.tr) = h := by unfold Mh.on; rw [← e]
  rwa [eh] at this
def sRMm : Spec := fun ds Q => match ds with
  | [d] => macA d fun h ss => cond (okM h ss) (Q (B (mmay h ss))) False
  | _ => False
theorem oRMm : Zac Tryz.prog 27 sRMm := o_al Tryz.func27 (by kernel_rfl) rfl fun ds Q h => by
  unfold sRMm at h; split at h
  · obtain ⟨m, ss, h, r⟩ := ZbA h
    obtain ⟨h1, h2⟩ := Zae h
    exact ⟨_, _, .cons r .nil, cRM m ss h1, rfl, rfl, h2⟩
  · exact h.elim
end

section
open Go Go.Proofs
theorem Ziq {R : List (List D)} (h : smR 4398046510977 R = true) : allV R = true ∧ decide (R.length * 32 ≤ 140737488355328) = true ∧ decide (R.length ≤ 9223372036854775807) = true ∧ (R.all fun r => r.all D.keeps) = true := by
  obtain ⟨a, b, c⟩ := Zab h
  exact ⟨a, decide_eq_true (by omega), decide_eq_true (by omega), c⟩
theorem Zk0 {R : List (List D)} (h : smR 5864062014635 R = true) : allV R = true ∧ decide (R.length * 24 ≤ 140737488355328) = true ∧ decide (R.length ≤ 9223372036854775807) = true ∧ (R.all fun r => r.all D.keeps) = true := by
  obtain ⟨a, b, c⟩ := Zab h
  exact ⟨a, decide_eq_true (by omega), decide_eq_true (by omega), c⟩
theorem ZtP (s : SesD) (K : DV → Prop) : (ask Tryz.prog [] Tryz.f98 [.agg (sesL 0 s)] K) = (bif allV s.pg then bif true && (decide ((0 + List.length s.pg) * 32 ≤ 140737488355328) && decide (0 + List.length s.pg ≤ 9223372036854775807)) then bif allV s.rd then bif true && (decide ((0 + List.length s.rd) * 24 ≤ 140737488355328) && decide (0 + List.length s.rd ≤ 9223372036854775807)) then bif allV s.wt then bif true && (decide ((0 + List.length s.wt) * 24 ≤ 140737488355328) && decide (0 + List.length s.wt ≤ 9223372036854775807)) then bif decide (0 + List.length s.pg ≤ List.length ([] ++ s.pg)) && List.all ([] ++ s.pg) fun r => List.all r D.keeps then bif decide (0 + List.length s.rd ≤ List.length ([] ++ s.rd)) && List.all ([] ++ s.rd) fun r => List.all r D.keeps then bif decide (0 + List.length s.wt ≤ List.length ([] ++ s.wt)) && List.all ([] ++ s.wt) fun r => List.all r D.keeps then K (DV.agg [vN s.id, vN s.lb, vN s.cl, D.s (1) (4) (List.take (0 + List.length s.pg) ([] ++ s.pg)) (List.take (0 + List.length s.pg - (0 + List.length s.pg)) (List.drop (0 + List.length s.pg) ([] ++ s.pg))), vN s.st, vN s.pc, vN s.r0, vN s.r1, vN s.r2, vN s.r3, D.s (1) (3) (List.take (0 + List.length s.rd) ([] ++ s.rd)) (List.take (0 + List.length s.rd - (0 + List.length s.rd)) (List.drop (0 + List.length s.rd) ([] ++ s.rd))), D.s (1) (3) (List.take (0 + List.length s.wt) ([] ++ s.wt)) (List.take (0 + List.length s.wt - (0 + List.length s.wt)) (List.drop (0 + List.length s.wt) ([] ++ s.wt))), vN s.at', vN s.sp, vN s.tr, vN s.rs, vN s.to]) else False else False else False else False else False else False else False else False else False) := by kernel_rfl
theorem ZuL (s : SesD) (hs : smS s = true) : CT Tryz.prog 98 [.agg (sesL 0 s)] (.agg (sesL 1 s)) := by
  obtain ⟨h1, h2, h3⟩ := ZaD hs
  obtain ⟨a1, a2, a3, a4⟩ := Ziq h1
  obtain ⟨b1, b2, b3, b4⟩ := Zk0 h2
  obtain ⟨c1, c2, c3, c4⟩ := Zk0 h3
  refine ct_s .nil mixed Tryz.func98 rfl rfl rfl ?_
  rw [ZtP]
  refine ⟨?_⟩
  simp only [a1, a2, a3, a4, b1, b2, b3, b4, c1, c2, c3, c4, Nat.zero_add, List.nil_append, List.append_nil, Nat.le_refl, decide_true, Bool.and_self, Bool.true_and, cond_true, Zby, Nat.add_zero, Nat.sub_self, List.take_zero]
  rfl
theorem ZmG : Zac Tryz.prog 98 Zcq := o_al Tryz.func98 (by kernel_rfl) rfl fun ds Q h => by
  unfold Zcq at h; split at h
  · obtain ⟨s, h, r⟩ := Zbz h
    obtain ⟨h1, h2⟩ := Zae h
    exact ⟨_, _, .cons r .nil, ZuL s h1, Ze9 h1, rfl, h2⟩
  · exact h.elim
theorem Zuy (s : SesD) (K : DV → Prop) : (ask Tryz.prog [] Tryz.f47 [.agg (sesL 0 s)] K) = (bif allV s.pg then bif true && (decide ((0 + List.length s.pg) * 32 ≤ 140737488355328) && decide (0 + List.length s.pg ≤ 9223372036854775807)) then bif allV s.rd then bif true && (decide ((0 + List.length s.rd) * 24 ≤ 140737488355328) && decide (0 + List.length s.rd ≤ 9223372036854775807)) then bif allV s.wt then bif true && (decide ((0 + List.length s.wt) * 24 ≤ 140737488355328) && decide (0 + List.length s.wt ≤ 9223372036854775807)) then bif decide (0 + List.length s.pg ≤ List.length ([] ++ s.pg)) && List.all ([] ++ s.pg) fun r => List.all r D.keeps then bif decide (0 + List.length s.rd ≤ List.length ([] ++ s.rd)) && List.all ([] ++ s.rd) fun r => List.all r D.keeps then bif decide (0 + List.length s.wt ≤ List.length ([] ++ s.wt)) && List.all ([] ++ s.wt) fun r => List.all r D.keeps then K (DV.agg [vN s.id, vN s.lb, vN s.cl, D.s (1) (4) (List.take (0 + List.length s.pg) ([] ++ s.pg)) (List.take (0 + List.length s.pg - (0 + List.length s.pg)) (List.drop (0 + List.length s.pg) ([] ++ s.pg))), vN s.st, vN s.pc, vN s.r0, vN s.r1, vN s.r2, vN s.r3, D.s (1) (3) (List.take (0 + List.length s.rd) ([] ++ s.rd)) (List.take (0 + List.length s.rd - (0 + List.length s.rd)) (List.drop (0 + List.length s.rd) ([] ++ s.rd))), D.s (1) (3) (List.take (0 + List.length s.wt) ([] ++ s.wt)) (List.take (0 + List.length s.wt - (0 + List.length s.wt)) (List.drop (0 + List.length s.wt) ([] ++ s.wt))), vN s.at', vN s.sp, vN s.tr, vN s.rs, vN s.to]) else False else False else False else False else False else False else False else False else False) := by kernel_rfl
theorem ZtT (s : SesD) (hs : smS s = true) : CT Tryz.prog 47 [.agg (sesL 0 s)] (.agg (sesL 1 s)) := by
  obtain ⟨h1, h2, h3⟩ := ZaD hs
  obtain ⟨a1, a2, a3, a4⟩ := Ziq h1
  obtain ⟨b1, b2, b3, b4⟩ := Zk0 h2
  obtain ⟨c1, c2, c3, c4⟩ := Zk0 h3
  refine ct_s .nil mixed Tryz.func47 rfl rfl rfl ?_
  rw [Zuy]
  refine ⟨?_⟩
  simp only [a1, a2, a3, a4, b1, b2, b3, b4, c1, c2, c3, c4, Nat.zero_add, List.nil_append, List.append_nil, Nat.le_refl, decide_true, Bool.and_self, Bool.true_and, cond_true, Zby, Nat.add_zero, Nat.sub_self, List.take_zero]
  rfl
theorem Zq9 : Zac Tryz.prog 47 Zcq := o_al Tryz.func47 (by kernel_rfl) rfl fun ds Q h => by
  unfold Zcq at h; split at h
  · obtain ⟨s, h, r⟩ := Zbz h
    obtain ⟨h1, h2⟩ := Zae h
    exact ⟨_, _, .cons r .nil, ZtT s h1, Ze9 h1, rfl, h2⟩
  · exact h.elim
theorem Zsf (h : Mh) (K : DV → Prop) : (askH Tryz.prog (hkM [(97, ZbD), (98, Zcq)] [] []) Tryz.f58 [.agg (macL 0 h [])] K) = (bif okC4 h.w0 h.w1 h.w2 h.w3 then bif allV h.tr then bif true && (decide ((0 + List.length h.tr) * 32 ≤ 140737488355328) && decide (0 + List.length h.tr ≤ 9223372036854775807)) then bif kX h.w0 then bif kX h.w1 then bif kX h.w2 then bif kX h.w3 then bif decide (0 + List.length h.tr ≤ List.length ([] ++ h.tr)) && List.all ([] ++ h.tr) fun r => List.all r D.keeps then K (DV.agg [D.s (1) (3) (tC h.w0) (tD h.w0), D.s (1) (3) (tC h.w1) (tD h.w1), D.s (1) (3) (tC h.w2) (tD h.w2), D.s (1) (3) (tC h.w3) (tD h.w3), vN h.c0, vN h.c1, vN h.c2, vN h.c3, vN h.ce, nilV, D.s (1) (4) (List.take (0 + List.length h.tr) ([] ++ h.tr)) (List.take (0 + List.length h.tr - (0 + List.length h.tr)) (List.drop (0 + List.length h.tr) ([] ++ h.tr)))]) else False else False else False else False else False else False else False else False) := by kernel_rfl
theorem ZsV (h : Mh) (s0 : SesD) (K : DV → Prop) : (askH Tryz.prog (hkM [(97, ZbD), (98, Zcq)] [] []) Tryz.f58 [.agg (macL 0 h [s0])] K) = (bif okC4 h.w0 h.w1 h.w2 h.w3 then bif smS s0 then bif allV h.tr then bif true && (decide ((0 + List.length h.tr) * 32 ≤ 140737488355328) && decide (0 + List.length h.tr ≤ 9223372036854775807)) then bif kX h.w0 then bif kX h.w1 then bif kX h.w2 then bif kX h.w3 then bif kX s0.pg then bif kX s0.rd then bif kX s0.wt then bif decide (0 + List.length h.tr ≤ List.length ([] ++ h.tr)) && List.all ([] ++ h.tr) fun r => List.all r D.keeps then K (DV.agg [D.s (1) (3) (tC h.w0) (tD h.w0), D.s (1) (3) (tC h.w1) (tD h.w1), D.s (1) (3) (tC h.w2) (tD h.w2), D.s (1) (3) (tC h.w3) (tD h.w3), vN h.c0, vN h.c1, vN h.c2, vN h.c3, vN h.ce, D.s (1) (17) [(sTt s0)] [], D.s (1) (4) (List.take (0 + List.length h.tr) ([] ++ h.tr)) (List.take (0 + List.length h.tr - (0 + List.length h.tr)) (List.drop (0 + List.length h.tr) ([] ++ h.tr)))]) else False else False else False else False else False else False else False else False else False else False else False else False) := by kernel_rfl
theorem ZrZ (h : Mh) (s0 s1 : SesD) (K : DV → Prop) : (askH Tryz.prog (hkM [(97, ZbD), (98, Zcq)] [] []) Tryz.f58 [.agg (macL 0 h [s0, s1])] K) = (bif okC4 h.w0 h.w1 h.w2 h.w3 then bif smS s0 then bif smS s1 then bif allV h.tr then bif true && (decide ((0 + List.length h.tr) * 32 ≤ 140737488355328) && decide (0 + List.length h.tr ≤ 9223372036854775807)) then bif kX h.w0 then bif kX h.w1 then bif kX h.w2 then bif kX h.w3 then bif kX s0.pg then bif kX s0.rd then bif kX s0.wt then bif kX s1.pg then bif kX s1.rd then bif kX s1.wt then bif decide (0 + List.length h.tr ≤ List.length ([] ++ h.tr)) && List.all ([] ++ h.tr) fun r => List.all r D.keeps then K (DV.agg [D.s (1) (3) (tC h.w0) (tD h.w0), D.s (1) (3) (tC h.w1) (tD h.w1), D.s (1) (3) (tC h.w2) (tD h.w2), D.s (1) (3) (tC h.w3) (tD h.w3), vN h.c0, vN h.c1, vN h.c2, vN h.c3, vN h.ce, D.s (1) (17) [(sTt s0), (sTt s1)] [], D.s (1) (4) (List.take (0 + List.length h.tr) ([] ++ h.tr)) (List.take (0 + List.length h.tr - (0 + List.length h.tr)) (List.drop (0 + List.length h.tr) ([] ++ h.tr)))]) else False else False else False else False else False else False else False else False else False else False else False else False else False else False else False else False) := by kernel_rfl
theorem ZsT (h : Mh) (s0 s1 s2 : SesD) (K : DV → Prop) : (askH Tryz.prog (hkM [(97, ZbD), (98, Zcq)] [] []) Tryz.f58 [.agg (macL 0 h [s0, s1, s2])] K) = (bif okC4 h.w0 h.w1 h.w2 h.w3 then bif smS s0 then bif smS s1 then bif smS s2 then bif allV h.tr then bif true && (decide ((0 + List.length h.tr) * 32 ≤ 140737488355328) && decide (0 + List.length h.tr ≤ 9223372036854775807)) then bif kX h.w0 then bif kX h.w1 then bif kX h.w2 then bif kX h.w3 then bif kX s0.pg then bif kX s0.rd then bif kX s0.wt then bif kX s1.pg then bif kX s1.rd then bif kX s1.wt then bif kX s2.pg then bif kX s2.rd then bif kX s2.wt then bif decide (0 + List.length h.tr ≤ List.length ([] ++ h.tr)) && List.all ([] ++ h.tr) fun r => List.all r D.keeps then K (DV.agg [D.s (1) (3) (tC h.w0) (tD h.w0), D.s (1) (3) (tC h.w1) (tD h.w1), D.s (1) (3) (tC h.w2) (tD h.w2), D.s (1) (3) (tC h.w3) (tD h.w3), vN h.c0, vN h.c1, vN h.c2, vN h.c3, vN h.ce, D.s (1) (17) [(sTt s0), (sTt s1), (sTt s2)] [], D.s (1) (4) (List.take (0 + List.length h.tr) ([] ++ h.tr)) (List.take (0 + List.length h.tr - (0 + List.length h.tr)) (List.drop (0 + List.length h.tr) ([] ++ h.tr)))]) else False else False else False else False else False else False else False else False else False else False else False else False else False else False else False else False else False else False else False else False) := by kernel_rfl
theorem ZsH (h : Mh) (s0 s1 s2 s3 : SesD) (K : DV → Prop) : (askH Tryz.prog (hkM [(97, ZbD), (98, Zcq)] [] []) Tryz.f58 [.agg (macL 0 h [s0, s1, s2, s3])] K) = (bif okC4 h.w0 h.w1 h.w2 h.w3 then bif smS s0 then bif smS s1 then bif smS s2 then bif smS s3 then bif allV h.tr then bif true && (decide ((0 + List.length h.tr) * 32 ≤ 140737488355328) && decide (0 + List.length h.tr ≤ 9223372036854775807)) then bif kX h.w0 then bif kX h.w1 then bif kX h.w2 then bif kX h.w3 then bif kX s0.pg then bif kX s0.rd then bif kX s0.wt then bif kX s1.pg then bif kX s1.rd then bif kX s1.wt then bif kX s2.pg then bif kX s2.rd then bif kX s2.wt then bif kX s3.pg then bif kX s3.rd then bif kX s3.wt then bif decide (0 + List.length h.tr ≤ List.length ([] ++ h.tr)) && List.all ([] ++ h.tr) fun r => List.all r D.keeps then K (DV.agg [D.s (1) (3) (tC h.w0) (tD h.w0), D.s (1) (3) (tC h.w1) (tD h.w1), D.s (1) (3) (tC h.w2) (tD h.w2), D.s (1) (3) (tC h.w3) (tD h.w3), vN h.c0, vN h.c1, vN h.c2, vN h.c3, vN h.ce, D.s (1) (17) [(sTt s0), (sTt s1), (sTt s2), (sTt s3)] [], D.s (1) (4) (List.take (0 + List.length h.tr) ([] ++ h.tr)) (List.take (0 + List.length h.tr - (0 + List.length h.tr)) (List.drop (0 + List.length h.tr) ([] ++ h.tr)))]) else False else False else False else False else False else False else False else False else False else False else False else False else False else False else False else False else False else False else False else False else False else False else False else False) := by kernel_rfl
theorem ZuM (h : Mh) (ss : List SesD) (hl : ss.length ≤ 4) (hm : smM h ss = true) : CT Tryz.prog 58 [.agg (macL 0 h ss)] (.agg (macL 1 h ss)) := by
  have h4 := Zlc hm
  obtain ⟨⟨a0, a1, a2, a3⟩, a4, a5⟩ := Zcj hm
  obtain ⟨_, _, b0⟩ := Zab a0
  obtain ⟨_, _, b1⟩ := Zab a1
  obtain ⟨_, _, b2⟩ := Zab a2
  obtain ⟨_, _, b3⟩ := Zab a3
  obtain ⟨t1, t2, t3, t4⟩ := Ziq a4
  rcases ss with _ | ⟨s0, _ | ⟨s1, _ | ⟨s2, _ | ⟨s3, _ | ⟨s4, l⟩⟩⟩⟩⟩
  · refine ZqX (.cons Zio (.cons ZmG .nil)) .nil .nil mixed Tryz.func58 rfl rfl rfl ?_
    rw [Zsf]
    refine ⟨?_⟩
    simp only [kX, tC, tD, sTt]
    simp only [h4, b0, b1, b2, b3, t1, t2, t3, t4, Nat.zero_add, List.nil_append, List.append_nil, Nat.le_refl, decide_true, Bool.and_self, Bool.true_and, cond_true, Zby, Nat.add_zero, Nat.sub_self, List.take_zero]
    exact .aggO (.cons (.refl _) (.cons (.refl _) (.cons (.refl _) (.cons (.refl _) (.cons (.refl _) (.cons (.refl _) (.cons (.refl _) (.cons (.refl _) (.cons (.refl _) (.cons (.nil 17) (.cons (.refl _) .nil)))))))))))
  · have q0 := a5 s0 (by simp)
    obtain ⟨p0, r0, w0⟩ := ZaD q0
    obtain ⟨_, _, x0⟩ := Zab p0
    obtain ⟨_, _, y0⟩ := Zab r0
    obtain ⟨_, _, z0⟩ := Zab w0
    refine ct_m (.cons Zio (.cons ZmG .nil)) .nil .nil mixed Tryz.func58 rfl rfl rfl ?_
    rw [ZsV]
    refine ⟨?_⟩
    simp only [kX, tC, tD, sTt]
    simp only [h4, b0, b1, b2, b3, t1, t2, t3, t4, q0, x0, y0, z0, Nat.zero_add, List.nil_append, List.append_nil, Nat.le_refl, decide_true, Bool.and_self, Bool.true_and, cond_true, Zby, Nat.add_zero, Nat.sub_self, List.take_zero]
    rfl
  · have q0 := a5 s0 (by simp)
    obtain ⟨p0, r0, w0⟩ := ZaD q0
    obtain ⟨_, _, x0⟩ := Zab p0
    obtain ⟨_, _, y0⟩ := Zab r0
    obtain ⟨_, _, z0⟩ := Zab w0
    have q1 := a5 s1 (by simp)
    obtain ⟨p1, r1, w1⟩ := ZaD q1
    obtain ⟨_, _, x1⟩ := Zab p1
    obtain ⟨_, _, y1⟩ := Zab r1
    obtain ⟨_, _, z1⟩ := Zab w1
    refine ct_m (.cons Zio (.cons ZmG .nil)) .nil .nil mixed Tryz.func58 rfl rfl rfl ?_
    rw [ZrZ]
    refine ⟨?_⟩
    simp only [kX, tC, tD, sTt]
    simp only [h4, b0, b1, b2, b3, t1, t2, t3, t4, q0, x0, y0, z0, q1, x1, y1, z1, Nat.zero_add, List.nil_append, List.append_nil, Nat.le_refl, decide_true, Bool.and_self, Bool.true_and, cond_true, Zby, Nat.add_zero, Nat.sub_self, List.take_zero]
    rfl
  · have q0 := a5 s0 (by simp)
    obtain ⟨p0, r0, w0⟩ := ZaD q0
    obtain ⟨_, _, x0⟩ := Zab p0
    obtain ⟨_, _, y0⟩ := Zab r0
    obtain ⟨_, _, z0⟩ := Zab w0
    have q1 := a5 s1 (by simp)
    obtain ⟨p1, r1, w1⟩ := ZaD q1
    obtain ⟨_, _, x1⟩ := Zab p1
    obtain ⟨_, _, y1⟩ := Zab r1
    obtain ⟨_, _, z1⟩ := Zab w1
    have q2 := a5 s2 (by simp)
    obtain ⟨p2, r2, w2⟩ := ZaD q2
    obtain ⟨_, _, x2⟩ := Zab p2
    obtain ⟨_, _, y2⟩ := Zab r2
    obtain ⟨_, _, z2⟩ := Zab w2
    refine ct_m (.cons Zio (.cons ZmG .nil)) .nil .nil mixed Tryz.func58 rfl rfl rfl ?_
    rw [ZsT]
    refine ⟨?_⟩
    simp only [kX, tC, tD, sTt]
    simp only [h4, b0, b1, b2, b3, t1, t2, t3, t4, q0, x0, y0, z0, q1, x1, y1, z1, q2, x2, y2, z2, Nat.zero_add, List.nil_append, List.append_nil, Nat.le_refl, decide_true, Bool.and_self, Bool.true_and, cond_true, Zby, Nat.add_zero, Nat.sub_self, List.take_zero]
    rfl
  · have q0 := a5 s0 (by simp)
    obtain ⟨p0, r0, w0⟩ := ZaD q0
    obtain ⟨_, _, x0⟩ := Zab p0
    obtain ⟨_, _, y0⟩ := Zab r0
    obtain ⟨_, _, z0⟩ := Zab w0
    have q1 := a5 s1 (by simp)
    obtain ⟨p1, r1, w1⟩ := ZaD q1
    obtain ⟨_, _, x1⟩ := Zab p1
    obtain ⟨_, _, y1⟩ := Zab r1
    obtain ⟨_, _, z1⟩ := Zab w1
    have q2 := a5 s2 (by simp)
    obtain ⟨p2, r2, w2⟩ := ZaD q2
    obtain ⟨_, _, x2⟩ := Zab p2
    obtain ⟨_, _, y2⟩ := Zab r2
    obtain ⟨_, _, z2⟩ := Zab w2
    have q3 := a5 s3 (by simp)
    obtain ⟨p3, r3, w3⟩ := ZaD q3
    obtain ⟨_, _, x3⟩ := Zab p3
    obtain ⟨_, _, y3⟩ := Zab r3
    obtain ⟨_, _, z3⟩ := Zab w3
    refine ct_m (.cons Zio (.cons ZmG .nil)) .nil .nil mixed Tryz.func58 rfl rfl rfl ?_
    rw [ZsH]
    refine ⟨?_⟩
    simp only [kX, tC, tD, sTt]
    simp only [h4, b0, b1, b2, b3, t1, t2, t3, t4, q0, x0, y0, z0, q1, x1, y1, z1, q2, x2, y2, z2, q3, x3, y3, z3, Nat.zero_add, List.nil_append, List.append_nil, Nat.le_refl, decide_true, Bool.and_self, Bool.true_and, cond_true, Zby, Nat.add_zero, Nat.sub_self, List.take_zero]
    rfl
  · simp at hl
theorem Zuj : Zac Tryz.prog 58 sCop := o_al Tryz.func58 (by kernel_rfl) rfl fun ds Q h => by
  unfold sCop at h; split at h
  · obtain ⟨m, ss, h, r⟩ := ZbA h
    obtain ⟨h1, h2⟩ := Zae h
    rw [Bool.and_eq_true] at h1
    exact ⟨_, _, .cons r .nil, ZuM m ss (Nat.le_of_ble_eq_true h1.1) h1.2, Zhr h1.2, rfl, h2⟩
  · exact h.elim
theorem Zs0 (h : Mh) (K : DV → Prop) : (askH Tryz.prog (hkM [(46, ZbD), (47, Zcq)] [] []) Tryz.f19 [.agg (macL 0 h [])] K) = (bif okC4 h.w0 h.w1 h.w2 h.w3 then bif allV h.tr then bif true && (decide ((0 + List.length h.tr) * 32 ≤ 140737488355328) && decide (0 + List.length h.tr ≤ 9223372036854775807)) then bif kX h.w0 then bif kX h.w1 then bif kX h.w2 then bif kX h.w3 then bif decide (0 + List.length h.tr ≤ List.length ([] ++ h.tr)) && List.all ([] ++ h.tr) fun r => List.all r D.keeps then K (DV.agg [D.s (1) (3) (tC h.w0) (tD h.w0), D.s (1) (3) (tC h.w1) (tD h.w1), D.s (1) (3) (tC h.w2) (tD h.w2), D.s (1) (3) (tC h.w3) (tD h.w3), vN h.c0, vN h.c1, vN h.c2, vN h.c3, vN h.ce, nilV, D.s (1) (4) (List.take (0 + List.length h.tr) ([] ++ h.tr)) (List.take (0 + List.length h.tr - (0 + List.length h.tr)) (List.drop (0 + List.length h.tr) ([] ++ h.tr)))]) else False else False else False else False else False else False else False else False) := by kernel_rfl
end

section
open Go Go.Proofs
theorem CTN.args {P : Program} {f : FuncId} {ds es : List DV} {r : DV} (h : All2 AL ds es) (hc : CTN P f es r) : CTN P f ds r := fun w vs S G hov => by
  refine hc w vs S G ?_
  cases hov with
  | tup _ _ _ sub h1 h2 h3 h4 =>
    refine .tup vs es S sub (by rw [← h.len]; exact h1) (fun i e hi => ?_) h3 h4
    obtain ⟨d, g1, g2⟩ := h.get hi
    exact g2 _ _ _ _ (h2 i d g1)
theorem Zhn {P : Program} {f : FuncId} {s s' : Spec} (hs : Zac P f s) (hd : ∀ ds Q, s' ds Q → ∃ es, All2 AL ds es ∧ s es Q) : Zac P f s' := fun ds Q h => by
  obtain ⟨es, h1, h2⟩ := hd ds Q h
  obtain ⟨hg, r, hc, hp, hf, hq⟩ := hs es Q h2
  exact ⟨hg, r, hc.args h1, .inr (.inr ((ZgL hc hp).args h1)), hf, hq⟩
def Zod (cs : List D) (K : List (List D) → List (List D) → List (List D) → List (List D) → Prop) : Prop := match cs with
  | [a, b, c, d] => ZbS 1 a fun a => ZbS 1 b fun b => ZbS 1 c fun c => ZbS 1 d fun d => K a b c d
  | _ => False
theorem Zkq {cs : List D} {K : List (List D) → List (List D) → List (List D) → List (List D) → Prop} (h : Zod cs K) : ∃ a b c d, K a b c d ∧ All2 RD cs [.s 0 1 a [], .s 0 1 b [], .s 0 1 c [], .s 0 1 d []] := by
  unfold Zod at h
  split at h
  · obtain ⟨a, h, e0⟩ := Zar h
    obtain ⟨b, h, e1⟩ := Zar h
    obtain ⟨c, h, e2⟩ := Zar h
    obtain ⟨d, h, e3⟩ := Zar h
    exact ⟨a, b, c, d, h, .cons e0 (.cons e1 (.cons e2 (.cons e3 .nil)))⟩
  · exact h.elim
def Zmh : Spec := fun ds Q => match ds with
  | [.agg cs] => cond (ZkD cs) (Zod cs fun R0 R1 R2 R3 => cond (okV4 R0 R1 R2 R3) (cond (amay (toZ (mW R0)) (toZ (mW R1)) (toZ (mW R2)) (toZ (mW R3))) (Q (.tup [dO (mW R0) (mW R1) (mW R2) (mW R3), I 0])) (Q (.tup [dNil, I 400]))) False) False
  | _ => False
theorem ZlE : ∀ ds Q, Zmh ds Q → ∃ es, All2 AL ds es ∧ sNew es Q := fun ds Q h => by
  unfold Zmh at h; split at h
  · obtain ⟨h0, h⟩ := Zae h
    obtain ⟨a, b, c, d, h, r⟩ := Zkq h
    exact ⟨_, .cons (.agg r h0 rfl) .nil, h⟩
  · exact h.elim
theorem Zti : Zac Tryz.prog 48 Zmh := Zhn oNew ZlE
theorem ZrS : Zac Tryz.prog 50 Zmh := Zhn Zue ZlE
def Zoc (cs : List D) (K : Int → Int → Int → List (List D) → Prop) : Prop := match cs with
  | [a, b, c, d] => Zbx a fun a => Zbx b fun b => Zbx c fun c => ZbS 4 d fun d => K a b c d
  | _ => False
theorem ZjA {cs : List D} {K : Int → Int → Int → List (List D) → Prop} (h : Zoc cs K) : ∃ a b c d, K a b c d ∧ All2 RD cs [vN a, vN b, vN c, .s 0 4 d []] := by
  unfold Zoc at h
  split at h
  · obtain ⟨a, h, e0⟩ := Zaj h
    obtain ⟨b, h, e1⟩ := Zaj h
    obtain ⟨c, h, e2⟩ := Zaj h
    obtain ⟨d, h, e3⟩ := Zar h
    exact ⟨a, b, c, d, h, .cons e0 (.cons e1 (.cons e2 (.cons e3 .nil)))⟩
  · exact h.elim
def ZgW : Spec := fun ds Q => match ds with
  | [.agg cs] => cond (ZkD cs) (Zoc cs fun i g c R => cond (okZ 4 R && decide (R.length ≤ 4398046510977)) (cond (smay i g c (toZ R)) (Q (.tup [ZoG i g c (.s 1 4 R []), I 0])) (Q (.tup [ZoG 0 0 0 nilD, I 1100]))) False) False
  | _ => False
theorem Zh4 : ∀ ds Q, ZgW ds Q → ∃ es, All2 AL ds es ∧ ZnJ es Q := fun ds Q h => by
  unfold ZgW at h; split at h
  · obtain ⟨h0, h⟩ := Zae h
    obtain ⟨a, b, c, d, h, r⟩ := ZjA h
    exact ⟨_, .cons (.agg r h0 rfl) .nil, h⟩
  · exact h.elim
theorem Zsy : Zac Tryz.prog 49 ZgW := Zhn Ztk Zh4
theorem Zrz : Zac Tryz.prog 51 ZgW := Zhn ZrT Zh4
def ZsG : Inl := inlM Tryz.prog [(50, Zmh), (51, ZgW), (27, sRMm)] [] [] Tryz.f21
end

section
open Go Go.Proofs
theorem Zt8 (h : Mh) (ss : List SesD) (at' : Int) (K : DV → Prop) : (ask Tryz.prog [(27, sAtD [.agg (macL 0 h ss)] (B (mmay h ss)))] Tryz.f55 [.agg (macL 0 h ss), I at'] K) = ([DV.agg (macL (0) h ss)] = [DV.agg (macL (0) h ss)] ∧ bif mmay h ss then bif decide (at' ≥ 0) then K (DV.c (D.v (Value.bool (decide (at' < @Nat.cast Int _ (List.length (List.map (sesL (0)) ss))))))) else K (DV.c (D.v (Value.bool false))) else K (DV.c (D.v (Value.bool false)))) := by kernel_rfl
theorem gRM : Goes Tryz.prog 27 := Zat Tryz.func27 (by kernel_rfl) rfl
theorem Ztu (h : Mh) (ss : List SesD) (i : Int) (hok : okM h ss = true) : CT Tryz.prog 55 [.agg (macL 0 h ss), I i] (B (Zb6 h ss i)) := by
  refine ct_s (.cons (oAtD gRM (cRM h ss hok) rfl rfl) .nil) mixed Tryz.func55 rfl rfl rfl ?_
  rw [Zt8]
  refine ⟨rfl, ?_⟩
  unfold Zb6
  rw [List.length_map]
  simp only [bifK]
def Zq8 : Spec := fun ds Q => match ds with
  | [d, e] => macA d fun h ss => inA e fun i => cond (okM h ss) (Q (B (Zb6 h ss i))) False
  | _ => False
theorem Ztr : Zac Tryz.prog 55 Zq8 := o_al Tryz.func55 (by kernel_rfl) rfl fun ds Q h => by
  unfold Zq8 at h; split at h
  · obtain ⟨m, ss, h, r⟩ := ZbA h
    obtain ⟨i, h, rfl⟩ := Zo6 h
    obtain ⟨h1, h2⟩ := Zae h
    exact ⟨_, _, .cons r (.cons (.refl _) .nil), Ztu m ss i h1, rfl, rfl, h2⟩
  · exact h.elim
def iRtl : Inl := inlM Tryz.prog [] [] [] Tryz.f57
theorem ZoJ : Zbf Tryz.prog 57 iRtl := Zba .nil .nil .nil mixed Tryz.func57 rfl (Zat Tryz.func57 (by kernel_rfl) rfl)
end

section
open Go Go.Proofs
def frcI (n : Int) (K : Int → Prop) : Prop := match n with
  | .ofNat m => frcN m fun m => K (.ofNat m)
  | .negSucc m => frcN m fun m => K (.negSucc m)
theorem ZmI {n : Int} {K : Int → Prop} (h : frcI n K) : K n := by
  unfold frcI at h; split at h
  · exact Za7 h
  · exact Za7 h
def Zpb (f : D → (D → Prop) → Prop) : List D → (List D → Prop) → Prop
  | [], K => K []
  | d :: l, K => f d fun d => Zpb f l fun l => K (d :: l)
def Zpl (f : D → (D → Prop) → Prop) : List (List D) → (List (List D) → Prop) → Prop
  | [], K => K []
  | r :: l, K => Zpb f r fun r => Zpl f l fun l => K (r :: l)
def frcX : Nat → D → (D → Prop) → Prop
  | 0, d, K => K d
  | n + 1, d, K => match d with
    | .s t z rows sp => Zpl (frcX n) rows fun rows => Zpl (frcX n) sp fun sp => K (.s t z rows sp)
    | .v x => match x with
      | .int k i => frcI i fun i => K (.v (.int k i))
      | x => K (.v x)
    | d => K d
theorem Zes {f : D → (D → Prop) → Prop} (hf : ∀ d K, f d K → K d) : ∀ (l : List D) (K : List D → Prop), Zpb f l K → K l
  | [], K, h => h
  | d :: l, K, h => Zes hf l _ (hf d _ h)
theorem ZeF {f : D → (D → Prop) → Prop} (hf : ∀ d K, f d K → K d) : ∀ (l : List (List D)) (K : List (List D) → Prop), Zpl f l K → K l
  | [], K, h => h
  | r :: l, K, h => ZeF hf l _ (Zes hf r _ h)
theorem Zc7 : ∀ (n : Nat) (d : D) (K : D → Prop), frcX n d K → K d
  | 0, d, K, h => h
  | n + 1, d, K, h => by
    unfold frcX at h; split at h
    · exact ZeF (Zc7 n) _ _ (ZeF (Zc7 n) _ _ h)
    · split at h
      · exact ZmI h
      · exact h
    · exact h
def frcV (d : DV) (K : DV → Prop) : Prop := match d with
  | .c d => frcX 3 d fun d => K (.c d)
  | .agg cs => Zpb (frcX 3) cs fun cs => K (.agg cs)
  | .tup [.c d, e] => frcX 3 d fun d => K (.tup [.c d, e])
  | d => K d
theorem Zm4 {d : DV} {K : DV → Prop} (h : frcV d K) : K d := by
  unfold frcV at h; split at h
  · exact Zc7 3 _ _ h
  · exact Zes (Zc7 3) _ _ h
  · exact Zc7 3 _ _ h
  · exact h
def sF (s : Spec) : Spec := fun ds Q => s ds fun r => frcV r Q
theorem oF {P : Program} {f : FuncId} {s : Spec} (h : Zac P f s) : Zac P f (sF s) := fun ds Q hq => by
  obtain ⟨hg, r, hc, hp, hf, hq⟩ := h ds _ hq
  exact ⟨hg, r, hc, hp, hf, Zm4 hq⟩
def ZdZ : Inl := Zmm Tryz.prog [34] (sF sCop)
theorem ZbN : Zbf Tryz.prog 58 ZdZ := Zd4 (oF Zuj)
def spC : List (FuncId × Spec) := [(55, Zq8), (56, sUp), (146, sUnd), (68, ZbU), (122, sRM), (123, sWMy), (145, sB idm), (164, Zex), (121, ZoW), (136, sB lab)]
theorem ZbC : SpecsOK Tryz.prog spC := .cons (Ztr) (.cons (oUp2) (.cons (Zr9) (.cons (Zgk) (.cons (oQM) (.cons (oWPy) (.cons (oRId) (.cons (ZiX) (.cons (ZsL) (.cons (Zsu) (.nil))))))))))
def jRT : Inl := inlM Tryz.prog spC [] [] Tryz.f165
theorem ZsP : Zbf Tryz.prog 165 jRT := Zba ZbC .nil (.nil) mixed Tryz.func165 rfl (Zat Tryz.func165 (by kernel_rfl) rfl)
def ZsJ : Inl := inlM Tryz.prog spC [] [(165, jRT)] Tryz.f176
theorem ZpG : Zbf Tryz.prog 176 ZsJ := Zba ZbC .nil (.cons ZsP (.nil)) mixed Tryz.func176 rfl (Zat Tryz.func176 (by kernel_rfl) rfl)
def jWR : Inl := inlM Tryz.prog spC [] [] Tryz.f190
theorem Zsh : Zbf Tryz.prog 190 jWR := Zba ZbC .nil (.nil) mixed Tryz.func190 rfl (Zat Tryz.func190 (by kernel_rfl) rfl)
def jFW : Inl := inlM Tryz.prog spC [] [] Tryz.f189
theorem Zte : Zbf Tryz.prog 189 jFW := Zba ZbC .nil (.nil) mixed Tryz.func189 rfl (Zat Tryz.func189 (by kernel_rfl) rfl)
def jPl : Inl := inlM Tryz.prog spC [] [] Tryz.f141
theorem ZsS : Zbf Tryz.prog 141 jPl := Zba ZbC .nil (.nil) mixed Tryz.func141 rfl (Zat Tryz.func141 (by kernel_rfl) rfl)
def jWW : Inl := inlM Tryz.prog spC [] [(141, jPl)] Tryz.f87
theorem Zsc : Zbf Tryz.prog 87 jWW := Zba ZbC .nil (.cons ZsS (.nil)) mixed Tryz.func87 rfl (Zat Tryz.func87 (by kernel_rfl) rfl)
def jWA : Inl := inlM Tryz.prog spC [] [] Tryz.f171
theorem Zsg : Zbf Tryz.prog 171 jWA := Zba ZbC .nil (.nil) mixed Tryz.func171 rfl (Zat Tryz.func171 (by kernel_rfl) rfl)
def jAdd : Inl := inlM Tryz.prog spC [] [] Tryz.f85
theorem Zrp : Zbf Tryz.prog 85 jAdd := Zba ZbC .nil (.nil) mixed Tryz.func85 rfl (Zat Tryz.func85 (by kernel_rfl) rfl)
def Zim : Inl := inlM Tryz.prog spC [] [] Tryz.f83
theorem ZdX : Zbf Tryz.prog 83 Zim := Zba ZbC .nil (.nil) mixed Tryz.func83 rfl (Zat Tryz.func83 (by kernel_rfl) rfl)
def ZnB : Inl := inlM Tryz.prog spC [] [(83, Zim)] Tryz.f167
theorem ZiM : Zbf Tryz.prog 167 ZnB := Zba ZbC .nil (.cons ZdX (.nil)) mixed Tryz.func167 rfl (Zat Tryz.func167 (by kernel_rfl) rfl)
def Zqj : Inl := inlM Tryz.prog spC [] [(167, ZnB), (58, ZdZ), (57, iRtl), (176, ZsJ), (190, jWR), (189, jFW)] Tryz.f169
theorem ZnZ : Zbf Tryz.prog 169 Zqj := Zba ZbC .nil (.cons ZiM (.cons ZbN (.cons ZoJ (.cons ZpG (.cons Zsh (.cons Zte (.nil))))))) mixed Tryz.func169 rfl (Zat Tryz.func169 (by kernel_rfl) rfl)
def Zp7 : Inl := inlM Tryz.prog spC [] [(83, Zim), (58, ZdZ), (57, iRtl), (87, jWW)] Tryz.f39
theorem Zng : Zbf Tryz.prog 39 Zp7 := Zba ZbC .nil (.cons ZdX (.cons ZbN (.cons ZoJ (.cons Zsc (.nil))))) mixed Tryz.func39 rfl (Zat Tryz.func39 (by kernel_rfl) rfl)
def Zs5 : Inl := inlM Tryz.prog spC [] [(83, Zim), (58, ZdZ), (85, jAdd)] Tryz.f34
theorem ZoQ : Zbf Tryz.prog 34 Zs5 := Zba ZbC .nil (.cons ZdX (.cons ZbN (.cons Zrp (.nil)))) mixed Tryz.func34 rfl (Zat Tryz.func34 (by kernel_rfl) rfl)
def jRun : Inl := inlM Tryz.prog spC [] [(83, Zim), (167, ZnB), (169, Zqj), (39, Zp7), (34, Zs5), (58, ZdZ), (171, jWA)] Tryz.f128
theorem ZhB : Zbf Tryz.prog 128 jRun := Zba ZbC .nil (.cons ZdX (.cons ZiM (.cons ZnZ (.cons Zng (.cons ZoQ (.cons ZbN (.cons Zsg (.nil)))))))) mixed Tryz.func128 rfl (Zat Tryz.func128 (by kernel_rfl) rfl)
end

section
open Go Go.Proofs
def ZpS (s : SesD) (a : Int) : Int := bif decide (a = 0) then s.r0 else bif decide (a = 1) then s.r1 else bif decide (a = 2) then s.r2 else s.r3
end

section
open Go Go.Proofs
def Zp2 (h : Mh) (a b k v : Int) : Mh := { h with tr := bif decide ((h.tr.length : Int) < 512) then h.tr ++ [[vN a, vN b, vN k, vN v]] else h.tr }
theorem ZuW (s : SesD) : ZpS s 0 = s.r0 := rfl
theorem ZuT (s : SesD) : ZpS s 1 = s.r1 := rfl
theorem ZuX (s : SesD) : ZpS s 2 = s.r2 := rfl
theorem ZuU (s : SesD) : ZpS s 3 = s.r3 := rfl
def ixI (i : Int) (ss : List SesD) : Bool := decide (0 ≤ i) && decide (i < @Nat.cast Int _ (List.length (List.map (sesL 1) ss)))
def foA (i : Int) (ss : List SesD) : Prop := foAt (addN 0 (Int.toNat i)) (Int.toNat i) (List.length (List.map (sesL 1) ss))
def foB (i : Int) (ss : List SesD) : Prop := foAt (Int.toNat i) (Int.toNat i) (List.length (List.map (sesL 1) ss))
def rmT (h : Mh) : Bool := decide (List.length h.tr ≤ List.length h.tr) && (decide ((List.length h.tr + 1) * 32 ≤ 140737488355328) && decide (List.length h.tr + 1 ≤ 9223372036854775807))
def wO (R : List (List D)) : Prop := whole (List.length R) R
def stI (i : Int) (ss : List SesD) (r : List D) : List (List D) := List.set (List.map (sesL 1) ss) (Int.toNat i) r
def wLs (ss : List SesD) (R : List (List D)) : Prop := whole (List.length (List.map (sesL 1) ss)) R
theorem ZhC {s : SesD} (h : ZaI s = true) : okZ 4 s.pg = true ∧ okZ 3 s.rd = true ∧ okZ 3 s.wt = true := by
  unfold ZaI at h; simpa [Bool.and_eq_true] using h
end

section
open Go Go.Proofs
def bB : SesD := ⟨5, 1, 1, [[vN 2, vN 0, vN 0, vN 1], [vN 3, vN 0, vN 1, vN 0]], 0, 0, 0, 0, 0, 0, [], [], 0, 0, 0, 0, 0⟩
def bA0 : SesD := ⟨3, 0, 3, [[vN 2, vN 0, vN 0, vN 0], [vN 1, vN 0, vN 0, vN 0], [vN 3, vN 0, vN 0, vN 0]], 0, 0, 0, 0, 0, 0, [], [], 0, 0, 0, 0, 0⟩
def bH0 : Mh := ⟨[[vN 5, vN 0, vN 0], [vN 6, vN 0, vN 0]], [[vN 7, vN 0, vN 0]], [], [[vN 9, vN 0, vN 0]], 0, 0, 0, 0, 9, []⟩
def bA1 : SesD := ⟨3, 0, 3, [[vN 2, vN 0, vN 0, vN 0], [vN 1, vN 0, vN 0, vN 0], [vN 3, vN 0, vN 0, vN 0]], 0, 1, 5, 0, 0, 0, [[vN 0, vN 0, vN 0]], [], 0, 0, 0, 0, 0⟩
def bH1 : Mh := ⟨[[vN 5, vN 0, vN 0], [vN 6, vN 0, vN 0]], [[vN 7, vN 0, vN 0]], [], [[vN 9, vN 0, vN 0]], 0, 0, 0, 0, 9, [[vN 3, vN 0, vN 0, vN 5]]⟩
def bA2 : SesD := ⟨3, 0, 3, [[vN 2, vN 0, vN 0, vN 0], [vN 1, vN 0, vN 0, vN 0], [vN 3, vN 0, vN 0, vN 0]], 0, 2, 10, 0, 0, 0, [[vN 0, vN 0, vN 0]], [], 0, 0, 0, 0, 0⟩
def bH2 : Mh := ⟨[[vN 5, vN 0, vN 0], [vN 6, vN 0, vN 0]], [[vN 7, vN 0, vN 0]], [], [[vN 9, vN 0, vN 0]], 0, 0, 0, 0, 9, [[vN 3, vN 0, vN 0, vN 5]]⟩
def bA3 : SesD := ⟨3, 0, 3, [[vN 2, vN 0, vN 0, vN 0], [vN 1, vN 0, vN 0, vN 0], [vN 3, vN 0, vN 0, vN 0]], 0, 3, 10, 0, 0, 0, [[vN 0, vN 0, vN 0]], [[vN 0, vN 0, vN 10]], 0, 0, 0, 0, 0⟩
def bH3 : Mh := ⟨[[vN 5, vN 0, vN 0], [vN 6, vN 0, vN 0]], [[vN 7, vN 0, vN 0]], [], [[vN 9, vN 0, vN 0]], 0, 0, 0, 0, 9, [[vN 3, vN 0, vN 0, vN 5], [vN 3, vN 0, vN 1, vN 10]]⟩
def bA4 : SesD := ⟨3, 0, 3, [[vN 2, vN 0, vN 0, vN 0], [vN 1, vN 0, vN 0, vN 0], [vN 3, vN 0, vN 0, vN 0]], 1, 3, 10, 0, 0, 0, [[vN 0, vN 0, vN 0]], [[vN 0, vN 0, vN 10]], 0, 0, 0, 0, 0⟩
def bH4 : Mh := ⟨[[vN 5, vN 0, vN 0], [vN 6, vN 0, vN 0]], [[vN 7, vN 0, vN 0]], [], [[vN 9, vN 0, vN 0]], 0, 0, 0, 0, 9, [[vN 3, vN 0, vN 0, vN 5], [vN 3, vN 0, vN 1, vN 10]]⟩
theorem eSt1 (K : DV → Prop) : (askH Tryz.prog (hkM spC [] [(58, ZdZ), (128, jRun)]) Tryz.f79 [.agg [D.s 0 3 [[D.v (Value.int IntKind.i64 5), D.v (Value.int IntKind.i64 0), D.v (Value.int IntKind.i64 0)], [D.v (Value.int IntKind.i64 6), D.v (Value.int IntKind.i64 0), D.v (Value.int IntKind.i64 0)]] [], D.s 0 3 [[D.v (Value.int IntKind.i64 7), D.v (Value.int IntKind.i64 0), D.v (Value.int IntKind.i64 0)]] [], D.s 0 3 [] [], D.s 0 3 [[D.v (Value.int IntKind.i64 9), D.v (Value.int IntKind.i64 0), D.v (Value.int IntKind.i64 0)]] [], D.v (Value.int IntKind.i64 0), D.v (Value.int IntKind.i64 0), D.v (Value.int IntKind.i64 0), D.v (Value.int IntKind.i64 0), D.v (Value.int IntKind.i64 9), D.s 0 17 [[D.v (Value.int IntKind.i64 3), D.v (Value.int IntKind.i64 0), D.v (Value.int IntKind.i64 3), D.s 0 4 [[D.v (Value.int IntKind.i64 2), D.v (Value.int IntKind.i64 0), D.v (Value.int IntKind.i64 0), D.v (Value.int IntKind.i64 0)], [D.v (Value.int IntKind.i64 1), D.v (Value.int IntKind.i64 0), D.v (Value.int IntKind.i64 0), D.v (Value.int IntKind.i64 0)], [D.v (Value.int IntKind.i64 3), D.v (Value.int IntKind.i64 0), D.v (Value.int IntKind.i64 0), D.v (Value.int IntKind.i64 0)]] [], D.v (Value.int IntKind.i64 0), D.v (Value.int IntKind.i64 0), D.v (Value.int IntKind.i64 0), D.v (Value.int IntKind.i64 0), D.v (Value.int IntKind.i64 0), D.v (Value.int IntKind.i64 0), D.s 0 3 [] [], D.s 0 3 [] [], D.v (Value.int IntKind.i64 0), D.v (Value.int IntKind.i64 0), D.v (Value.int IntKind.i64 0), D.v (Value.int IntKind.i64 0), D.v (Value.int IntKind.i64 0)], [D.v (Value.int IntKind.i64 5), D.v (Value.int IntKind.i64 1), D.v (Value.int IntKind.i64 1), D.s 0 4 [[D.v (Value.int IntKind.i64 2), D.v (Value.int IntKind.i64 0), D.v (Value.int IntKind.i64 0), D.v (Value.int IntKind.i64 1)], [D.v (Value.int IntKind.i64 3), D.v (Value.int IntKind.i64 0), D.v (Value.int IntKind.i64 1), D.v (Value.int IntKind.i64 0)]] [], D.v (Value.int IntKind.i64 0), D.v (Value.int IntKind.i64 0), D.v (Value.int IntKind.i64 0), D.v (Value.int IntKind.i64 0), D.v (Value.int IntKind.i64 0), D.v (Value.int IntKind.i64 0), D.s 0 3 [] [], D.s 0 3 [] [], D.v (Value.int IntKind.i64 0), D.v (Value.int IntKind.i64 0), D.v (Value.int IntKind.i64 0), D.v (Value.int IntKind.i64 0), D.v (Value.int IntKind.i64 0)]] [], D.s 0 4 [] []], I 0] K) = (K (DV.tup [DV.agg (Ze4 (1) ⟨[[vN (5), vN (0), vN (0)], [vN (6), vN (0), vN (0)]], [[vN (7), vN (0), vN (0)]], [], [[vN (9), vN (0), vN (0)]], (0), (0), (0), (0), (9), [[vN (3), vN (0), vN (0), vN (5)]]⟩ [(sesL (1) ⟨(3), (0), (3), [[vN (2), vN (0), vN (0), vN (0)], [vN (1), vN (0), vN (0), vN (0)], [vN (3), vN (0), vN (0), vN (0)]], (0), (1), (5), (0), (0), (0), [[vN (0), vN (0), vN (0)]], [], (0), (0), (0), (0), (0)⟩), (sesL (1) ⟨(5), (1), (1), [[vN (2), vN (0), vN (0), vN (1)], [vN (3), vN (0), vN (1), vN (0)]], (0), (0), (0), (0), (0), (0), [], [], (0), (0), (0), (0), (0)⟩)]), I (0)])) := by kernel_rfl
theorem cSt1 : CT Tryz.prog 79 [.agg (macL 0 bH0 [bA0, bB]), I 0] (macR bH1 [bA1, bB] 0) := by
  have e : macL 0 bH0 [bA0, bB] = [D.s 0 3 [[D.v (Value.int IntKind.i64 5), D.v (Value.int IntKind.i64 0), D.v (Value.int IntKind.i64 0)], [D.v (Value.int IntKind.i64 6), D.v (Value.int IntKind.i64 0), D.v (Value.int IntKind.i64 0)]] [], D.s 0 3 [[D.v (Value.int IntKind.i64 7), D.v (Value.int IntKind.i64 0), D.v (Value.int IntKind.i64 0)]] [], D.s 0 3 [] [], D.s 0 3 [[D.v (Value.int IntKind.i64 9), D.v (Value.int IntKind.i64 0), D.v (Value.int IntKind.i64 0)]] [], D.v (Value.int IntKind.i64 0), D.v (Value.int IntKind.i64 0), D.v (Value.int IntKind.i64 0), D.v (Value.int IntKind.i64 0), D.v (Value.int IntKind.i64 9), D.s 0 17 [[D.v (Value.int IntKind.i64 3), D.v (Value.int IntKind.i64 0), D.v (Value.int IntKind.i64 3), D.s 0 4 [[D.v (Value.int IntKind.i64 2), D.v (Value.int IntKind.i64 0), D.v (Value.int IntKind.i64 0), D.v (Value.int IntKind.i64 0)], [D.v (Value.int IntKind.i64 1), D.v (Value.int IntKind.i64 0), D.v (Value.int IntKind.i64 0), D.v (Value.int IntKind.i64 0)], [D.v (Value.int IntKind.i64 3), D.v (Value.int IntKind.i64 0), D.v (Value.int IntKind.i64 0), D.v (Value.int IntKind.i64 0)]] [], D.v (Value.int IntKind.i64 0), D.v (Value.int IntKind.i64 0), D.v (Value.int IntKind.i64 0), D.v (Value.int IntKind.i64 0), D.v (Value.int IntKind.i64 0), D.v (Value.int IntKind.i64 0), D.s 0 3 [] [], D.s 0 3 [] [], D.v (Value.int IntKind.i64 0), D.v (Value.int IntKind.i64 0), D.v (Value.int IntKind.i64 0), D.v (Value.int IntKind.i64 0), D.v (Value.int IntKind.i64 0)], [D.v (Value.int IntKind.i64 5), D.v (Value.int IntKind.i64 1), D.v (Value.int IntKind.i64 1), D.s 0 4 [[D.v (Value.int IntKind.i64 2), D.v (Value.int IntKind.i64 0), D.v (Value.int IntKind.i64 0), D.v (Value.int IntKind.i64 1)], [D.v (Value.int IntKind.i64 3), D.v (Value.int IntKind.i64 0), D.v (Value.int IntKind.i64 1), D.v (Value.int IntKind.i64 0)]] [], D.v (Value.int IntKind.i64 0), D.v (Value.int IntKind.i64 0), D.v (Value.int IntKind.i64 0), D.v (Value.int IntKind.i64 0), D.v (Value.int IntKind.i64 0), D.v (Value.int IntKind.i64 0), D.s 0 3 [] [], D.s 0 3 [] [], D.v (Value.int IntKind.i64 0), D.v (Value.int IntKind.i64 0), D.v (Value.int IntKind.i64 0), D.v (Value.int IntKind.i64 0), D.v (Value.int IntKind.i64 0)]] [], D.s 0 4 [] []] := rfl
  rw [e]
  refine ct_m ZbC .nil (.cons ZbN (.cons ZhB .nil)) mixed Tryz.func79 rfl rfl rfl ?_
  rw [eSt1]
  exact ⟨rfl⟩
theorem eSt2 (K : DV → Prop) : (askH Tryz.prog (hkM spC [] [(58, ZdZ), (128, jRun)]) Tryz.f79 [.agg [D.s 0 3 [[D.v (Value.int IntKind.i64 5), D.v (Value.int IntKind.i64 0), D.v (Value.int IntKind.i64 0)], [D.v (Value.int IntKind.i64 6), D.v (Value.int IntKind.i64 0), D.v (Value.int IntKind.i64 0)]] [], D.s 0 3 [[D.v (Value.int IntKind.i64 7), D.v (Value.int IntKind.i64 0), D.v (Value.int IntKind.i64 0)]] [], D.s 0 3 [] [], D.s 0 3 [[D.v (Value.int IntKind.i64 9), D.v (Value.int IntKind.i64 0), D.v (Value.int IntKind.i64 0)]] [], D.v (Value.int IntKind.i64 0), D.v (Value.int IntKind.i64 0), D.v (Value.int IntKind.i64 0), D.v (Value.int IntKind.i64 0), D.v (Value.int IntKind.i64 9), D.s 0 17 [[D.v (Value.int IntKind.i64 3), D.v (Value.int IntKind.i64 0), D.v (Value.int IntKind.i64 3), D.s 0 4 [[D.v (Value.int IntKind.i64 2), D.v (Value.int IntKind.i64 0), D.v (Value.int IntKind.i64 0), D.v (Value.int IntKind.i64 0)], [D.v (Value.int IntKind.i64 1), D.v (Value.int IntKind.i64 0), D.v (Value.int IntKind.i64 0), D.v (Value.int IntKind.i64 0)], [D.v (Value.int IntKind.i64 3), D.v (Value.int IntKind.i64 0), D.v (Value.int IntKind.i64 0), D.v (Value.int IntKind.i64 0)]] [], D.v (Value.int IntKind.i64 0), D.v (Value.int IntKind.i64 1), D.v (Value.int IntKind.i64 5), D.v (Value.int IntKind.i64 0), D.v (Value.int IntKind.i64 0), D.v (Value.int IntKind.i64 0), D.s 0 3 [[D.v (Value.int IntKind.i64 0), D.v (Value.int IntKind.i64 0), D.v (Value.int IntKind.i64 0)]] [], D.s 0 3 [] [], D.v (Value.int IntKind.i64 0), D.v (Value.int IntKind.i64 0), D.v (Value.int IntKind.i64 0), D.v (Value.int IntKind.i64 0), D.v (Value.int IntKind.i64 0)], [D.v (Value.int IntKind.i64 5), D.v (Value.int IntKind.i64 1), D.v (Value.int IntKind.i64 1), D.s 0 4 [[D.v (Value.int IntKind.i64 2), D.v (Value.int IntKind.i64 0), D.v (Value.int IntKind.i64 0), D.v (Value.int IntKind.i64 1)], [D.v (Value.int IntKind.i64 3), D.v (Value.int IntKind.i64 0), D.v (Value.int IntKind.i64 1), D.v (Value.int IntKind.i64 0)]] [], D.v (Value.int IntKind.i64 0), D.v (Value.int IntKind.i64 0), D.v (Value.int IntKind.i64 0), D.v (Value.int IntKind.i64 0), D.v (Value.int IntKind.i64 0), D.v (Value.int IntKind.i64 0), D.s 0 3 [] [], D.s 0 3 [] [], D.v (Value.int IntKind.i64 0), D.v (Value.int IntKind.i64 0), D.v (Value.int IntKind.i64 0), D.v (Value.int IntKind.i64 0), D.v (Value.int IntKind.i64 0)]] [], D.s 0 4 [[D.v (Value.int IntKind.i64 3), D.v (Value.int IntKind.i64 0), D.v (Value.int IntKind.i64 0), D.v (Value.int IntKind.i64 5)]] []], I 0] K) = (K (DV.tup [DV.agg (Ze4 (1) ⟨[[vN (5), vN (0), vN (0)], [vN (6), vN (0), vN (0)]], [[vN (7), vN (0), vN (0)]], [], [[vN (9), vN (0), vN (0)]], (0), (0), (0), (0), (9), [[vN (3), vN (0), vN (0), vN (5)]]⟩ [(sesL (1) ⟨(3), (0), (3), [[vN (2), vN (0), vN (0), vN (0)], [vN (1), vN (0), vN (0), vN (0)], [vN (3), vN (0), vN (0), vN (0)]], (0), (2), (10), (0), (0), (0), [[vN (0), vN (0), vN (0)]], [], (0), (0), (0), (0), (0)⟩), (sesL (1) ⟨(5), (1), (1), [[vN (2), vN (0), vN (0), vN (1)], [vN (3), vN (0), vN (1), vN (0)]], (0), (0), (0), (0), (0), (0), [], [], (0), (0), (0), (0), (0)⟩)]), I (0)])) := by kernel_rfl
theorem cSt2 : CT Tryz.prog 79 [.agg (macL 0 bH1 [bA1, bB]), I 0] (macR bH2 [bA2, bB] 0) := by
  have e : macL 0 bH1 [bA1, bB] = [D.s 0 3 [[D.v (Value.int IntKind.i64 5), D.v (Value.int IntKind.i64 0), D.v (Value.int IntKind.i64 0)], [D.v (Value.int IntKind.i64 6), D.v (Value.int IntKind.i64 0), D.v (Value.int IntKind.i64 0)]] [], D.s 0 3 [[D.v (Value.int IntKind.i64 7), D.v (Value.int IntKind.i64 0), D.v (Value.int IntKind.i64 0)]] [], D.s 0 3 [] [], D.s 0 3 [[D.v (Value.int IntKind.i64 9), D.v (Value.int IntKind.i64 0), D.v (Value.int IntKind.i64 0)]] [], D.v (Value.int IntKind.i64 0), D.v (Value.int IntKind.i64 0), D.v (Value.int IntKind.i64 0), D.v (Value.int IntKind.i64 0), D.v (Value.int IntKind.i64 9), D.s 0 17 [[D.v (Value.int IntKind.i64 3), D.v (Value.int IntKind.i64 0), D.v (Value.int IntKind.i64 3), D.s 0 4 [[D.v (Value.int IntKind.i64 2), D.v (Value.int IntKind.i64 0), D.v (Value.int IntKind.i64 0), D.v (Value.int IntKind.i64 0)], [D.v (Value.int IntKind.i64 1), D.v (Value.int IntKind.i64 0), D.v (Value.int IntKind.i64 0), D.v (Value.int IntKind.i64 0)], [D.v (Value.int IntKind.i64 3), D.v (Value.int IntKind.i64 0), D.v (Value.int IntKind.i64 0), D.v (Value.int IntKind.i64 0)]] [], D.v (Value.int IntKind.i64 0), D.v (Value.int IntKind.i64 1), D.v (Value.int IntKind.i64 5), D.v (Value.int IntKind.i64 0), D.v (Value.int IntKind.i64 0), D.v (Value.int IntKind.i64 0), D.s 0 3 [[D.v (Value.int IntKind.i64 0), D.v (Value.int IntKind.i64 0), D.v (Value.int IntKind.i64 0)]] [], D.s 0 3 [] [], D.v (Value.int IntKind.i64 0), D.v (Value.int IntKind.i64 0), D.v (Value.int IntKind.i64 0), D.v (Value.int IntKind.i64 0), D.v (Value.int IntKind.i64 0)], [D.v (Value.int IntKind.i64 5), D.v (Value.int IntKind.i64 1), D.v (Value.int IntKind.i64 1), D.s 0 4 [[D.v (Value.int IntKind.i64 2), D.v (Value.int IntKind.i64 0), D.v (Value.int IntKind.i64 0), D.v (Value.int IntKind.i64 1)], [D.v (Value.int IntKind.i64 3), D.v (Value.int IntKind.i64 0), D.v (Value.int IntKind.i64 1), D.v (Value.int IntKind.i64 0)]] [], D.v (Value.int IntKind.i64 0), D.v (Value.int IntKind.i64 0), D.v (Value.int IntKind.i64 0), D.v (Value.int IntKind.i64 0), D.v (Value.int IntKind.i64 0), D.v (Value.int IntKind.i64 0), D.s 0 3 [] [], D.s 0 3 [] [], D.v (Value.int IntKind.i64 0), D.v (Value.int IntKind.i64 0), D.v (Value.int IntKind.i64 0), D.v (Value.int IntKind.i64 0), D.v (Value.int IntKind.i64 0)]] [], D.s 0 4 [[D.v (Value.int IntKind.i64 3), D.v (Value.int IntKind.i64 0), D.v (Value.int IntKind.i64 0), D.v (Value.int IntKind.i64 5)]] []] := rfl
  rw [e]
  refine ct_m ZbC .nil (.cons ZbN (.cons ZhB .nil)) mixed Tryz.func79 rfl rfl rfl ?_
  rw [eSt2]
  exact ⟨rfl⟩
theorem eSt3 (K : DV → Prop) : (askH Tryz.prog (hkM spC [] [(58, ZdZ), (128, jRun)]) Tryz.f79 [.agg [D.s 0 3 [[D.v (Value.int IntKind.i64 5), D.v (Value.int IntKind.i64 0), D.v (Value.int IntKind.i64 0)], [D.v (Value.int IntKind.i64 6), D.v (Value.int IntKind.i64 0), D.v (Value.int IntKind.i64 0)]] [], D.s 0 3 [[D.v (Value.int IntKind.i64 7), D.v (Value.int IntKind.i64 0), D.v (Value.int IntKind.i64 0)]] [], D.s 0 3 [] [], D.s 0 3 [[D.v (Value.int IntKind.i64 9), D.v (Value.int IntKind.i64 0), D.v (Value.int IntKind.i64 0)]] [], D.v (Value.int IntKind.i64 0), D.v (Value.int IntKind.i64 0), D.v (Value.int IntKind.i64 0), D.v (Value.int IntKind.i64 0), D.v (Value.int IntKind.i64 9), D.s 0 17 [[D.v (Value.int IntKind.i64 3), D.v (Value.int IntKind.i64 0), D.v (Value.int IntKind.i64 3), D.s 0 4 [[D.v (Value.int IntKind.i64 2), D.v (Value.int IntKind.i64 0), D.v (Value.int IntKind.i64 0), D.v (Value.int IntKind.i64 0)], [D.v (Value.int IntKind.i64 1), D.v (Value.int IntKind.i64 0), D.v (Value.int IntKind.i64 0), D.v (Value.int IntKind.i64 0)], [D.v (Value.int IntKind.i64 3), D.v (Value.int IntKind.i64 0), D.v (Value.int IntKind.i64 0), D.v (Value.int IntKind.i64 0)]] [], D.v (Value.int IntKind.i64 0), D.v (Value.int IntKind.i64 2), D.v (Value.int IntKind.i64 10), D.v (Value.int IntKind.i64 0), D.v (Value.int IntKind.i64 0), D.v (Value.int IntKind.i64 0), D.s 0 3 [[D.v (Value.int IntKind.i64 0), D.v (Value.int IntKind.i64 0), D.v (Value.int IntKind.i64 0)]] [], D.s 0 3 [] [], D.v (Value.int IntKind.i64 0), D.v (Value.int IntKind.i64 0), D.v (Value.int IntKind.i64 0), D.v (Value.int IntKind.i64 0), D.v (Value.int IntKind.i64 0)], [D.v (Value.int IntKind.i64 5), D.v (Value.int IntKind.i64 1), D.v (Value.int IntKind.i64 1), D.s 0 4 [[D.v (Value.int IntKind.i64 2), D.v (Value.int IntKind.i64 0), D.v (Value.int IntKind.i64 0), D.v (Value.int IntKind.i64 1)], [D.v (Value.int IntKind.i64 3), D.v (Value.int IntKind.i64 0), D.v (Value.int IntKind.i64 1), D.v (Value.int IntKind.i64 0)]] [], D.v (Value.int IntKind.i64 0), D.v (Value.int IntKind.i64 0), D.v (Value.int IntKind.i64 0), D.v (Value.int IntKind.i64 0), D.v (Value.int IntKind.i64 0), D.v (Value.int IntKind.i64 0), D.s 0 3 [] [], D.s 0 3 [] [], D.v (Value.int IntKind.i64 0), D.v (Value.int IntKind.i64 0), D.v (Value.int IntKind.i64 0), D.v (Value.int IntKind.i64 0), D.v (Value.int IntKind.i64 0)]] [], D.s 0 4 [[D.v (Value.int IntKind.i64 3), D.v (Value.int IntKind.i64 0), D.v (Value.int IntKind.i64 0), D.v (Value.int IntKind.i64 5)]] []], I 0] K) = (K (DV.tup [DV.agg (Ze4 (1) ⟨[[vN (5), vN (0), vN (0)], [vN (6), vN (0), vN (0)]], [[vN (7), vN (0), vN (0)]], [], [[vN (9), vN (0), vN (0)]], (0), (0), (0), (0), (9), [[vN (3), vN (0), vN (0), vN (5)], [vN (3), vN (0), vN (1), vN (10)]]⟩ [(sesL (1) ⟨(3), (0), (3), [[vN (2), vN (0), vN (0), vN (0)], [vN (1), vN (0), vN (0), vN (0)], [vN (3), vN (0), vN (0), vN (0)]], (0), (3), (10), (0), (0), (0), [[vN (0), vN (0), vN (0)]], [[vN (0), vN (0), vN (10)]], (0), (0), (0), (0), (0)⟩), (sesL (1) ⟨(5), (1), (1), [[vN (2), vN (0), vN (0), vN (1)], [vN (3), vN (0), vN (1), vN (0)]], (0), (0), (0), (0), (0), (0), [], [], (0), (0), (0), (0), (0)⟩)]), I (0)])) := by kernel_rfl
theorem cSt3 : CT Tryz.prog 79 [.agg (macL 0 bH2 [bA2, bB]), I 0] (macR bH3 [bA3, bB] 0) := by
  have e : macL 0 bH2 [bA2, bB] = [D.s 0 3 [[D.v (Value.int IntKind.i64 5), D.v (Value.int IntKind.i64 0), D.v (Value.int IntKind.i64 0)], [D.v (Value.int IntKind.i64 6), D.v (Value.int IntKind.i64 0), D.v (Value.int IntKind.i64 0)]] [], D.s 0 3 [[D.v (Value.int IntKind.i64 7), D.v (Value.int IntKind.i64 0), D.v (Value.int IntKind.i64 0)]] [], D.s 0 3 [] [], D.s 0 3 [[D.v (Value.int IntKind.i64 9), D.v (Value.int IntKind.i64 0), D.v (Value.int IntKind.i64 0)]] [], D.v (Value.int IntKind.i64 0), D.v (Value.int IntKind.i64 0), D.v (Value.int IntKind.i64 0), D.v (Value.int IntKind.i64 0), D.v (Value.int IntKind.i64 9), D.s 0 17 [[D.v (Value.int IntKind.i64 3), D.v (Value.int IntKind.i64 0), D.v (Value.int IntKind.i64 3), D.s 0 4 [[D.v (Value.int IntKind.i64 2), D.v (Value.int IntKind.i64 0), D.v (Value.int IntKind.i64 0), D.v (Value.int IntKind.i64 0)], [D.v (Value.int IntKind.i64 1), D.v (Value.int IntKind.i64 0), D.v (Value.int IntKind.i64 0), D.v (Value.int IntKind.i64 0)], [D.v (Value.int IntKind.i64 3), D.v (Value.int IntKind.i64 0), D.v (Value.int IntKind.i64 0), D.v (Value.int IntKind.i64 0)]] [], D.v (Value.int IntKind.i64 0), D.v (Value.int IntKind.i64 2), D.v (Value.int IntKind.i64 10), D.v (Value.int IntKind.i64 0), D.v (Value.int IntKind.i64 0), D.v (Value.int IntKind.i64 0), D.s 0 3 [[D.v (Value.int IntKind.i64 0), D.v (Value.int IntKind.i64 0), D.v (Value.int IntKind.i64 0)]] [], D.s 0 3 [] [], D.v (Value.int IntKind.i64 0), D.v (Value.int IntKind.i64 0), D.v (Value.int IntKind.i64 0), D.v (Value.int IntKind.i64 0), D.v (Value.int IntKind.i64 0)], [D.v (Value.int IntKind.i64 5), D.v (Value.int IntKind.i64 1), D.v (Value.int IntKind.i64 1), D.s 0 4 [[D.v (Value.int IntKind.i64 2), D.v (Value.int IntKind.i64 0), D.v (Value.int IntKind.i64 0), D.v (Value.int IntKind.i64 1)], [D.v (Value.int IntKind.i64 3), D.v (Value.int IntKind.i64 0), D.v (Value.int IntKind.i64 1), D.v (Value.int IntKind.i64 0)]] [], D.v (Value.int IntKind.i64 0), D.v (Value.int IntKind.i64 0), D.v (Value.int IntKind.i64 0), D.v (Value.int IntKind.i64 0), D.v (Value.int IntKind.i64 0), D.v (Value.int IntKind.i64 0), D.s 0 3 [] [], D.s 0 3 [] [], D.v (Value.int IntKind.i64 0), D.v (Value.int IntKind.i64 0), D.v (Value.int IntKind.i64 0), D.v (Value.int IntKind.i64 0), D.v (Value.int IntKind.i64 0)]] [], D.s 0 4 [[D.v (Value.int IntKind.i64 3), D.v (Value.int IntKind.i64 0), D.v (Value.int IntKind.i64 0), D.v (Value.int IntKind.i64 5)]] []] := rfl
  rw [e]
  refine ct_m ZbC .nil (.cons ZbN (.cons ZhB .nil)) mixed Tryz.func79 rfl rfl rfl ?_
  rw [eSt3]
  exact ⟨rfl⟩
theorem eSt4 (K : DV → Prop) : (askH Tryz.prog (hkM spC [] [(58, ZdZ), (128, jRun)]) Tryz.f79 [.agg [D.s 0 3 [[D.v (Value.int IntKind.i64 5), D.v (Value.int IntKind.i64 0), D.v (Value.int IntKind.i64 0)], [D.v (Value.int IntKind.i64 6), D.v (Value.int IntKind.i64 0), D.v (Value.int IntKind.i64 0)]] [], D.s 0 3 [[D.v (Value.int IntKind.i64 7), D.v (Value.int IntKind.i64 0), D.v (Value.int IntKind.i64 0)]] [], D.s 0 3 [] [], D.s 0 3 [[D.v (Value.int IntKind.i64 9), D.v (Value.int IntKind.i64 0), D.v (Value.int IntKind.i64 0)]] [], D.v (Value.int IntKind.i64 0), D.v (Value.int IntKind.i64 0), D.v (Value.int IntKind.i64 0), D.v (Value.int IntKind.i64 0), D.v (Value.int IntKind.i64 9), D.s 0 17 [[D.v (Value.int IntKind.i64 3), D.v (Value.int IntKind.i64 0), D.v (Value.int IntKind.i64 3), D.s 0 4 [[D.v (Value.int IntKind.i64 2), D.v (Value.int IntKind.i64 0), D.v (Value.int IntKind.i64 0), D.v (Value.int IntKind.i64 0)], [D.v (Value.int IntKind.i64 1), D.v (Value.int IntKind.i64 0), D.v (Value.int IntKind.i64 0), D.v (Value.int IntKind.i64 0)], [D.v (Value.int IntKind.i64 3), D.v (Value.int IntKind.i64 0), D.v (Value.int IntKind.i64 0), D.v (Value.int IntKind.i64 0)]] [], D.v (Value.int IntKind.i64 0), D.v (Value.int IntKind.i64 3), D.v (Value.int IntKind.i64 10), D.v (Value.int IntKind.i64 0), D.v (Value.int IntKind.i64 0), D.v (Value.int IntKind.i64 0), D.s 0 3 [[D.v (Value.int IntKind.i64 0), D.v (Value.int IntKind.i64 0), D.v (Value.int IntKind.i64 0)]] [], D.s 0 3 [[D.v (Value.int IntKind.i64 0), D.v (Value.int IntKind.i64 0), D.v (Value.int IntKind.i64 10)]] [], D.v (Value.int IntKind.i64 0), D.v (Value.int IntKind.i64 0), D.v (Value.int IntKind.i64 0), D.v (Value.int IntKind.i64 0), D.v (Value.int IntKind.i64 0)], [D.v (Value.int IntKind.i64 5), D.v (Value.int IntKind.i64 1), D.v (Value.int IntKind.i64 1), D.s 0 4 [[D.v (Value.int IntKind.i64 2), D.v (Value.int IntKind.i64 0), D.v (Value.int IntKind.i64 0), D.v (Value.int IntKind.i64 1)], [D.v (Value.int IntKind.i64 3), D.v (Value.int IntKind.i64 0), D.v (Value.int IntKind.i64 1), D.v (Value.int IntKind.i64 0)]] [], D.v (Value.int IntKind.i64 0), D.v (Value.int IntKind.i64 0), D.v (Value.int IntKind.i64 0), D.v (Value.int IntKind.i64 0), D.v (Value.int IntKind.i64 0), D.v (Value.int IntKind.i64 0), D.s 0 3 [] [], D.s 0 3 [] [], D.v (Value.int IntKind.i64 0), D.v (Value.int IntKind.i64 0), D.v (Value.int IntKind.i64 0), D.v (Value.int IntKind.i64 0), D.v (Value.int IntKind.i64 0)]] [], D.s 0 4 [[D.v (Value.int IntKind.i64 3), D.v (Value.int IntKind.i64 0), D.v (Value.int IntKind.i64 0), D.v (Value.int IntKind.i64 5)], [D.v (Value.int IntKind.i64 3), D.v (Value.int IntKind.i64 0), D.v (Value.int IntKind.i64 1), D.v (Value.int IntKind.i64 10)]] []], I 0] K) = (K (DV.tup [DV.agg (Ze4 (1) ⟨[[vN (5), vN (0), vN (0)], [vN (6), vN (0), vN (0)]], [[vN (7), vN (0), vN (0)]], [], [[vN (9), vN (0), vN (0)]], (0), (0), (0), (0), (9), [[vN (3), vN (0), vN (0), vN (5)], [vN (3), vN (0), vN (1), vN (10)]]⟩ [(sesL (1) ⟨(3), (0), (3), [[vN (2), vN (0), vN (0), vN (0)], [vN (1), vN (0), vN (0), vN (0)], [vN (3), vN (0), vN (0), vN (0)]], (1), (3), (10), (0), (0), (0), [[vN (0), vN (0), vN (0)]], [[vN (0), vN (0), vN (10)]], (0), (0), (0), (0), (0)⟩), (sesL (1) ⟨(5), (1), (1), [[vN (2), vN (0), vN (0), vN (1)], [vN (3), vN (0), vN (1), vN (0)]], (0), (0), (0), (0), (0), (0), [], [], (0), (0), (0), (0), (0)⟩)]), I (0)])) := by kernel_rfl
theorem cSt4 : CT Tryz.prog 79 [.agg (macL 0 bH3 [bA3, bB]), I 0] (macR bH4 [bA4, bB] 0) := by
  have e : macL 0 bH3 [bA3, bB] = [D.s 0 3 [[D.v (Value.int IntKind.i64 5), D.v (Value.int IntKind.i64 0), D.v (Value.int IntKind.i64 0)], [D.v (Value.int IntKind.i64 6), D.v (Value.int IntKind.i64 0), D.v (Value.int IntKind.i64 0)]] [], D.s 0 3 [[D.v (Value.int IntKind.i64 7), D.v (Value.int IntKind.i64 0), D.v (Value.int IntKind.i64 0)]] [], D.s 0 3 [] [], D.s 0 3 [[D.v (Value.int IntKind.i64 9), D.v (Value.int IntKind.i64 0), D.v (Value.int IntKind.i64 0)]] [], D.v (Value.int IntKind.i64 0), D.v (Value.int IntKind.i64 0), D.v (Value.int IntKind.i64 0), D.v (Value.int IntKind.i64 0), D.v (Value.int IntKind.i64 9), D.s 0 17 [[D.v (Value.int IntKind.i64 3), D.v (Value.int IntKind.i64 0), D.v (Value.int IntKind.i64 3), D.s 0 4 [[D.v (Value.int IntKind.i64 2), D.v (Value.int IntKind.i64 0), D.v (Value.int IntKind.i64 0), D.v (Value.int IntKind.i64 0)], [D.v (Value.int IntKind.i64 1), D.v (Value.int IntKind.i64 0), D.v (Value.int IntKind.i64 0), D.v (Value.int IntKind.i64 0)], [D.v (Value.int IntKind.i64 3), D.v (Value.int IntKind.i64 0), D.v (Value.int IntKind.i64 0), D.v (Value.int IntKind.i64 0)]] [], D.v (Value.int IntKind.i64 0), D.v (Value.int IntKind.i64 3), D.v (Value.int IntKind.i64 10), D.v (Value.int IntKind.i64 0), D.v (Value.int IntKind.i64 0), D.v (Value.int IntKind.i64 0), D.s 0 3 [[D.v (Value.int IntKind.i64 0), D.v (Value.int IntKind.i64 0), D.v (Value.int IntKind.i64 0)]] [], D.s 0 3 [[D.v (Value.int IntKind.i64 0), D.v (Value.int IntKind.i64 0), D.v (Value.int IntKind.i64 10)]] [], D.v (Value.int IntKind.i64 0), D.v (Value.int IntKind.i64 0), D.v (Value.int IntKind.i64 0), D.v (Value.int IntKind.i64 0), D.v (Value.int IntKind.i64 0)], [D.v (Value.int IntKind.i64 5), D.v (Value.int IntKind.i64 1), D.v (Value.int IntKind.i64 1), D.s 0 4 [[D.v (Value.int IntKind.i64 2), D.v (Value.int IntKind.i64 0), D.v (Value.int IntKind.i64 0), D.v (Value.int IntKind.i64 1)], [D.v (Value.int IntKind.i64 3), D.v (Value.int IntKind.i64 0), D.v (Value.int IntKind.i64 1), D.v (Value.int IntKind.i64 0)]] [], D.v (Value.int IntKind.i64 0), D.v (Value.int IntKind.i64 0), D.v (Value.int IntKind.i64 0), D.v (Value.int IntKind.i64 0), D.v (Value.int IntKind.i64 0), D.v (Value.int IntKind.i64 0), D.s 0 3 [] [], D.s 0 3 [] [], D.v (Value.int IntKind.i64 0), D.v (Value.int IntKind.i64 0), D.v (Value.int IntKind.i64 0), D.v (Value.int IntKind.i64 0), D.v (Value.int IntKind.i64 0)]] [], D.s 0 4 [[D.v (Value.int IntKind.i64 3), D.v (Value.int IntKind.i64 0), D.v (Value.int IntKind.i64 0), D.v (Value.int IntKind.i64 5)], [D.v (Value.int IntKind.i64 3), D.v (Value.int IntKind.i64 0), D.v (Value.int IntKind.i64 1), D.v (Value.int IntKind.i64 10)]] []] := rfl
  rw [e]
  refine ct_m ZbC .nil (.cons ZbN (.cons ZhB .nil)) mixed Tryz.func79 rfl rfl rfl ?_
  rw [eSt4]
  exact ⟨rfl⟩
theorem ZpW : Zbf Tryz.prog 21 ZsG := Zba (.cons ZrS (.cons Zrz (.cons oRMm .nil))) .nil .nil mixed Tryz.func21 rfl (Zat Tryz.func21 (by kernel_rfl) rfl)
theorem Zsw (K : DV → Prop) : (askH Tryz.prog (hkM [] [] [(21, ZsG)]) Tryz.f78 [] K) = (K (DV.agg [D.s (1) (3) [[vN (5), vN (0), vN (0)], [vN (6), vN (0), vN (0)]] [], D.s (1) (3) [[vN (7), vN (0), vN (0)]] [], D.s (1) (3) [] [], D.s (1) (3) [[vN (9), vN (0), vN (0)]] [], vN (0), vN (0), vN (0), vN (0), vN (9), D.s (1) (17) [[vN (3), vN (0), vN (3), D.s (1) (4) [[vN (2), vN (0), vN (0), vN (0)], [vN (1), vN (0), vN (0), vN (0)], [vN (3), vN (0), vN (0), vN (0)]] [], vN (0), vN (0), vN (0), vN (0), vN (0), vN (0), nilV, nilV, vN (0), vN (0), vN (0), vN (0), vN (0)], [vN (5), vN (1), vN (1), D.s (1) (4) [[vN (2), vN (0), vN (0), vN (1)], [vN (3), vN (0), vN (1), vN (0)]] [], vN (0), vN (0), vN (0), vN (0), vN (0), vN (0), nilV, nilV, vN (0), vN (0), vN (0), vN (0), vN (0)]] [], nilV])) := by kernel_rfl
theorem Zsr : CT Tryz.prog 78 [] (.agg (macL 1 bH0 [bA0, bB])) := by
  refine ZqX .nil .nil (.cons ZpW .nil) mixed Tryz.func78 rfl rfl rfl ?_
  rw [Zsw]
  refine ⟨.aggO ?_⟩
  repeat (first | exact .nil | exact OL.refl _ | exact OL.nil _ | refine .cons ?_ ?_ | refine OL.rows ?_)
end

section
open Go Go.Proofs
def sStp : Spec := fun ds Q => match ds with
  | [d, _] => macA d fun _ ss => match ss with
    | [a, _] => bif a.st == 0 then (bif a.pc == 0 then sAtD [.agg (macL 0 bH0 [bA0, bB]), I 0] (macR bH1 [bA1, bB] 0) ds Q else bif a.pc == 1 then sAtD [.agg (macL 0 bH1 [bA1, bB]), I 0] (macR bH2 [bA2, bB] 0) ds Q else bif a.pc == 2 then sAtD [.agg (macL 0 bH2 [bA2, bB]), I 0] (macR bH3 [bA3, bB] 0) ds Q else sAtD [.agg (macL 0 bH3 [bA3, bB]), I 0] (macR bH4 [bA4, bB] 0) ds Q) else False
    | _ => False
  | _ => False
theorem gStp : Goes Tryz.prog 79 := Zat Tryz.func79 (by kernel_rfl) rfl
theorem oStp : Zac Tryz.prog 79 sStp := fun ds Q h => by
  unfold sStp at h; split at h
  · obtain ⟨m, ss, h, _⟩ := ZbA h
    split at h
    · rename_i a _ _
      cases h1 : a.st == 0
      · rw [h1] at h; exact h.elim
      · rw [h1] at h
        cases h2 : a.pc == 0
        · cases h3 : a.pc == 1
          · cases h4 : a.pc == 2
            · rw [h2, h3, h4] at h; exact oAtD gStp cSt4 rfl rfl _ Q h
            · rw [h2, h3, h4] at h; exact oAtD gStp cSt3 rfl rfl _ Q h
          · rw [h2, h3] at h; exact oAtD gStp cSt2 rfl rfl _ Q h
        · rw [h2] at h; exact oAtD gStp cSt1 rfl rfl _ Q h
    · exact h.elim
  · exact h.elim
def iStp : Inl := Zmm Tryz.prog [34, 3] (sF sStp)
theorem ZrE : Zbf Tryz.prog 79 iStp := Zd4 (oF oStp)
def iBeg : Inl := Zmm Tryz.prog [] (sF (sAtD [] (.agg (macL 1 bH0 [bA0, bB]))))
theorem ZiS : Zbf Tryz.prog 78 iBeg := Zd4 (oF (oAtD (Zat Tryz.func78 (by kernel_rfl) rfl) Zsr rfl rfl))
theorem Zo8 (K : DV → Prop) : (askH Tryz.prog (hkM [] [] [(78, iBeg), (79, iStp)]) Tryz.f31 [I 0, I 2] K) = (([] : List DV) = [] ∧ [DV.agg (macL (0) bH0 [bA0, bB]), I (0)] = [DV.agg (macL (0) bH0 [bA0, bB]), I (0)] ∧ [DV.agg (macL (0) bH1 [bA1, bB]), I (0)] = [DV.agg (macL (0) bH1 [bA1, bB]), I (0)] ∧ K (DV.agg [D.s (1) (3) [[D.v (Value.int IntKind.i64 (5)), D.v (Value.int IntKind.i64 (0)), D.v (Value.int IntKind.i64 (0))], [D.v (Value.int IntKind.i64 (6)), D.v (Value.int IntKind.i64 (0)), D.v (Value.int IntKind.i64 (0))]] [], D.s (1) (3) [[D.v (Value.int IntKind.i64 (7)), D.v (Value.int IntKind.i64 (0)), D.v (Value.int IntKind.i64 (0))]] [], D.s (1) (3) [] [], D.s (1) (3) [[D.v (Value.int IntKind.i64 (9)), D.v (Value.int IntKind.i64 (0)), D.v (Value.int IntKind.i64 (0))]] [], D.v (Value.int IntKind.i64 (0)), D.v (Value.int IntKind.i64 (0)), D.v (Value.int IntKind.i64 (0)), D.v (Value.int IntKind.i64 (0)), D.v (Value.int IntKind.i64 (9)), D.s (1) (17) [[D.v (Value.int IntKind.i64 (3)), D.v (Value.int IntKind.i64 (0)), D.v (Value.int IntKind.i64 (3)), D.s (1) (4) [[D.v (Value.int IntKind.i64 (2)), D.v (Value.int IntKind.i64 (0)), D.v (Value.int IntKind.i64 (0)), D.v (Value.int IntKind.i64 (0))], [D.v (Value.int IntKind.i64 (1)), D.v (Value.int IntKind.i64 (0)), D.v (Value.int IntKind.i64 (0)), D.v (Value.int IntKind.i64 (0))], [D.v (Value.int IntKind.i64 (3)), D.v (Value.int IntKind.i64 (0)), D.v (Value.int IntKind.i64 (0)), D.v (Value.int IntKind.i64 (0))]] [], D.v (Value.int IntKind.i64 (0)), D.v (Value.int IntKind.i64 (2)), D.v (Value.int IntKind.i64 (10)), D.v (Value.int IntKind.i64 (0)), D.v (Value.int IntKind.i64 (0)), D.v (Value.int IntKind.i64 (0)), D.s (1) (3) [[D.v (Value.int IntKind.i64 (0)), D.v (Value.int IntKind.i64 (0)), D.v (Value.int IntKind.i64 (0))]] [], D.s (1) (3) [] [], D.v (Value.int IntKind.i64 (0)), D.v (Value.int IntKind.i64 (0)), D.v (Value.int IntKind.i64 (0)), D.v (Value.int IntKind.i64 (0)), D.v (Value.int IntKind.i64 (0))], [D.v (Value.int IntKind.i64 (5)), D.v (Value.int IntKind.i64 (1)), D.v (Value.int IntKind.i64 (1)), D.s (1) (4) [[D.v (Value.int IntKind.i64 (2)), D.v (Value.int IntKind.i64 (0)), D.v (Value.int IntKind.i64 (0)), D.v (Value.int IntKind.i64 (1))], [D.v (Value.int IntKind.i64 (3)), D.v (Value.int IntKind.i64 (0)), D.v (Value.int IntKind.i64 (1)), D.v (Value.int IntKind.i64 (0))]] [], D.v (Value.int IntKind.i64 (0)), D.v (Value.int IntKind.i64 (0)), D.v (Value.int IntKind.i64 (0)), D.v (Value.int IntKind.i64 (0)), D.v (Value.int IntKind.i64 (0)), D.v (Value.int IntKind.i64 (0)), D.s (1) (3) [] [], D.s (1) (3) [] [], D.v (Value.int IntKind.i64 (0)), D.v (Value.int IntKind.i64 (0)), D.v (Value.int IntKind.i64 (0)), D.v (Value.int IntKind.i64 (0)), D.v (Value.int IntKind.i64 (0))]] [], D.s (1) (4) [[D.v (Value.int IntKind.i64 (3)), D.v (Value.int IntKind.i64 (0)), D.v (Value.int IntKind.i64 (0)), D.v (Value.int IntKind.i64 (5))]] []])) := by kernel_rfl
theorem Zps : CT Tryz.prog 31 [I 0, I 2] (.agg (macL 1 bH2 [bA2, bB])) := by
  refine ct_m .nil .nil (.cons ZiS (.cons ZrE .nil)) mixed Tryz.func31 rfl rfl rfl ?_
  rw [Zo8]
  exact ⟨by repeat (first | exact rfl | refine ⟨rfl, ?_⟩)⟩
end

section
open Go Go.Proofs
theorem eSS (s s' : SesD) (K : DV → Prop) : (askW Tryz.prog (hkF [(77, Zet), (42, Zek), (45, ZdA)] [] []) Tryz.f32 [.agg (sesL 0 s), .agg (sesL 0 s')] K) = (bif s.id == s'.id then bif s.lb == s'.lb then bif s.cl == s'.cl then bif okZ (4) s.pg && okZ (4) s'.pg then bif decide (toZ s.pg = toZ s'.pg) then bif s.st == s'.st then bif s.pc == s'.pc then bif eqI [s.r0, s.r1, s.r2, s.r3] [s'.r0, s'.r1, s'.r2, s'.r3] then bif okZ (3) s.rd && okZ (3) s'.rd then bif decide (toZ s.rd = toZ s'.rd) then bif okZ (3) s.wt && okZ (3) s'.wt then bif decide (toZ s.wt = toZ s'.wt) then bif s.at' == s'.at' then bif s.sp == s'.sp then bif s.tr == s'.tr then bif s.rs == s'.rs then K (B (s.to == s'.to)) else K (B false) else K (B false) else K (B false) else K (B false) else K (B false) else False else K (B false) else False else K (B false) else K (B false) else K (B false) else K (B false) else False else K (B false) else K (B false) else K (B false)) := by kernel_rfl
def ZkP (s s' : SesD) : Bool := bif s.id == s'.id then bif s.lb == s'.lb then bif s.cl == s'.cl then bif decide (toZ s.pg = toZ s'.pg) then bif s.st == s'.st then bif s.pc == s'.pc then bif eqI [s.r0, s.r1, s.r2, s.r3] [s'.r0, s'.r1, s'.r2, s'.r3] then bif decide (toZ s.rd = toZ s'.rd) then bif decide (toZ s.wt = toZ s'.wt) then bif s.at' == s'.at' then bif s.sp == s'.sp then bif s.tr == s'.tr then bif s.rs == s'.rs then s.to == s'.to else false else false else false else false else false else false else false else false else false else false else false else false else false
theorem cSS (s s' : SesD) (h : ZaI s = true) (h' : ZaI s' = true) : CT Tryz.prog 32 [.agg (sesL 0 s), .agg (sesL 0 s')] (B (ZkP s s')) := by
  refine Zke (.cons Zmv (.cons Zms (.cons Zj7 .nil))) .nil .nil mixed Tryz.func32 rfl rfl rfl ?_
  rw [eSS]
  refine ⟨?_⟩
  obtain ⟨a1, a2, a3⟩ := ZhC h
  obtain ⟨b1, b2, b3⟩ := ZhC h'
  simp only [a1, a2, a3, b1, b2, b3, Bool.and_self, cond_true, ZtX]
  exact AL.refl _
theorem eqI4 {a b c d a' b' c' d' : Int} : eqI [a, b, c, d] [a', b', c', d'] = true ↔ a = a' ∧ b = b' ∧ c = c' ∧ d = d' := by
  simp only [eqI, Bool.and_eq_true, beq_iff_eq, and_true]
theorem ZoD {p q : Bool} : (bif p then q else false) = true ↔ p = true ∧ q = true := by cases p <;> simp
theorem Zdd {z : Nat} {R S : List (List D)} (h : okZ z R = true) (h' : okZ z S = true) (e : toZ R = toZ S) : R = S := by
  rw [(Zah h).1, (Zah h').1, e]
theorem Zlg {s s' : SesD} (h : ZaI s = true) (h' : ZaI s' = true) : ZkP s s' = true ↔ s = s' := by
  obtain ⟨a1, a2, a3⟩ := ZhC h
  obtain ⟨b1, b2, b3⟩ := ZhC h'
  unfold ZkP
  simp only [ZoD, eqI4, beq_iff_eq, decide_eq_true_eq]
  constructor
  · rintro ⟨e0, e1, e2, e3, e4, e5, ⟨e6, e7, e8, e9⟩, e10, e11, e12, e13, e14, e15, e16⟩
    have e3 := Zdd a1 b1 e3
    have e10 := Zdd a2 b2 e10
    have e11 := Zdd a3 b3 e11
    cases s; cases s'
    simp only at *
    subst e0 e1 e2 e3 e4 e5 e6 e7 e8 e9 e10 e11 e12 e13 e14 e15 e16
    rfl
  · rintro rfl; simp
def sSS : Spec := fun ds Q => match ds with
  | [d, e] => sesA d fun s => sesA e fun s' => cond (ZaI s && ZaI s') (Q (B (ZkP s s'))) False
  | _ => False
theorem oSS : Zac Tryz.prog 32 sSS := o_al Tryz.func32 (by kernel_rfl) rfl fun ds Q h => by
  unfold sSS at h; split at h
  · obtain ⟨s, h, r1⟩ := Zbz h
    obtain ⟨s', h, r2⟩ := Zbz h
    obtain ⟨h1, h2⟩ := Zae h
    rw [Bool.and_eq_true] at h1
    exact ⟨_, _, .cons r1 (.cons r2 .nil), cSS s s' h1.1 h1.2, rfl, rfl, h2⟩
  · exact h.elim
theorem eSA (R0 R1 R2 R3 S0 S1 S2 S3 : List (List D)) (K : DV → Prop) : (askW Tryz.prog (hkF [(88, Zee)] [] []) Tryz.f41 [.agg (wsL R0 R1 R2 R3), .agg (wsL S0 S1 S2 S3)] K) = (bif okZ (3) R0 && okZ (3) S0 then bif !decide (toZ R0 = toZ S0) then K (B false) else bif okZ (3) R1 && okZ (3) S1 then bif !decide (toZ R1 = toZ S1) then K (B false) else bif okZ (3) R2 && okZ (3) S2 then bif !decide (toZ R2 = toZ S2) then K (B false) else bif okZ (3) R3 && okZ (3) S3 then bif !decide (toZ R3 = toZ S3) then K (B false) else K (B true) else False else False else False else False) := by kernel_rfl
def ZjS (R0 R1 R2 R3 S0 S1 S2 S3 : List (List D)) : Bool := bif decide (toZ R0 = toZ S0) then bif decide (toZ R1 = toZ S1) then bif decide (toZ R2 = toZ S2) then bif decide (toZ R3 = toZ S3) then true else false else false else false else false
theorem cSA (R0 R1 R2 R3 S0 S1 S2 S3 : List (List D)) (h : okA R0 R1 R2 R3 = true) (h' : okA S0 S1 S2 S3 = true) : CT Tryz.prog 41 [.agg (wsL R0 R1 R2 R3), .agg (wsL S0 S1 S2 S3)] (B (ZjS R0 R1 R2 R3 S0 S1 S2 S3)) := by
  refine Zke (.cons Zmd .nil) .nil .nil mixed Tryz.func41 rfl rfl rfl ?_
  rw [eSA]
  refine ⟨?_⟩
  obtain ⟨a0, a1, a2, a3⟩ := Zci h
  obtain ⟨b0, b1, b2, b3⟩ := Zci h'
  simp only [a0, a1, a2, a3, b0, b1, b2, b3, Bool.and_self, cond_true, Zso]
  exact AL.refl _
theorem ZpK {R0 R1 R2 R3 S0 S1 S2 S3 : List (List D)} (h : okA R0 R1 R2 R3 = true) (h' : okA S0 S1 S2 S3 = true) : ZjS R0 R1 R2 R3 S0 S1 S2 S3 = true ↔ R0 = S0 ∧ R1 = S1 ∧ R2 = S2 ∧ R3 = S3 := by
  obtain ⟨a0, a1, a2, a3⟩ := Zci h
  obtain ⟨b0, b1, b2, b3⟩ := Zci h'
  unfold ZjS
  simp only [ZoD, decide_eq_true_eq]
  constructor
  · rintro ⟨e0, e1, e2, e3, _⟩
    exact ⟨Zdd a0 b0 e0, Zdd a1 b1 e1, Zdd a2 b2 e2, Zdd a3 b3 e3⟩
  · rintro ⟨rfl, rfl, rfl, rfl⟩; simp
def sSA : Spec := fun ds Q => match ds with
  | [.agg cs, .agg es] => cond (ZkD cs && Nat.beq cs.length 4 && (ZkD es && Nat.beq es.length 4)) (ZgS cs fun R0 R1 R2 R3 => ZgS es fun S0 S1 S2 S3 => cond (okA R0 R1 R2 R3 && okA S0 S1 S2 S3) (Q (B (ZjS R0 R1 R2 R3 S0 S1 S2 S3))) False) False
  | _ => False
theorem oSA : Zac Tryz.prog 41 sSA := o_al Tryz.func41 (by kernel_rfl) rfl fun ds Q h => by
  unfold sSA at h; split at h
  · obtain ⟨h0, h⟩ := Zae h
    simp only [Bool.and_eq_true] at h0
    obtain ⟨R0, R1, R2, R3, h, r1⟩ := ZcO h
    obtain ⟨S0, S1, S2, S3, h, r2⟩ := ZcO h
    obtain ⟨h1, h2⟩ := Zae h
    rw [Bool.and_eq_true] at h1
    rw [List.take_of_length_le (Nat.le_of_eq (Zaa h0.1.2))] at r1
    rw [List.take_of_length_le (Nat.le_of_eq (Zaa h0.2.2))] at r2
    exact ⟨_, _, .cons (.agg r1 h0.1.1 rfl) (.cons (.agg r2 h0.2.1 rfl) .nil), cSA R0 R1 R2 R3 S0 S1 S2 S3 h1.1 h1.2, rfl, rfl, h2⟩
  · exact h.elim
def stSM (h : Mh) (ss : List SesD) (h' : Mh) (ss' : List SesD) (v : Bool) (i : Int) : X := ⟨mkT 62 [(2, .c (.rp 3 0 11 0 0)), (3, .c (.rp 4 0 11 0 0)), (4, ab v), (5, ai i)], [(3, .bx 0 11 ((macL 0 h ss).map C.d)), (4, .bx 0 11 ((macL 0 h' ss').map C.d))], [], []⟩
def Zg8 (h : Mh) (ss : List SesD) (h' : Mh) (ss' : List SesD) : Vw := fun y K => wB y 4 fun v => wI y 5 fun i => K (stSM h ss h' ss' v i)
theorem Zip (h : Mh) (ss : List SesD) (h' : Mh) (ss' : List SesD) : VwOK (Zg8 h ss h' ss') := fun y K h => by
  unfold Zg8 at h
  obtain ⟨v, h⟩ := Zdi h
  obtain ⟨i, h⟩ := Zcp h
  exact ⟨_, h⟩
theorem rSM (h : Mh) (ss : List SesD) (h' : Mh) (ss' : List SesD) (v : Bool) (i : Int) (N : X → Prop) (E : Exit → X → Prop) : (Zcs Tryz.prog (hkF [(32, sSS)] [] []) Tryz.f24 0 [] [2, 3, 4, 5] [3, 4] (Zg8 h ss h' ss') (fun _ => Zg8 h ss h' ss') N E (stSM h ss h' ss' v i)) = (bif decide (i < @Nat.cast Int _ (List.length (List.map (sesL (0)) ss))) then bif decide (0 ≤ i) && decide (i < @Nat.cast Int _ (List.length (List.map (sesL (0)) ss))) then ∃ s, Zdy (List.map (sesL (0)) ss) (Int.toNat i) (0) s ∧ bif decide (0 ≤ i) && decide (i < @Nat.cast Int _ (List.length (List.map (sesL (0)) ss'))) then ∃ s_1, Zdy (List.map (sesL (0)) ss') (Int.toNat i) (0) s_1 ∧ bif ZaI s && ZaI s_1 then bif !ZkP s s_1 then stSM h ss h' ss' false i = stSM h ss h' ss' false i ∧ E Exit.ret (stSM h ss h' ss' false i) else stSM h ss h' ss' v (IntKind.wrap IntKind.i64 (i + 1)) = stSM h ss h' ss' v (IntKind.wrap IntKind.i64 (i + 1)) ∧ N (stSM h ss h' ss' v (IntKind.wrap IntKind.i64 (i + 1))) else False else False else False else stSM h ss h' ss' v i = stSM h ss h' ss' v i ∧ E (Exit.exit (0)) (stSM h ss h' ss' v i)) := by kernel_rfl
def sesN (ss : List SesD) (i : Nat) : SesD := ss.getD i default
def unl (ss ss' : List SesD) (i : Nat) : Bool := !ZkP (sesN ss i) (sesN ss' i)
def fSM (h : Mh) (ss : List SesD) (h' : Mh) (ss' : List SesD) : LSum := fun Q x => ss.length = ss'.length ∧ ZcZ [2, 3, 4, 5] [3, 4] (fun i => stSM h ss h' ss' false i) (fun i => stSM h ss h' ss' false i) ss.length (unl ss ss') .ret (.exit 0) Q x
theorem eSM (h : Mh) (ss : List SesD) (h' : Mh) (ss' : List SesD) (K : DV → Prop) : (askW Tryz.prog (hkFL [(41, sSA), (59, ZcJ)] [] [] [(4, fSM h ss h' ss')]) Tryz.f24 [.agg (macL 0 h ss), .agg (macL 0 h' ss')] K) = (bif okA h.w0 h.w1 h.w2 h.w3 && okA h'.w0 h'.w1 h'.w2 h'.w3 then bif !ZjS h.w0 h.w1 h.w2 h.w3 h'.w0 h'.w1 h'.w2 h'.w3 then K (B false) else bif !eqI [h.c0, h.c1, h.c2, h.c3] [h'.c0, h'.c1, h'.c2, h'.c3] then K (B false) else bif h.ce != h'.ce then K (B false) else bif @Nat.cast Int _ (List.length (List.map (sesL (0)) ss)) != @Nat.cast Int _ (List.length (List.map (sesL (0)) ss')) then K (B false) else bif okZ (4) h.tr && okZ (4) h'.tr then bif !decide (toZ h.tr = toZ h'.tr) then K (B false) else List.length ss = List.length ss' ∧ stSM h ss h' ss' false (0) = stSM h ss h' ss' false (0) ∧ (∀ (i : Nat), firstAt (unl ss ss') (List.length ss) i → K (B false)) ∧ (noneTo (unl ss ss') (List.length ss) → K (B true)) else False else False) := by kernel_rfl
theorem Zku {ss : List SesD} {i t : Nat} (h : i < ss.length) : Zdy (List.map (sesL t) ss) i t (sesN ss i) := Zi5 (by unfold sesN; rw [List.getD_eq_getElem?_getD, List.getElem?_eq_getElem h]; rfl)
theorem ZcV {ss : List SesD} {i : Nat} (h : i < ss.length) : sesN ss i ∈ ss := by
  unfold sesN
  rw [List.getD_eq_getElem?_getD, List.getElem?_eq_getElem h]
  exact List.getElem_mem h
theorem kSM {h : Mh} {ss : List SesD} {h' : Mh} {ss' : List SesD} (hs : okSS ss = true) (hs' : okSS ss' = true) (hn : ss.length ≤ 9223372036854775806) (Q : Exit → X → Prop) (x : X) (hq : fSM h ss h' ss' Q x) : XWP Tryz.prog (.loop (Zan Tryz.f24 0)) Q x := by
  obtain ⟨hl, hq⟩ := hq
  have q1 := List.all_eq_true.1 hs
  have q2 := List.all_eq_true.1 hs'
  refine Zb5 (sw := []) (V := Zg8 h ss h' ss') (VE := fun _ => Zg8 h ss h' ss') mixed (Zip h ss h' ss') (fun _ => Zip h ss h' ss') _ _ _ _ _ _ (fun i hi => ⟨hkF [(32, sSS)] [] [], Zjq (.cons oSS .nil) .nil .nil, Zag rfl, fun N E h1 h2 => ?_⟩) ⟨hkF [(32, sSS)] [] [], Zjq (.cons oSS .nil) .nil .nil, Zag rfl, fun N E h1 => ?_⟩ Q x hq
  · rw [rSM]
    have wi : IntKind.wrap IntKind.i64 ((i : Int) + 1) = ((i + 1 : Nat) : Int) := Zak (n := 1) (by omega)
    have hi' : i < ss'.length := by omega
    simp only [List.length_map, Int.ofNat_lt, hi, hi', decide_true, cond_true, Int.natCast_nonneg, Bool.and_self, Int.toNat_natCast, wi]
    refine ⟨sesN ss i, Zku hi, sesN ss' i, Zku hi', ?_⟩
    rw [q1 _ (ZcV hi), q2 _ (ZcV hi')]
    unfold unl at h1 h2
    generalize ZkP (sesN ss i) (sesN ss' i) = u at h1 h2 ⊢
    cases u
    · exact ⟨trivial, h1 rfl⟩
    · exact ⟨trivial, h2 rfl⟩
  · rw [rSM]
    simp only [List.length_map, Int.ofNat_lt, Nat.lt_irrefl, decide_false, cond_false, true_and]
    exact h1
def Zow (h : Mh) (ss : List SesD) (h' : Mh) (ss' : List SesD) : Bool := ZjS h.w0 h.w1 h.w2 h.w3 h'.w0 h'.w1 h'.w2 h'.w3 && (eqI [h.c0, h.c1, h.c2, h.c3] [h'.c0, h'.c1, h'.c2, h'.c3] && (h.ce == h'.ce && (decide (ss.length = ss'.length) && (decide (toZ h.tr = toZ h'.tr) && !(List.range ss.length).any (unl ss ss')))))
theorem ZpY {ss ss' : List SesD} (hl : ss.length = ss'.length) (h : ∀ i, i < ss.length → sesN ss i = sesN ss' i) : ss = ss' := by
  apply List.ext_getElem hl
  intro i h1 h2
  have := h i h1
  unfold sesN at this
  rwa [List.getD_eq_getElem?_getD, List.getD_eq_getElem?_getD, List.getElem?_eq_getElem h1, List.getElem?_eq_getElem h2] at this
theorem Zpi {h : Mh} {ss : List SesD} {h' : Mh} {ss' : List SesD} (ho : okM h ss = true) (ho' : okM h' ss' = true) : Zow h ss h' ss' = true ↔ h = h' ∧ ss = ss' := by
  obtain ⟨a1, a2, a3⟩ := ZbK ho
  obtain ⟨b1, b2, b3⟩ := ZbK ho'
  have q1 := List.all_eq_true.1 a3
  have q2 := List.all_eq_true.1 b3
  unfold Zow
  simp only [Bool.and_eq_true, ZpK a1 b1, eqI4, beq_iff_eq, decide_eq_true_eq, Bool.not_eq_true', List.any_eq_false, List.mem_range]
  constructor
  · rintro ⟨⟨e0, e1, e2, e3⟩, ⟨e4, e5, e6, e7⟩, e8, e9, e10, e11⟩
    have e10 := Zdd a2 b2 e10
    refine ⟨?_, ZpY e9 fun i hi => ?_⟩
    · cases h; cases h'
      simp only at *
      subst e0 e1 e2 e3 e4 e5 e6 e7 e8 e10
      rfl
    · have := e11 i hi
      unfold unl at this
      simp only [Bool.not_eq_true, Bool.not_eq_false'] at this
      exact (Zlg (q1 _ (ZcV hi)) (q2 _ (ZcV (by omega)))).1 (by simpa using this)
  · rintro ⟨rfl, rfl⟩
    refine ⟨⟨rfl, rfl, rfl, rfl⟩, ⟨rfl, rfl, rfl, rfl⟩, rfl, rfl, rfl, fun i hi => ?_⟩
    unfold unl
    rw [(Zlg (q1 _ (ZcV hi)) (q1 _ (ZcV hi))).2 rfl]; simp
theorem cSM (h : Mh) (ss : List SesD) (h' : Mh) (ss' : List SesD) (ho : okM h ss = true) (ho' : okM h' ss' = true) (hn : ss.length ≤ 9223372036854775806) : CT Tryz.prog 24 [.agg (macL 0 h ss), .agg (macL 0 h' ss')] (B (Zow h ss h' ss')) := by
  obtain ⟨a1, a2, a3⟩ := ZbK ho
  obtain ⟨b1, b2, b3⟩ := ZbK ho'
  refine ZtE (m := [(4, fSM h ss h' ss')]) (.cons oSA (.cons ZfX .nil)) .nil .nil mixed (Zm5 (i := 0) (fun j hj _ => by have : j < 1 := hj; omega) (kSM a3 b3 hn)) Tryz.func24 rfl rfl rfl ?_
  rw [eSM]
  refine ⟨?_⟩
  unfold Zow
  simp only [a1, a2, b1, b2, Bool.and_self, cond_true, List.length_map]
  cases ZjS h.w0 h.w1 h.w2 h.w3 h'.w0 h'.w1 h'.w2 h'.w3
  · exact AL.refl _
  · cases eqI [h.c0, h.c1, h.c2, h.c3] [h'.c0, h'.c1, h'.c2, h'.c3]
    · exact AL.refl _
    · cases hc : h.ce == h'.ce
      · have : (h.ce != h'.ce) = true := by unfold bne; rw [hc]; rfl
        rw [this]; exact AL.refl _
      · have : (h.ce != h'.ce) = false := by unfold bne; rw [hc]; rfl
        rw [this]
        by_cases hl : ss.length = ss'.length
        · have : (@Nat.cast Int _ (List.length ss) != @Nat.cast Int _ (List.length ss')) = false := by rw [hl]; simp
          rw [this, decide_eq_true hl]
          cases decide (toZ h.tr = toZ h'.tr)
          · exact AL.refl _
          · refine ⟨hl, trivial, fun i hi => ?_, fun hn => ?_⟩
            · rw [hi.b]; exact AL.refl _
            · rw [hn.b]; exact AL.refl _
        · have : (@Nat.cast Int _ (List.length ss) != @Nat.cast Int _ (List.length ss')) = true := by simp; omega
          rw [this, decide_eq_false hl]; exact AL.refl _
def sSM : Spec := fun ds Q => match ds with
  | [d, e] => macA d fun h ss => macA e fun h' ss' => cond (okM h ss && (okM h' ss' && Nat.ble ss.length 4)) (Q (B (Zow h ss h' ss'))) False
  | _ => False
theorem oSM : Zac Tryz.prog 24 sSM := o_al Tryz.func24 (by kernel_rfl) rfl fun ds Q hq => by
  unfold sSM at hq; split at hq
  · obtain ⟨h, ss, hq, r1⟩ := ZbA hq
    obtain ⟨h', ss', hq, r2⟩ := ZbA hq
    obtain ⟨h1, h2⟩ := Zae hq
    simp only [Bool.and_eq_true] at h1
    exact ⟨_, _, .cons r1 (.cons r2 .nil), cSM h ss h' ss' h1.1 h1.2.1 (by have := Nat.le_of_ble_eq_true h1.2.2; omega), rfl, rfl, h2⟩
  · exact hq.elim
end

section
open Go Go.Proofs
def iNew : Inl := inlM Tryz.prog [(48, Zmh), (49, ZgW), (26, ZpV)] [] [] Tryz.f20
theorem Zq2 : Zbf Tryz.prog 20 iNew := Zba (.cons Zti (.cons Zsy (.cons Ztc .nil))) .nil .nil mixed Tryz.func20 rfl (Zat Tryz.func20 (by kernel_rfl) rfl)
def iTel : Inl := Zmm Tryz.prog [34, 3, 3, 3] (sF sTel)
theorem ZrL : Zbf Tryz.prog 22 iTel := Zd4 (oF oTel)
def Zs2 (k : Int) (h : Mh) (s : SesD) : Inl := Zmm Tryz.prog [3, 3] (sF (sAtD [I 0, I k] (.agg (macL 1 h [s, bB]))))
theorem Zj8 : Zbf Tryz.prog 31 (Zs2 2 bH2 bA2) := Zd4 (oF (oAtD (Zat Tryz.func31 (by kernel_rfl) rfl) Zps rfl rfl))
theorem Zth (K : DV → Prop) : (askH Tryz.prog (hkM [(26, ZpV), (24, sSM), (59, ZcJ), (25, sI)] [] [(78, iBeg), (22, iTel), (20, iNew), (31, Zs2 2 bH2 bA2)]) Tryz.f30 [] K) = (([] : List DV) = [] ∧ ([] : List DV) = [] ∧ ([] : List DV) = [] ∧ [I (0), I (2)] = [I (0), I (2)] ∧ K (B true)) := by kernel_rfl
theorem Zup : CT Tryz.prog 30 [] (B true) := by
  refine ct_m (.cons Ztc (.cons oSM (.cons ZfX (.cons oNum .nil)))) .nil (.cons ZiS (.cons ZrL (.cons Zq2 (.cons Zj8 .nil)))) mixed Tryz.func30 rfl rfl rfl ?_
  rw [Zth]
  exact ⟨by repeat (first | exact rfl | refine ⟨rfl, ?_⟩)⟩
theorem Zpc : Zac Tryz.prog 30 (sAtD [] (B true)) := oAtD (Zat Tryz.func30 (by kernel_rfl) rfl) Zup rfl rfl
theorem umod {w : Int} {n : Int} (hn : 0 < n) : 0 ≤ Int.tmod (IntKind.wrap IntKind.u64 w) n ∧ Int.tmod (IntKind.wrap IntKind.u64 w) n < n := by
  have hu : 0 ≤ IntKind.wrap .u64 w := by
    simp [IntKind.wrap, IntKind.signed, IntKind.bits]; omega
  exact ⟨Int.tmod_nonneg _ hu, Int.tmod_lt_of_pos _ hn⟩
end

section
open Go Go.Proofs
theorem Zq5 {n : Nat} (h : n ≤ 9223372036854775807) : okZ 4 (List.replicate n [vN 0, vN 0, vN 0, vN 0]) = true := by
  have e : List.replicate n [vN 0, vN 0, vN 0, vN 0] = mZ (List.replicate n [0, 0, 0, 0]) := by simp [mZ]
  rw [e]
  exact Zns (fun r hr => by rw [List.eq_of_mem_replicate hr]; rfl) (by simpa using h)
end

section
open Go Go.Proofs
theorem Zqb {h h' : Mh} {ss : List SesD} (hm : smM h ss = true) (e0 : h'.w0 = h.w0) (e1 : h'.w1 = h.w1) (e2 : h'.w2 = h.w2) (e3 : h'.w3 = h.w3) (ht : smR 4398046510977 h'.tr = true) : smM h' ss = true := by
  unfold smM at hm ⊢
  rw [e0, e1, e2, e3, ht]
  simp only [Bool.and_eq_true] at hm ⊢
  exact ⟨hm.1, trivial, hm.2.2⟩
end

section
open Go Go.Proofs
theorem ZpL {h : Mh} (ht : smR 4398046510977 h.tr = true) (hl : h.tr.length ≤ 512) (a b k v : Int) : smR 4398046510977 (Zp2 h a b k v).tr = true := by
  unfold Zp2
  cases decide ((h.tr.length : Int) < 512)
  · exact ht
  · unfold smR
    show (allV (h.tr ++ [[vN a, vN b, vN k, vN v]]) && decide ((h.tr ++ [[vN a, vN b, vN k, vN v]]).length ≤ 4398046510977)) = true
    rw [Zk1 (Zab ht).1 rfl, List.length_append, decide_eq_true (by simp; omega)]; rfl
end

section
open Go Go.Proofs
theorem OD.frz {w : World} {G : Nat → Prop} {v : Value} {S G' S' : Nat → Prop} {d e : D} (h : RD d e) (he : e.isOwn = false) (hg : ∀ b, G b → G' b) (hs : ∀ b, S b → G' b) (hv : OD w G v d S) : OD w G' v e S' := by
  refine .r _ _ _ (fun z rows sp q => ?_) (h _ _ _ (hv.read hg hs))
  subst q; cases he
theorem ZtL {d e : D} (h : RD d e) (he : e.isOwn = false) : Frz (.c d) (.c e) := fun w G v S hv => by
  cases hv with
  | c _ _ _ hx => exact .c _ _ _ (hx.frz h he (fun _ => .inl) (fun _ => .inr))
theorem Zon {cs cs' : List D} (h : All2 RD cs cs') (he : cs'.all (fun d => !d.isOwn) = true) : Frz (.agg cs) (.agg cs') := fun w G v S hv => by
  cases hv with
  | agg vs _ _ sub h1 h2 h3 h4 =>
    refine .agg vs cs' _ (fun _ _ => False) (by rw [← h.len]; exact h1) (fun i e hi => ?_) (fun _ _ q => q) (fun _ _ _ q => q.elim)
    obtain ⟨d, g1, g2⟩ := h.get hi
    have a2 := List.all_eq_true.1 he e (List.mem_of_getElem? hi)
    exact (h2 i d g1).frz g2 (by simpa using a2) (fun _ => .inl) (fun b hb => .inr (h3 i b hb))
theorem Zrm {xs ys : List DV} (h : All2 Frz xs ys) : Frz (.tup xs) (.tup ys) := fun w G v S hv => by
  cases hv with
  | tup vs _ _ sub h1 h2 h3 h4 =>
    refine .tup vs ys _ (fun _ _ => False) (by rw [← h.len]; exact h1) (fun i e hi => ?_) (fun _ _ q => q) (fun _ _ _ q => q.elim)
    obtain ⟨d, g1, g2⟩ := h.get hi
    exact (g2 _ _ _ _ (h2 i d g1)).mono (fun b hb => hb.elim .inl fun q => .inr (h3 i b q)) (.refl _ _) (.refl _ _)
theorem ZrY {t t' : Nat} (s : SesD) : All2 RD (sesL t s) (sesL t' s) :=
  .cons (.refl _) (.cons (.refl _) (.cons (.refl _) (.cons .slice (.cons (.refl _) (.cons (.refl _) (.cons (.refl _) (.cons (.refl _) (.cons (.refl _) (.cons (.refl _) (.cons .slice (.cons .slice (.cons (.refl _) (.cons (.refl _) (.cons (.refl _) (.cons (.refl _) (.cons (.refl _) .nil))))))))))))))))
theorem Zn0 {t t' : Nat} : ∀ ss : List SesD, All2 (All2 RD) (ss.map (sesL t)) (ss.map (sesL t'))
  | [] => .nil
  | s :: ss => .cons (ZrY s) (Zn0 ss)
theorem Zqa {t t' : Nat} (h : Mh) (ss : List SesD) : All2 RD (macL t h ss) (macL t' h ss) :=
  .cons .slice (.cons .slice (.cons .slice (.cons .slice (.cons (.refl _) (.cons (.refl _) (.cons (.refl _) (.cons (.refl _) (.cons (.refl _) (.cons (.rows (Zn0 ss)) (.cons .slice .nil))))))))))
def macZ (h : Mh) (ss : List SesD) (e : Int) : DV := .tup [.agg (macL 0 h ss), I e]
theorem Zfh (h : Mh) (ss : List SesD) (e : Int) : Frz (macR h ss e) (macZ h ss e) := Zrm (.cons (Zon (Zqa h ss) rfl) (.cons (ZtL (.refl _) rfl) .nil))
def Zgv (ds es : List DV) : Prop := All2 AL ds es
def sAtL (es : List DV) (r : DV) : Spec := fun ds Q => Zgv ds es ∧ Q r
theorem oAtL {f : FuncId} {fn : Func} {es : List DV} {r : DV} (hf : Tryz.prog.funcs[f]? = some fn) (hn : (fn.name == "runtime.NumGoroutine") = false) (hb : fn.body.isNone = false) (hc : CT Tryz.prog f es r) (hp : r.pureOwn = true) (hfit : r.fit32 = true) : Zac Tryz.prog f (sAtL es r) :=
  o_al hf hn hb fun ds Q hq => ⟨_, _, hq.1, hc, hp, hfit, hq.2⟩
theorem Zuc : Goes Tryz.prog 19 := Zat Tryz.func19 (by kernel_rfl) rfl
end

section
open Go Go.Proofs
def kSes : List KT := [.int, .int, .int, .sl (List.replicate 4 .int) 32, .int, .int, .int, .int, .int, .int, .sl (List.replicate 3 .int) 24, .sl (List.replicate 3 .int) 24, .int, .int, .int, .int, .int]
def kMac : List KT := [.sl (List.replicate 3 .int) 24, .sl (List.replicate 3 .int) 24, .sl (List.replicate 3 .int) 24, .sl (List.replicate 3 .int) 24, .int, .int, .int, .int, .int, .sl kSes 184, .sl (List.replicate 4 .int) 32]
theorem GoodL.i {cs : List KT} {ds : List D} (h : GoodL (.int :: cs) ds) : ∃ n ds', ds = vN n :: ds' ∧ GoodL cs ds' := by
  obtain ⟨d, ds', rfl, h1, h2⟩ := h.cons_inv
  obtain ⟨n, rfl, _⟩ := h1.int_inv
  exact ⟨n, ds', rfl, h2⟩
end

section
open Go Go.Proofs
theorem GoodL.rb {z b : Nat} {cs : List KT} {ds : List D} (h : GoodL (.sl (List.replicate z .int) b :: cs) ds) : ∃ R ds', ds = .s 0 z R [] :: ds' ∧ okZ z R = true ∧ R.length * b ≤ 140737488351232 ∧ GoodL cs ds' := by
  obtain ⟨d, ds', rfl, h1, h2⟩ := h.cons_inv
  obtain ⟨R, rfl, h3, h4⟩ := h1.rows
  exact ⟨R, ds', rfl, h3, h4, h2⟩
theorem Zus {r : List D} (h : GoodL kSes r) : ∃ s, r = sesL 0 s ∧ ZaI s = true ∧ smS s = true := by
  unfold kSes at h
  obtain ⟨x0, r0, rfl, g0⟩ := h.i
  obtain ⟨x1, r1, rfl, g1⟩ := g0.i
  obtain ⟨x2, r2, rfl, g2⟩ := g1.i
  obtain ⟨x3, r3, rfl, o3, bo3, g3⟩ := g2.rb
  obtain ⟨x4, r4, rfl, g4⟩ := g3.i
  obtain ⟨x5, r5, rfl, g5⟩ := g4.i
  obtain ⟨x6, r6, rfl, g6⟩ := g5.i
  obtain ⟨x7, r7, rfl, g7⟩ := g6.i
  obtain ⟨x8, r8, rfl, g8⟩ := g7.i
  obtain ⟨x9, r9, rfl, g9⟩ := g8.i
  obtain ⟨x10, r10, rfl, o10, bo10, g10⟩ := g9.rb
  obtain ⟨x11, r11, rfl, o11, bo11, g11⟩ := g10.rb
  obtain ⟨x12, r12, rfl, g12⟩ := g11.i
  obtain ⟨x13, r13, rfl, g13⟩ := g12.i
  obtain ⟨x14, r14, rfl, g14⟩ := g13.i
  obtain ⟨x15, r15, rfl, g15⟩ := g14.i
  obtain ⟨x16, r16, rfl, g16⟩ := g15.i
  obtain rfl := g16.nil_inv
  refine ⟨⟨x0, x1, x2, x3, x4, x5, x6, x7, x8, x9, x10, x11, x12, x13, x14, x15, x16⟩, rfl, ?_, ?_⟩
  · show (okZ 4 x3 && (okZ 3 x10 && okZ 3 x11)) = true
    rw [o3, o10, o11]; rfl
  · show (smR 4398046510977 x3 && (smR 5864062014635 x10 && smR 5864062014635 x11)) = true
    rw [Zcl o3 (Nat.le_refl _) (by omega), Zcl o10 (Nat.le_refl _) (by omega), Zcl o11 (Nat.le_refl _) (by omega)]; rfl
theorem Zp5 : ∀ rows : List (List D), (∀ r ∈ rows, GoodL kSes r) → ∃ ss : List SesD, rows = ss.map (sesL 0) ∧ okSS ss = true ∧ ss.all smS = true
  | [], _ => ⟨[], rfl, rfl, rfl⟩
  | r :: rows, h => by
    obtain ⟨s, rfl, hs, ks⟩ := Zus (h r (by simp))
    obtain ⟨ss, rfl, hss, kss⟩ := Zp5 rows fun r hr => h r (by simp [hr])
    refine ⟨s :: ss, rfl, ?_, by rw [List.all_cons, ks, kss]; rfl⟩
    unfold okSS at hss ⊢
    rw [List.all_cons, hs, hss]; rfl
theorem Zt4 {r : List D} (h : GoodL kMac r) : ∃ m ss, r = macL 0 m ss ∧ okM m ss = true ∧ smM m ss = true ∧ ss.length * 184 ≤ 140737488351232 := by
  unfold kMac at h
  obtain ⟨x0, r0, rfl, o0, bo0, g0⟩ := h.rb
  obtain ⟨x1, r1, rfl, o1, bo1, g1⟩ := g0.rb
  obtain ⟨x2, r2, rfl, o2, bo2, g2⟩ := g1.rb
  obtain ⟨x3, r3, rfl, o3, bo3, g3⟩ := g2.rb
  obtain ⟨x4, r4, rfl, g4⟩ := g3.i
  obtain ⟨x5, r5, rfl, g5⟩ := g4.i
  obtain ⟨x6, r6, rfl, g6⟩ := g5.i
  obtain ⟨x7, r7, rfl, g7⟩ := g6.i
  obtain ⟨x8, r8, rfl, g8⟩ := g7.i
  obtain ⟨d, r9, rfl, h9, g9⟩ := g8.cons_inv
  obtain ⟨rows, rfl, hb, _, hr⟩ := h9.sl_inv
  obtain ⟨ss, rfl, hss, kss⟩ := Zp5 rows hr
  obtain ⟨x10, r10, rfl, o10, bo10, g10⟩ := g9.rb
  obtain rfl := g10.nil_inv
  refine ⟨{ w0 := x0, w1 := x1, w2 := x2, w3 := x3, c0 := x4, c1 := x5, c2 := x6, c3 := x7, ce := x8, tr := x10 }, ss, rfl, ?_, ?_, by rwa [List.length_map] at hb⟩
  · unfold okM okA
    show (okZ 3 x0 && (okZ 3 x1 && (okZ 3 x2 && okZ 3 x3)) && (okZ 4 x10 && okSS ss)) = true
    rw [o0, o1, o2, o3, o10, hss]; rfl
  · have c : ∀ {R : List (List D)}, okZ 3 R = true → R.length * 24 ≤ 140737488351232 → okC R = true := fun {R} h1 h2 => by
      have := Zcl (n := 5864062014635) h1 (Nat.le_refl _) (by omega)
      unfold smR at this
      unfold okC
      simpa using this
    show (okC x0 && (okC x1 && (okC x2 && okC x3)) && (smR 4398046510977 x10 && ss.all smS)) = true
    rw [Zcl o10 (Nat.le_refl _) (by omega), kss, c o0 bo0, c o1 bo1, c o2 bo2, c o3 bo3]; rfl
end

section
open Go Go.Proofs
def ZoR (h : Mh) (ss : List SesD) (i : Int) (W0 W1 W2 W3 : List (List D)) : X := ⟨mkT 35 [(1, .c (.rp 2 0 11 0 0)), (2, .c (.rp 3 0 11 0 0)), (3, .c (.rp 4 0 11 0 0)), (4, ai i)], [(2, .bx 0 11 ((macL 0 h ss).map C.d)), (3, .bx 0 11 (mac0.map C.d)), (4, .bx 0 11 [.rs 9000 0 3 0 h.w0.length h.w0.length, .rs 9001 0 3 0 h.w1.length h.w1.length, .rs 9002 0 3 0 h.w2.length h.w2.length, .rs 9003 0 3 0 h.w3.length h.w3.length, ci h.c0, ci h.c1, ci h.c2, ci h.c3, ci h.ce, .d nilV, .d (.s 0 4 h.tr [])]), (9000, .sl 0 3 W0), (9001, .sl 0 3 W1), (9002, .sl 0 3 W2), (9003, .sl 0 3 W3)], [], []⟩
abbrev stC0 (h : Mh) (ss : List SesD) (i : Int) : X := ZoR h ss i h.w0 h.w1 h.w2 h.w3
def stC (h : Mh) (ss : List SesD) (i : Int) (n m : Nat) (R : List (List D)) : X := ⟨mkT 35 [(1, .c (.rp 2 0 11 0 0)), (2, .c (.rp 3 0 11 0 0)), (3, .c (.rp 4 0 11 0 0)), (4, ai i)], [(2, .bx 0 11 ((macL 0 h ss).map C.d)), (3, .bx 0 11 (mac0.map C.d)), (4, .bx 0 11 [.rs 9000 0 3 0 h.w0.length h.w0.length, .rs 9001 0 3 0 h.w1.length h.w1.length, .rs 9002 0 3 0 h.w2.length h.w2.length, .rs 9003 0 3 0 h.w3.length h.w3.length, ci h.c0, ci h.c1, ci h.c2, ci h.c3, ci h.ce, .rs 28 0 17 0 n m, .d (.s 0 4 h.tr [])]), (9000, .sl 0 3 h.w0), (9001, .sl 0 3 h.w1), (9002, .sl 0 3 h.w2), (9003, .sl 0 3 h.w3), (28, .sl 0 17 R)], [], []⟩
def wCn : Nat → List C → (C → Prop) → Prop
  | 0, r, K => wC r fun c _ => K c
  | n + 1, r, K => wC r fun _ r => wCn n r K
theorem Zqn : ∀ {n : Nat} {r : List C} {K : C → Prop}, wCn n r K → ∃ c, K c
  | 0, r, K, h => by obtain ⟨c, _, h⟩ := ZsY h; exact ⟨c, h⟩
  | n + 1, r, K, h => by obtain ⟨_, r, h⟩ := ZsY h; exact Zqn h
def Zix (h : Mh) (ss : List SesD) : Vw := fun y K => wI y 4 fun i => wR y 4 fun r => wCn 9 r fun c => cS c fun n m => wL y 28 fun R => K (stC h ss i n m R)
theorem ZlH (h : Mh) (ss : List SesD) : VwOK (Zix h ss) := fun y K q => by
  unfold Zix at q
  obtain ⟨i, q⟩ := Zcp q
  obtain ⟨r, q⟩ := ZtH q
  obtain ⟨c, q⟩ := Zqn q
  obtain ⟨n, m, q⟩ := Zuf q
  obtain ⟨R, q⟩ := Zof q
  exact ⟨_, q⟩
theorem rC0 (h : Mh) (ss : List SesD) (N : X → Prop) (E : Exit → X → Prop) : (Zcs Tryz.prog (hkC [(47, Zcq)] [] [] []) Tryz.f19 0 [] [1, 2, 3, 4] [2, 3, 4, 9000, 9001, 9002, 9003, 28] (Zix h ss) (fun _ => Zix h ss) N E (stC0 h ss 0)) = (bif decide (0 < @Nat.cast Int _ (List.length (List.map (sesL (0)) ss))) then bif true && decide (0 < @Nat.cast Int _ (List.length (List.map (sesL (0)) ss))) then ∃ s, Zdy (List.map (sesL (0)) ss) (0) (0) s ∧ bif smS s then foAt (0) (0) (1) ∧ whole (List.length s.pg) (s.pg ++ []) ∧ foAt (0) (0) (1) ∧ whole (List.length s.rd) (s.rd ++ []) ∧ foAt (0) (0) (1) ∧ whole (List.length s.wt) (s.wt ++ []) ∧ stC h ss (1) (1) (1) [(sesL (1) { s with pg := (s.pg ++ []), rd := (s.rd ++ []), wt := (s.wt ++ []) })] = stC h ss (1) (1) (1) [(sesL (1) { s with pg := (s.pg ++ []), rd := (s.rd ++ []), wt := (s.wt ++ []) })] ∧ N (stC h ss (1) (1) (1) [(sesL (1) { s with pg := (s.pg ++ []), rd := (s.rd ++ []), wt := (s.wt ++ []) })]) else False else False else False) := by kernel_rfl
theorem rC1 (h : Mh) (ss : List SesD) (i : Int) (n m : Nat) (R : List (List D)) (N : X → Prop) (E : Exit → X → Prop) : (Zcs Tryz.prog (hkC [(47, Zcq)] [] [] []) Tryz.f19 0 [] [1, 2, 3, 4] [2, 3, 4, 9000, 9001, 9002, 9003, 28] (Zix h ss) (fun _ => Zix h ss) N E (stC h ss i n m R)) = (bif decide (i < @Nat.cast Int _ (List.length (List.map (sesL (0)) ss))) then bif decide (0 ≤ i) && decide (i < @Nat.cast Int _ (List.length (List.map (sesL (0)) ss))) then ∃ s, Zdy (List.map (sesL (0)) ss) (Int.toNat i) (0) s ∧ bif smS s then n = List.length R ∧ bif decide ((n + 1) * 184 ≤ 140737488355328) && decide (n + 1 ≤ 9223372036854775807) then foAt n n (List.length (R ++ [[]])) ∧ whole (List.length s.pg) (s.pg ++ []) ∧ foAt n n (List.length (R ++ [[]])) ∧ whole (List.length s.rd) (s.rd ++ []) ∧ foAt n n (List.length (R ++ [[]])) ∧ whole (List.length s.wt) (s.wt ++ []) ∧ stC h ss (IntKind.wrap IntKind.i64 (i + 1)) (n + 1) (n + 1) (List.set (R ++ [[]]) n (sesL (1) { s with pg := (s.pg ++ []), rd := (s.rd ++ []), wt := (s.wt ++ []) })) = stC h ss (IntKind.wrap IntKind.i64 (i + 1)) (n + 1) (n + 1) (List.set (R ++ [[]]) n (sesL (1) { s with pg := (s.pg ++ []), rd := (s.rd ++ []), wt := (s.wt ++ []) })) ∧ N (stC h ss (IntKind.wrap IntKind.i64 (i + 1)) (n + 1) (n + 1) (List.set (R ++ [[]]) n (sesL (1) { s with pg := (s.pg ++ []), rd := (s.rd ++ []), wt := (s.wt ++ []) }))) else False else False else False else stC h ss i n m R = stC h ss i n m R ∧ E (Exit.exit (0)) (stC h ss i n m R)) := by kernel_rfl
def stCi (h : Mh) (ss : List SesD) (i : Nat) : X := match i with | 0 => stC0 h ss 0 | k + 1 => stC h ss ((k + 1 : Nat) : Int) (k + 1) (k + 1) ((ss.take (k + 1)).map (sesL 1))
def fC (h : Mh) (ss : List SesD) (n : Nat) (R : List (List D)) : LSum := fun Q x => wL x 9000 fun W0 => wL x 9001 fun W1 => wL x 9002 fun W2 => wL x 9003 fun W3 => W0 = h.w0 ∧ W1 = h.w1 ∧ W2 = h.w2 ∧ W3 = h.w3 ∧ x.arr [1, 2, 3, 4] [2, 3, 4, 9000, 9001, 9002, 9003, 28] = ZoR h ss 0 W0 W1 W2 W3 ∧ Q (.exit 0) (stC h ss (n : Nat) n n R)
theorem eC (h : Mh) (ss : List SesD) (n : Nat) (R : List (List D)) (K : DV → Prop) : (askW Tryz.prog (hkC [(46, ZbD), (47, Zcq)] [] [] [(5, fC h ss n R)]) Tryz.f19 [.agg (macL 0 h ss)] K) = (bif okC4 h.w0 h.w1 h.w2 h.w3 then h.w0 ++ [] = h.w0 ∧ h.w1 ++ [] = h.w1 ∧ h.w2 ++ [] = h.w2 ∧ h.w3 ++ [] = h.w3 ∧ ZoR h ss (0) (h.w0 ++ []) (h.w1 ++ []) (h.w2 ++ []) (h.w3 ++ []) = ZoR h ss (0) (h.w0 ++ []) (h.w1 ++ []) (h.w2 ++ []) (h.w3 ++ []) ∧ bif allV h.tr then bif true && (decide ((0 + List.length h.tr) * 32 ≤ 140737488355328) && decide (0 + List.length h.tr ≤ 9223372036854775807)) then whole (List.length h.w0) h.w0 ∧ whole (List.length h.w1) h.w1 ∧ whole (List.length h.w2) h.w2 ∧ whole (List.length h.w3) h.w3 ∧ whole n R ∧ whole (0 + List.length h.tr) ([] ++ h.tr) ∧ K (DV.agg (Ze4 (1) { h with tr := ([] ++ h.tr) } R)) else False else False else False) := by kernel_rfl
theorem Zc3 {n : Nat} {R : List (List D)} (h : smR n R = true) : allK R = true := by
  obtain ⟨_, _, h⟩ := Zab h
  exact h
theorem Zcz {i j n : Nat} : foAt i j n ↔ i = j ∧ j < n := by simp [foAt]
theorem kCpM {h : Mh} {ss : List SesD} (h0 : ss ≠ []) (hs : ss.all smS = true) (hb : ss.length * 184 ≤ 140737488351232) (Q : Exit → X → Prop) (x : X) (hq : fC h ss ss.length (ss.map (sesL 1)) Q x) : XWP Tryz.prog (.loop (Zan Tryz.f19 0)) Q x := by
  unfold fC at hq
  obtain ⟨W0, hq⟩ := Zof hq
  obtain ⟨W1, hq⟩ := Zof hq
  obtain ⟨W2, hq⟩ := Zof hq
  obtain ⟨W3, rfl, rfl, rfl, rfl, hx, hq⟩ := Zof hq
  have q1 := List.all_eq_true.1 hs
  have hp : 0 < ss.length := List.length_pos_iff.2 h0
  have eN : stCi h ss ss.length = stC h ss ((ss.length : Nat) : Int) ss.length ss.length (ss.map (sesL 1)) := by
    cases hn : ss.length with
    | zero => omega
    | succ k =>
      show stC h ss ((k + 1 : Nat) : Int) (k + 1) (k + 1) (List.map (sesL 1) (List.take (k + 1) ss)) = _
      rw [List.take_of_length_le (by omega)]
  have hH : Zav Tryz.prog (hkC [(47, Zcq)] [] [] []) := Zqf (.cons Zq9 .nil) .nil .nil
  refine Zb5 (sw := []) (V := Zix h ss) (VE := fun _ => Zix h ss) mixed (ZlH h ss) (fun _ => ZlH h ss) (stCi h ss) (stCi h ss) ss.length (fun _ => false) .ret (.exit 0) (fun i hi => ⟨_, hH, Zag rfl, fun N E _ q2 => ?_⟩) ⟨_, hH, Zag rfl, fun N E q2 => ?_⟩ Q x ⟨hx, fun i hf => by have := hf.2.1; simp at this, fun _ => by rw [eN]; exact hq⟩
  · have q2 := q2 rfl
    have hat : Zdy (List.map (sesL 0) ss) i 0 (sesN ss i) := Zku hi
    have hsm : smS (sesN ss i) = true := q1 _ (ZcV hi)
    obtain ⟨m1, m2, m3⟩ := ZaD hsm
    have w1 := ZaQ (Zc3 m1)
    have w2 := ZaQ (Zc3 m2)
    have w3 := ZaQ (Zc3 m3)
    have et : (ss.take (i + 1)).map (sesL 1) = (ss.take i).map (sesL 1) ++ [sesL 1 (sesN ss i)] := by
      rw [List.take_add_one, List.map_append]
      congr 1
      unfold sesN
      rw [List.getD_eq_getElem?_getD, List.getElem?_eq_getElem hi]
      rfl
    cases i with
    | zero =>
      show Zcs Tryz.prog _ _ _ _ _ _ _ _ _ _ (stC0 h ss 0)
      rw [rC0]
      have c0 : decide (0 < @Nat.cast Int _ (List.length (List.map (sesL 0) ss))) = true := by rw [List.length_map]; simp; omega
      simp only [c0, cond_true, Bool.and_self]
      refine ⟨_, hat, ?_⟩
      rw [hsm]
      simp only [cond_true, List.append_nil]
      refine ⟨Zcz.2 ⟨rfl, by decide⟩, w1, Zcz.2 ⟨rfl, by decide⟩, w2, Zcz.2 ⟨rfl, by decide⟩, w3, trivial, ?_⟩
      have q3 : N (stC h ss ((0 + 1 : Nat) : Int) (0 + 1) (0 + 1) ((ss.take (0 + 1)).map (sesL 1))) := q2
      rw [et] at q3
      exact q3
    | succ k =>
      show Zcs Tryz.prog _ _ _ _ _ _ _ _ _ _ (stC h ss ((k + 1 : Nat) : Int) (k + 1) (k + 1) ((ss.take (k + 1)).map (sesL 1)))
      rw [rC1]
      have wi : IntKind.wrap IntKind.i64 (((k + 1 : Nat) : Int) + 1) = ((k + 1 + 1 : Nat) : Int) := Zak (n := 1) (by omega)
      have c0 : decide (((k + 1 : Nat) : Int) < @Nat.cast Int _ (List.length (List.map (sesL 0) ss))) = true := by rw [List.length_map]; simp; omega
      have c1 : decide (0 ≤ ((k + 1 : Nat) : Int)) = true := by simp; omega
      have el : (List.map (sesL 1) (List.take (k + 1) ss)).length = k + 1 := by rw [List.length_map, List.length_take]; omega
      have c2 : (decide ((k + 1 + 1) * 184 ≤ 140737488355328) && decide (k + 1 + 1 ≤ 9223372036854775807)) = true := by simp; omega
      simp only [c0, c1, cond_true, Bool.and_self]
      refine ⟨_, hat, ?_⟩
      rw [hsm]
      simp only [cond_true, List.append_nil]
      refine ⟨el.symm, ?_⟩
      rw [c2]
      have hl : k + 1 < (List.map (sesL 1) (List.take (k + 1) ss) ++ [[]]).length := by rw [List.length_append, el]; simp
      refine ⟨Zcz.2 ⟨rfl, hl⟩, w1, Zcz.2 ⟨rfl, hl⟩, w2, Zcz.2 ⟨rfl, hl⟩, w3, trivial, ?_⟩
      have es : List.set (List.map (sesL 1) (List.take (k + 1) ss) ++ [[]]) (k + 1) (sesL 1 (sesN ss (k + 1))) = (ss.take (k + 1 + 1)).map (sesL 1) := by
        rw [et, List.set_append_right _ _ (by omega), el, Nat.sub_self]; rfl
      show N (stC h ss (IntKind.wrap IntKind.i64 (((k + 1 : Nat) : Int) + 1)) (k + 1 + 1) (k + 1 + 1) (List.set (List.map (sesL 1) (List.take (k + 1) ss) ++ [[]]) (k + 1) (sesL 1 (sesN ss (k + 1)))))
      rw [wi, es]
      exact q2
  · rw [eN] at q2 ⊢
    rw [rC1]
    have c0 : decide (((ss.length : Nat) : Int) < @Nat.cast Int _ (List.length (List.map (sesL 0) ss))) = false := by rw [List.length_map]; simp
    simp only [c0, cond_false, true_and]
    exact q2
theorem Zql (h : Mh) (ss : List SesD) (hm : smM h ss = true) (hb : ss.length * 184 ≤ 140737488351232) : CT Tryz.prog 19 [.agg (macL 0 h ss)] (.agg (macL 1 h ss)) := by
  cases h0 : ss with
  | nil =>
    subst h0
    have h4 := Zlc hm
    obtain ⟨⟨a0, a1, a2, a3⟩, a4, a5⟩ := Zcj hm
    obtain ⟨_, _, b0⟩ := Zab a0
    obtain ⟨_, _, b1⟩ := Zab a1
    obtain ⟨_, _, b2⟩ := Zab a2
    obtain ⟨_, _, b3⟩ := Zab a3
    obtain ⟨t1, t2, t3, t4⟩ := Ziq a4
    refine ZqX (.cons Zp8 (.cons Zq9 .nil)) .nil .nil mixed Tryz.func19 rfl rfl rfl ?_
    rw [Zs0]
    refine ⟨?_⟩
    simp only [kX, tC, tD]
    simp only [h4, b0, b1, b2, b3, t1, t2, t3, t4, Nat.zero_add, List.nil_append, List.append_nil, Nat.le_refl, decide_true, Bool.and_self, Bool.true_and, cond_true, Zby, Nat.add_zero, Nat.sub_self, List.take_zero]
    exact .aggO (.cons (.refl _) (.cons (.refl _) (.cons (.refl _) (.cons (.refl _) (.cons (.refl _) (.cons (.refl _) (.cons (.refl _) (.cons (.refl _) (.cons (.refl _) (.cons (.nil 17) (.cons (.refl _) .nil)))))))))))
  | cons s l =>
    rw [← h0]
    have hne : ss ≠ [] := by rw [h0]; exact fun e => by cases e
    have h4 := Zlc hm
    obtain ⟨⟨a0, a1, a2, a3⟩, a4, a5⟩ := Zcj hm
    have hs : ss.all smS = true := List.all_eq_true.2 a5
    obtain ⟨t1, t2, t3, t4⟩ := Ziq a4
    refine Zua (.cons Zp8 (.cons Zq9 .nil)) .nil .nil mixed (m := [(5, fC h ss ss.length (ss.map (sesL 1)))]) (Zm5 (i := 0) (fun j hj _ => by have : j < 1 := hj; omega) (kCpM hne hs hb)) Tryz.func19 rfl rfl rfl ?_
    rw [eC]
    refine ⟨?_⟩
    simp only [h4, t1, t2, t3, t4, List.append_nil, Nat.zero_add, List.nil_append, Nat.le_refl, decide_true, Bool.and_self, Bool.true_and, cond_true, true_and, Nat.add_zero]
    exact ⟨ZaQ (Zc3 a0), ZaQ (Zc3 a1), ZaQ (Zc3 a2), ZaQ (Zc3 a3), by have := ZaQ (Zk9 ss); rwa [List.length_map] at this, ZaQ (Zc3 a4), AL.refl _⟩
end

section
open Go Go.Proofs
def Zd0 (ds : List DV) : Prop := ∃ h ss, okM h ss = true ∧ ss.length ≤ 9223372036854775806 ∧ All2 AL ds [.agg (macL 0 h ss), .agg (macL 0 h ss)]
def Zpv : Spec := fun ds Q => Zd0 ds ∧ Q (B true)
theorem ZqU {R : List (List D)} {a b k v : Int} (h : okZ 4 R = true) (hl : R.length ≤ 512) : okZ 4 (R ++ [[vN a, vN b, vN k, vN v]]) = true := by
  unfold okZ at *
  rw [Bool.and_eq_true] at *
  refine ⟨?_, Nat.ble_eq_true_of_le (by simp; omega)⟩
  rw [List.all_append, h.1]; rfl
theorem Zo1 {h : Mh} (ht : okZ 4 h.tr = true) (hl : h.tr.length ≤ 512) (a b k v : Int) : okZ 4 (Zp2 h a b k v).tr = true := by
  show okZ 4 (bif decide ((h.tr.length : Int) < 512) then h.tr ++ [[vN a, vN b, vN k, vN v]] else h.tr) = true
  cases decide ((h.tr.length : Int) < 512)
  · exact ht
  · exact ZqU ht hl
theorem Zpp : Zac Tryz.prog 24 Zpv := o_al Tryz.func24 (by kernel_rfl) rfl fun ds Q q => by
  obtain ⟨⟨h, ss, ho, hl, ha⟩, q⟩ := q
  have := cSM h ss h ss ho ho hl
  rw [(Zpi ho ho).2 ⟨rfl, rfl⟩] at this
  exact ⟨_, _, ha, this, rfl, rfl, q⟩
theorem Zn9 {h : Mh} {ss : List SesD} (hm : smM h ss = true) (hb : ss.length * 184 ≤ 140737488351232) : Zac Tryz.prog 19 (sAtD [.agg (macL 0 h ss)] (.agg (macL 0 h ss))) :=
  oAtZ Zuc (Zql h ss hm hb) (ZkI hm) (Zon (Zqa h ss) rfl) rfl
theorem ZuD {R : List (List D)} {n : Nat} : cut R n 0 = [] := by simp [cut]
theorem ZtS {R : List (List D)} : cut R 0 R.length = R := Zfl rfl
theorem Zir {h : Mh} {ss : List SesD} (ho : okM h ss = true) (hl : ss.length ≤ 9223372036854775806) : Zd0 [.agg (macL 0 h ss), .agg (macL 0 h ss)] := ⟨h, ss, ho, hl, .cons (.refl _) (.cons (.refl _) .nil)⟩
end

section
open Go Go.Proofs
def z512 : List (List D) := List.replicate 512 [vN 0, vN 0, vN 0, vN 0]
def lY (R : List (List D)) : Bool := decide (0 + List.length R ≤ List.length R)
def dC (R : List (List D)) : List (List D) := cut R 0 (List.length R)
def dD (R : List (List D)) : List (List D) := cut R (0 + List.length R) (List.length R - List.length R)
def iCpL (h : Mh) (ss : List SesD) (i : Int) (s : SesD) : Inl := Znc Tryz.prog [34] (sAtL [.agg (macL 0 h ss)] (.agg (macL 1 h ss))) (matF i.toNat s)
theorem eMT0 (h h1 : Mh) (ss ts : List SesD) (i kd k v : Int) (t : Bool) (K : DV → Prop) : (askW Tryz.prog (hkF [(30, sAtD [] (B true)), (19, sAtD [.agg (macL 0 h ss)] (.agg (macL 0 h ss))), (22, sAtL [.agg (macL 0 h ss), I i, I k, I v] (.tup [.agg (macL 0 h1 ts), I 1200])), (27, sAtL [.agg (macL 0 h ss)] (B t)), (24, Zpv), (25, sI)] [] []) Tryz.f6 [.agg (macL 0 h ss), I i, I kd, I v, B false] K) = (([] : List DV) = [] ∧ [DV.agg (macL (0) h ss)] = [DV.agg (macL (0) h ss)] ∧ Zgv [DV.agg (macL (0) h ss), I i, I (IntKind.wrap IntKind.i64 (Int.tmod (IntKind.wrap IntKind.u64 kd) (7))), I v] [DV.agg (macL (0) h ss), I i, I k, I v] ∧ Zd0 [DV.agg (macL (0) h1 ts), DV.agg (Ze4 (0) ⟨[], [], [], [], (0), (0), (0), (0), (0), []⟩ [])] ∧ Zgv [DV.agg (macL (0) h ss)] [DV.agg (macL (0) h ss)] ∧ bif !t then K (B true) else bif decide (i < 0) then K (B true) else K (B (decide (i ≥ @Nat.cast Int _ (List.length (List.map (sesL (0)) ss)))))) := by kernel_rfl
theorem eMT1 (h h1 h2 : Mh) (ss ts : List SesD) (i kd k v e : Int) (t : Bool) (K : DV → Prop) : (askW Tryz.prog (hkF [(30, sAtD [] (B true)), (19, sAtD [.agg (macL 0 h ss)] (.agg (macL 0 h ss))), (22, sAtL [.agg (macL 0 h2 ss), I i, I k, I v] (.tup [.agg (macL 0 h1 ts), I e])), (27, sAtL [.agg (macL 0 h2 ss)] (B t)), (24, Zpv), (25, sI)] [] []) Tryz.f6 [.agg (macL 0 h ss), I i, I kd, I v, B true] K) = (([] : List DV) = [] ∧ [DV.agg (macL (0) h ss)] = [DV.agg (macL (0) h ss)] ∧ Zgv [DV.agg (macL (0) { h with tr := z512 } ss), I i, I (IntKind.wrap IntKind.i64 (Int.tmod (IntKind.wrap IntKind.u64 kd) (7))), I v] [DV.agg (macL (0) h2 ss), I i, I k, I v] ∧ bif e != 0 then Zd0 [DV.agg (macL (0) h1 ts), DV.agg (Ze4 (0) ⟨[], [], [], [], (0), (0), (0), (0), (0), []⟩ [])] ∧ Zgv [DV.agg (macL (0) { h with tr := z512 } ss)] [DV.agg (macL (0) h2 ss)] ∧ bif !t then K (B true) else bif decide (i < 0) then K (B true) else K (B (decide (i ≥ @Nat.cast Int _ (List.length (List.map (sesL (0)) ss))))) else Zd0 [DV.agg (macL (0) h1 ts), DV.agg (macL (0) { h with tr := z512 } ss)] ∧ K (B true)) := by kernel_rfl
theorem eMT2 (h h1 : Mh) (ss ts : List SesD) (s : SesD) (i kd k v : Int) (K : DV → Prop) : (askW Tryz.prog (hkF [(30, sAtD [] (B true)), (22, sAtL [.agg (macL 0 h ss), I i, I k, I v] (.tup [.agg (macL 0 h1 ts), I 0])), (24, Zpv), (25, sI)] [] [(19, iCpL h ss i s)]) Tryz.f6 [.agg (macL 0 h ss), I i, I kd, I v, B false] K) = (([] : List DV) = [] ∧ Zgv [DV.agg (macL (0) h ss)] [DV.agg (macL (0) h ss)] ∧ Zdy (List.map (sesL (1)) ss) (Int.toNat i) (1) s ∧ bif lY h.w0 then bif lY h.w1 then bif lY h.w2 then bif lY h.w3 then bif decide (0 + List.length (List.map (sesL (1)) ss) ≤ List.length (List.set (List.map (sesL (1)) ss) (Int.toNat i) (sesL (1) s))) then bif lY h.tr then Zgv [DV.agg [D.s (0) (3) (dC h.w0) (dD h.w0), D.s (0) (3) (dC h.w1) (dD h.w1), D.s (0) (3) (dC h.w2) (dD h.w2), D.s (0) (3) (dC h.w3) (dD h.w3), vN h.c0, vN h.c1, vN h.c2, vN h.c3, vN h.ce, D.s (0) (17) (cut (List.set (List.map (sesL (1)) ss) (Int.toNat i) (sesL (1) s)) (0) (List.length (List.map (sesL (1)) ss))) (cut (List.set (List.map (sesL (1)) ss) (Int.toNat i) (sesL (1) s)) (0 + List.length (List.map (sesL (1)) ss)) (List.length (List.map (sesL (1)) ss) - List.length (List.map (sesL (1)) ss))), D.s (0) (4) (dC h.tr) (dD h.tr)], I i, I (IntKind.wrap IntKind.i64 (Int.tmod (IntKind.wrap IntKind.u64 kd) (7))), I v] [DV.agg (macL (0) h ss), I i, I k, I v] ∧ bif decide (i < 0) then K (B false) else bif decide (i ≥ @Nat.cast Int _ (List.length (List.map (sesL (1)) ss))) then K (B false) else bif lY h.w0 then bif lY h.w1 then bif lY h.w2 then bif lY h.w3 then bif decide (0 + List.length (List.map (sesL (1)) ss) ≤ List.length (List.set (List.map (sesL (1)) ss) (Int.toNat i) (sesL (1) s))) then bif lY h.tr then Zgv [DV.agg [D.s (0) (3) (dC h.w0) (dD h.w0), D.s (0) (3) (dC h.w1) (dD h.w1), D.s (0) (3) (dC h.w2) (dD h.w2), D.s (0) (3) (dC h.w3) (dD h.w3), vN h.c0, vN h.c1, vN h.c2, vN h.c3, vN h.ce, D.s (0) (17) (cut (List.set (List.map (sesL (1)) ss) (Int.toNat i) (sesL (1) s)) (0) (List.length (List.map (sesL (1)) ss))) (cut (List.set (List.map (sesL (1)) ss) (Int.toNat i) (sesL (1) s)) (0 + List.length (List.map (sesL (1)) ss)) (List.length (List.map (sesL (1)) ss) - List.length (List.map (sesL (1)) ss))), D.s (0) (4) (dC h.tr) (dD h.tr)]] [DV.agg (macL (0) h ss)] ∧ Zdy (List.map (sesL (1)) ss) (Int.toNat i) (1) s ∧ bif decide (@Nat.cast Int _ (List.length h.tr) < 512) then bif decide (0 ≤ i) && decide (i < @Nat.cast Int _ (List.length (List.map (sesL (1)) ss))) then foAt (addN (0) (Int.toNat i)) (Int.toNat i) (List.length (List.map (sesL (1)) ss)) ∧ bif decide (0 ≤ i) && decide (i < @Nat.cast Int _ (List.length (List.map (sesL (1)) ss))) then foAt (addN (0) (Int.toNat i)) (Int.toNat i) (List.length (List.map (sesL (1)) ss)) ∧ bif decide (List.length h.tr ≤ List.length h.tr) && (decide ((List.length h.tr + 1) * 32 ≤ 140737488355328) && decide (List.length h.tr + 1 ≤ 9223372036854775807)) then bif lY h.w0 then bif lY h.w1 then bif lY h.w2 then bif lY h.w3 then bif decide (0 + List.length (List.map (sesL (1)) ss) ≤ List.length (List.set (List.map (sesL (1)) ss) (Int.toNat i) (sesL (1) s))) then bif decide (0 + (List.length h.tr + 1) ≤ List.length (List.take (List.length h.tr) h.tr ++ [[vN s.id, vN s.lb, vN (IntKind.wrap IntKind.i64 (Int.tmod (IntKind.wrap IntKind.u64 kd) (7))), vN v]])) then Zd0 [DV.agg (macL (0) h1 ts), DV.agg [D.s (0) (3) (dC h.w0) (dD h.w0), D.s (0) (3) (dC h.w1) (dD h.w1), D.s (0) (3) (dC h.w2) (dD h.w2), D.s (0) (3) (dC h.w3) (dD h.w3), vN h.c0, vN h.c1, vN h.c2, vN h.c3, vN h.ce, D.s (0) (17) (cut (List.set (List.map (sesL (1)) ss) (Int.toNat i) (sesL (1) s)) (0) (List.length (List.map (sesL (1)) ss))) (cut (List.set (List.map (sesL (1)) ss) (Int.toNat i) (sesL (1) s)) (0 + List.length (List.map (sesL (1)) ss)) (List.length (List.map (sesL (1)) ss) - List.length (List.map (sesL (1)) ss))), D.s (0) (4) (cut (List.take (List.length h.tr) h.tr ++ [[vN s.id, vN s.lb, vN (IntKind.wrap IntKind.i64 (Int.tmod (IntKind.wrap IntKind.u64 kd) (7))), vN v]]) (0) (List.length h.tr + 1)) (cut (List.take (List.length h.tr) h.tr ++ [[vN s.id, vN s.lb, vN (IntKind.wrap IntKind.i64 (Int.tmod (IntKind.wrap IntKind.u64 kd) (7))), vN v]]) (0 + (List.length h.tr + 1)) (List.length h.tr + 1 - (List.length h.tr + 1)))]] ∧ K (B true) else False else False else False else False else False else False else False else False else False else bif lY h.w0 then bif lY h.w1 then bif lY h.w2 then bif lY h.w3 then bif decide (0 + List.length (List.map (sesL (1)) ss) ≤ List.length (List.set (List.map (sesL (1)) ss) (Int.toNat i) (sesL (1) s))) then bif lY h.tr then Zd0 [DV.agg (macL (0) h1 ts), DV.agg [D.s (0) (3) (dC h.w0) (dD h.w0), D.s (0) (3) (dC h.w1) (dD h.w1), D.s (0) (3) (dC h.w2) (dD h.w2), D.s (0) (3) (dC h.w3) (dD h.w3), vN h.c0, vN h.c1, vN h.c2, vN h.c3, vN h.ce, D.s (0) (17) (cut (List.set (List.map (sesL (1)) ss) (Int.toNat i) (sesL (1) s)) (0) (List.length (List.map (sesL (1)) ss))) (cut (List.set (List.map (sesL (1)) ss) (Int.toNat i) (sesL (1) s)) (0 + List.length (List.map (sesL (1)) ss)) (List.length (List.map (sesL (1)) ss) - List.length (List.map (sesL (1)) ss))), D.s (0) (4) (dC h.tr) (dD h.tr)]] ∧ K (B true) else False else False else False else False else False else False else False else False else False else False else False else False else False else False else False else False else False else False) := by kernel_rfl
theorem lY_t (R : List (List D)) : lY R = true := by simp [lY]
theorem dC_e (R : List (List D)) : dC R = R := Zfl rfl
theorem dD_e (R : List (List D)) : dD R = [] := by simp [dD, cut]
theorem ZoU {f : FuncId} {es : List DV} {r r0 : DV} (hg : Goes Tryz.prog f) (hc : CT Tryz.prog f es r) (hp : r.pureOwn = true) (hz : Frz r r0) (hfit : r0.fit32 = true) : Zac Tryz.prog f (sAtL es r0) := fun ds Q q => by
  obtain ⟨ha, q⟩ := q
  have h1 := (ZgL (hc.args ha) (.inl hp)).frz hz
  exact ⟨hg, r0, h1.ct, .inr (.inr h1), hfit, q⟩
theorem ZrK {h : Mh} {ss : List SesD} (i : Int) (s : SesD) (hsm : smM h ss = true) (hb : ss.length * 184 ≤ 140737488351232) : Zbf Tryz.prog 19 (iCpL h ss i s) :=
  Zh1 (ZnW _ _) (oAtL Tryz.func19 (by kernel_rfl) rfl (Zql h ss hsm hb) (ZkI hsm) rfl)
theorem gTel : Goes Tryz.prog 22 := Zat Tryz.func22 (by kernel_rfl) rfl
theorem Zq3 (h : Mh) (ss : List SesD) (hok : okM h ss = true) : Zac Tryz.prog 27 (sAtL [.agg (macL 0 h ss)] (B (mmay h ss))) := oAtL Tryz.func27 (by kernel_rfl) rfl (cRM h ss hok) rfl rfl
theorem al1 (h : Mh) (ss : List SesD) : AL (.agg [.s 0 3 h.w0 [], .s 0 3 h.w1 [], .s 0 3 h.w2 [], .s 0 3 h.w3 [], vN h.c0, vN h.c1, vN h.c2, vN h.c3, vN h.ce, .s 0 17 (ss.map (sesL 1)) [], .s 0 4 h.tr []]) (.agg (macL 0 h ss)) :=
  .agg (.cons (.refl _) (.cons (.refl _) (.cons (.refl _) (.cons (.refl _) (.cons (.refl _) (.cons (.refl _) (.cons (.refl _) (.cons (.refl _) (.cons (.refl _) (.cons (.rows (Zn0 ss)) (.cons (.refl _) .nil))))))))))) rfl rfl
theorem Zrx {h : Mh} {ss : List SesD} {s : SesD} (hok : okM h ss = true) (hl : h.tr.length ≤ 512) (k v : Int) : okM (Zcr h s k v) ss = true := by
  obtain ⟨a, b, c⟩ := ZbK hok
  have e : okM (Zcr h s k v) ss = (okA h.w0 h.w1 h.w2 h.w3 && (okZ 4 (Zp2 h s.id s.lb k v).tr && okSS ss)) := rfl
  rw [e, a, Zo1 b hl, c]; rfl
theorem ZqM {h : Mh} {ss : List SesD} {s : SesD} (hsm : smM h ss = true) (hl : h.tr.length ≤ 512) (k v : Int) : smM (Zcr h s k v) ss = true :=
  Zqb (h' := Zcr h s k v) hsm rfl rfl rfl rfl (ZpL (by obtain ⟨_, q, _⟩ := Zcj hsm; exact q) hl _ _ _ _)
theorem ZnO {h : Mh} {ss : List SesD} {i k : Int} (ho : ZcW h ss i k = false) (h0 : 0 ≤ k) (h6 : k ≤ 6) : (bif !(mmay h ss) then AL (B true) (B true) else bif decide (i < 0) then AL (B true) (B true) else AL (B (decide (i ≥ @Nat.cast Int _ (List.length (List.map (sesL 0) ss))))) (B true)) := by
  unfold ZcW Zb6 at ho
  rw [decide_eq_false (show ¬ k < 0 by omega), decide_eq_false (show ¬ k > 6 by omega)] at ho
  cases hm : mmay h ss
  · exact AL.refl _
  · rw [hm] at ho
    simp only [Bool.not_false, Bool.and_self, Bool.and_true, Bool.true_and, Bool.and_eq_false_iff, decide_eq_false_iff_not] at ho
    show (bif decide (i < 0) then AL (B true) (B true) else AL (B (decide (i ≥ @Nat.cast Int _ (List.length (List.map (sesL 0) ss))))) (B true))
    by_cases hi : i < 0
    · rw [decide_eq_true hi]; exact AL.refl _
    · rw [decide_eq_false hi, decide_eq_true (show i ≥ @Nat.cast Int _ (List.length (List.map (sesL 0) ss)) by rw [List.length_map]; rcases ho with q | q <;> omega)]
      exact AL.refl _
theorem Zlk : Zd0 [.agg (macL 0 h0 []), .agg (Ze4 0 ⟨[], [], [], [], 0, 0, 0, 0, 0, []⟩ [])] := Zir (h := h0) (ss := []) rfl (by simp)
theorem Zn1 : okZ 4 z512 = true := Zq5 (by decide)
theorem Zru : smR 4398046510977 z512 = true := Zcl Zn1 (show z512.length ≤ 512 by unfold z512; rw [List.length_replicate]; exact Nat.le_refl _) (by decide)
theorem cMT (h : Mh) (ss : List SesD) (i kd v : Int) (full : Bool) (hok : okM h ss = true) (hsm : smM h ss = true) (hb : ss.length * 184 ≤ 140737488351232) : CT Tryz.prog 6 [.agg (macL 0 h ss), I i, I kd, I v, B full] (B true) := by
  obtain ⟨u0, u1⟩ := umod (w := kd) (n := 7) (by omega)
  have hbig : ss.length ≤ 9223372036854775806 := by omega
  obtain ⟨k, hk⟩ : ∃ k, IntKind.wrap IntKind.i64 (Int.tmod (IntKind.wrap IntKind.u64 kd) 7) = k := ⟨_, rfl⟩
  have hk0 : 0 ≤ k := by rw [← hk, ZjM (by omega) (by omega)]; omega
  have hk6 : k ≤ 6 := by rw [← hk, ZjM (by omega) (by omega)]; omega
  cases full with
  | false =>
    have hT := cTel h ss i k v hok
    cases ho : ZcW h ss i k with
    | false =>
      rw [ho] at hT
      refine Zke (.cons Zpc (.cons (Zn9 hsm hb) (.cons (ZoU gTel hT rfl (Zfh h0 [] 1200) rfl) (.cons (Zq3 h ss hok) (.cons Zpp (.cons oNum .nil)))))) .nil .nil mixed Tryz.func6 rfl rfl rfl ?_
      show Said (askW Tryz.prog (hkF [(_, _), (_, _), (_, sAtL [.agg (macL 0 h ss), I i, I k, I v] (.tup [.agg (macL 0 h0 []), I 1200])), (_, _), (_, _), (_, _)] [] []) _ _ _)
      rw [eMT0]
      refine ⟨⟨rfl, rfl, ?_, Zlk, .cons (.refl _) .nil, ZnO ho hk0 hk6⟩⟩
      rw [hk]
      exact .cons (.refl _) (.cons (.refl _) (.cons (.refl _) (.cons (.refl _) .nil)))
    | true =>
      rw [ho] at hT
      have hth : Zb6 h ss i = true := by unfold ZcW at ho; rw [Bool.and_eq_true] at ho; exact ho.1
      obtain ⟨s, f⟩ := foc hok hth
      rw [f.getD] at hT
      have hTs := ZqM (s := s) hsm f.tl k v
      refine Zke (.cons Zpc (.cons (ZoU gTel hT (ZhE hTs 0) (Zfh (Zcr h s k v) ss 0) rfl) (.cons Zpp (.cons oNum .nil)))) .nil (.cons (ZrK i s hsm hb) .nil) mixed Tryz.func6 rfl rfl rfl ?_
      show Said (askW Tryz.prog (hkF [(_, _), (_, sAtL [.agg (macL 0 h ss), I i, I k, I v] (.tup [.agg (macL 0 (Zcr h s k v) ss), I 0])), (_, _), (_, _)] [] [(_, _)]) _ _ _)
      rw [eMT2]
      have e1 : List.set (List.map (sesL 1) ss) (Int.toNat i) (sesL 1 s) = List.map (sesL 1) ss := by rw [ZkU, f.set]
      have n0 : ¬ i < 0 := by have := f.i0; omega
      have n1 : ¬ i ≥ @Nat.cast Int _ (List.length (List.map (sesL 1) ss)) := by rw [List.length_map]; have := f.i1; omega
      have hrow : Zdy (List.map (sesL 1) ss) (Int.toNat i) 1 s := f.row
      have tl2 : (true && (decide ((List.length h.tr + 1) * 32 ≤ 140737488355328) && decide (List.length h.tr + 1 ≤ 9223372036854775807))) = true := by have := f.tl; simp; omega
      have a1 : Zgv [.agg [.s 0 3 h.w0 [], .s 0 3 h.w1 [], .s 0 3 h.w2 [], .s 0 3 h.w3 [], vN h.c0, vN h.c1, vN h.c2, vN h.c3, vN h.ce, .s 0 17 (ss.map (sesL 1)) [], .s 0 4 h.tr []], I i, I k, I v] [.agg (macL 0 h ss), I i, I k, I v] := .cons (al1 h ss) (.cons (.refl _) (.cons (.refl _) (.cons (.refl _) .nil)))
      have a2 : Zgv [.agg [.s 0 3 h.w0 [], .s 0 3 h.w1 [], .s 0 3 h.w2 [], .s 0 3 h.w3 [], vN h.c0, vN h.c1, vN h.c2, vN h.c3, vN h.ce, .s 0 17 (ss.map (sesL 1)) [], .s 0 4 h.tr []]] [.agg (macL 0 h ss)] := .cons (al1 h ss) .nil
      have okT := Zrx (s := s) hok f.tl k v
      have sm1 : ∀ tr', tr' = (Zcr h s k v).tr → Zd0 [.agg (macL 0 (Zcr h s k v) ss), .agg [.s 0 3 h.w0 [], .s 0 3 h.w1 [], .s 0 3 h.w2 [], .s 0 3 h.w3 [], vN h.c0, vN h.c1, vN h.c2, vN h.c3, vN h.ce, .s 0 17 (ss.map (sesL 1)) [], .s 0 4 tr' []]] := fun tr' e => by
        subst e
        exact ⟨Zcr h s k v, ss, okT, hbig, .cons (.refl _) (.cons (al1 (Zcr h s k v) ss) .nil)⟩
      refine ⟨?_⟩
      simp only [hk, e1, lY_t, dC_e, dD_e, Nat.zero_add, Nat.le_refl, decide_true, cond_true, cond_false, Nat.sub_self, ZuD, ZtS, decide_eq_false n0, decide_eq_false n1, f.ix, f.foAt, tl2, List.take_length, true_and]
      refine ⟨.cons (.refl _) .nil, hrow, a1, a2, hrow, ?_⟩
      cases hl : decide (@Nat.cast Int _ (List.length h.tr) < 512) with
      | true =>
        have et : (Zcr h s k v).tr = h.tr ++ [[vN s.id, vN s.lb, vN k, vN v]] := by unfold Zcr; simp only [hl, cond_true]; rfl
        have el : cut (h.tr ++ [[vN s.id, vN s.lb, vN k, vN v]]) 0 (List.length h.tr + 1) = h.tr ++ [[vN s.id, vN s.lb, vN k, vN v]] := Zfl (by simp)
        have el2 : List.length h.tr + 1 ≤ List.length (h.tr ++ [[vN s.id, vN s.lb, vN k, vN v]]) := by simp
        simp only [cond_true, el, el2, decide_true]
        exact ⟨sm1 _ et.symm, AL.refl _⟩
      | false =>
        have et : (Zcr h s k v).tr = h.tr := by unfold Zcr; simp only [hl, cond_false]
        simp only [cond_false]
        exact ⟨sm1 _ et.symm, AL.refl _⟩
  | true =>
    have hok2 : okM { h with tr := z512 } ss = true := by
      obtain ⟨a, b, c⟩ := ZbK hok
      have e : okM { h with tr := z512 } ss = (okA h.w0 h.w1 h.w2 h.w3 && (okZ 4 z512 && okSS ss)) := rfl
      rw [e, a, Zn1, c]; rfl
    have hsm2 : smM { h with tr := z512 } ss = true := Zqb (h' := { h with tr := z512 }) hsm rfl rfl rfl rfl Zru
    have hT := cTel { h with tr := z512 } ss i k v hok2
    cases ho : ZcW { h with tr := z512 } ss i k with
    | false =>
      rw [ho] at hT
      refine Zke (.cons Zpc (.cons (Zn9 hsm hb) (.cons (ZoU gTel hT rfl (Zfh h0 [] 1200) rfl) (.cons (Zq3 _ ss hok2) (.cons Zpp (.cons oNum .nil)))))) .nil .nil mixed Tryz.func6 rfl rfl rfl ?_
      show Said (askW Tryz.prog (hkF [(_, _), (_, _), (_, sAtL [.agg (macL 0 { h with tr := z512 } ss), I i, I k, I v] (.tup [.agg (macL 0 h0 []), I 1200])), (_, _), (_, _), (_, _)] [] []) _ _ _)
      rw [eMT1]
      refine ⟨⟨rfl, rfl, ?_, Zlk, .cons (.refl _) .nil, ZnO ho hk0 hk6⟩⟩
      rw [hk]
      exact .cons (.refl _) (.cons (.refl _) (.cons (.refl _) (.cons (.refl _) .nil)))
    | true =>
      rw [ho] at hT
      have hth : Zb6 { h with tr := z512 } ss i = true := by unfold ZcW at ho; rw [Bool.and_eq_true] at ho; exact ho.1
      obtain ⟨s, f⟩ := foc hok2 hth
      rw [f.getD] at hT
      have hz : z512.length = 512 := List.length_replicate
      have et : Zcr { h with tr := z512 } s k v = { h with tr := z512 } := by
        unfold Zcr
        show ({ h with tr := bif decide ((z512.length : Int) < 512) then _ else z512 } : Mh) = _
        rw [hz]; rfl
      rw [et] at hT
      refine Zke (.cons Zpc (.cons (Zn9 hsm hb) (.cons (ZoU gTel hT (ZhE hsm2 0) (Zfh _ ss 0) rfl) (.cons (Zq3 _ ss hok2) (.cons Zpp (.cons oNum .nil)))))) .nil .nil mixed Tryz.func6 rfl rfl rfl ?_
      show Said (askW Tryz.prog (hkF [(_, _), (_, _), (_, sAtL [.agg (macL 0 { h with tr := z512 } ss), I i, I k, I v] (.tup [.agg (macL 0 { h with tr := z512 } ss), I 0])), (_, _), (_, _), (_, _)] [] []) _ _ _)
      rw [eMT1]
      refine ⟨⟨rfl, rfl, ?_, Zir hok2 hbig, AL.refl _⟩⟩
      rw [hk]
      exact .cons (.refl _) (.cons (.refl _) (.cons (.refl _) (.cons (.refl _) .nil)))
theorem cMTg (xs : List D) (i kd v : Int) (full : Bool) (g : GoodL kMac xs) : CT Tryz.prog 6 [.agg xs, I i, I kd, I v, B full] (B true) := by
  obtain ⟨h, ss, rfl, ho, hs, hb⟩ := Zt4 g
  exact cMT h ss i kd v full ho hs hb
end

end Vm
