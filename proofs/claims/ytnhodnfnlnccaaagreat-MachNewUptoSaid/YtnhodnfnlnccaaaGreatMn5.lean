/- An interpreter for Go's texts over plain data, its proof, and what it says of the functions that the law reaches. My own work. -/
import Derived.Test.YtnhodnfnlnccaaaGreatMn4
set_option linter.unusedSimpArgs false
set_option linter.unusedVariables false
set_option maxRecDepth 100000
set_option maxHeartbeats 2000000
namespace Vm
section
open Go Go.Proofs
def sLS : Spec := fun ds Q => match ds with
  | [.agg [p], e] => Zlw p fun R0 R1 R2 R3 => sesA e fun s => cond (ZaF s) (Q (B (Zan R0 R1 R2 R3 s))) False
  | _ => False
theorem oLS : Zac Tryz.prog 66 sLS := o_al Tryz.func66 (by kernel_rfl) rfl fun ds Q h => by
  unfold sLS at h; split at h
  · obtain ⟨R0, R1, R2, R3, h, r1, e1⟩ := Zfv h
    obtain ⟨s, h, r2⟩ := ZbQ h
    obtain ⟨h1, h2⟩ := Zaf h
    exact ⟨_, _, .cons (.agg (.cons r1 .nil) (by simp [e1]) rfl) (.cons r2 .nil), cLS R0 R1 R2 R3 s h1, rfl, rfl, h2⟩
  · exact h.elim
theorem eA1S (R0 R1 R2 R3 : List (List D)) (s : SesD) (K : DV → Prop) : (ask Tryz.prog [(66, sLS)] Tryz.f104 [.agg (sesL 0 s), .c (.p 0 [.f 66 [.f AG [] [.p 0 (wsL R0 R1 R2 R3) 0]] []] 0)] K) = (bif ZaF s then K (DV.c (D.v (Value.bool !Zan R0 R1 R2 R3 s))) else False) := by kernel_rfl
def sA1S : Spec := fun ds Q => match ds with
  | [e, .c (.p _ [c] 0)] => sesA e fun s => Zgt 66 c fun R0 R1 R2 R3 => cond (ZaF s) (Q (B (!Zan R0 R1 R2 R3 s))) False
  | _ => False
theorem oA1S : Zac Tryz.prog 104 sA1S := o_al Tryz.func104 (by kernel_rfl) rfl fun ds Q h => by
  unfold sA1S at h; split at h
  · obtain ⟨s, h, r2⟩ := ZbQ h
    obtain ⟨R0, R1, R2, R3, h, r1, e1⟩ := Zb8 (by decide) h
    obtain ⟨h1, h2⟩ := Zaf h
    exact ⟨_, _, .cons r2 (.cons (.c (RD.cells (t' := 0) (.cons r1 .nil)) rfl rfl) .nil), Zaj (.cons oLS .nil) mixed Tryz.func104 rfl rfl rfl (by rw [eA1S, h1]; rfl), rfl, rfl, h2⟩
  · exact h.elim
def iIxS : Inl := inlB Tryz.prog band bor [(104, sA1S)] [] [] Tryz.f152
def iCoS : Inl := inlB Tryz.prog band bor [] [] [(152, iIxS)] Tryz.f103
theorem ZrV : Zbl Tryz.prog 152 iIxS := ZoJ (.cons oA1S .nil) .nil .nil mixed Tryz.func152 rfl (Zax Tryz.func152 (by kernel_rfl) rfl)
theorem Zfo : Zbl Tryz.prog 103 iCoS := ZoJ .nil .nil (.cons ZrV .nil) mixed Tryz.func103 rfl (Zax Tryz.func103 (by kernel_rfl) rfl)
theorem bifN (p q : Bool) (x : DV) : (bif !p then (DV.c (.v (.bool false)) = x) else (DV.c (.v (.bool q)) = x)) = (DV.c (.v (.bool (p && q))) = x) := by cases p <;> rfl
theorem Zr8 (R0 R1 R2 R3 : List (List D)) (K : DV → Prop) : (askX Tryz.prog band bor [] [] [(103, iCoS)] Tryz.f65 [.c (.s 0 17 ([].map (sesL 0)) []), .c (.f 66 [.f AG [] [.p 0 (wsL R0 R1 R2 R3) 0]] [])] K) = (K (DV.c (D.v (Value.bool true)))) := by kernel_rfl
theorem Zs5 (R0 R1 R2 R3 : List (List D)) (s0 : SesD) (K : DV → Prop) : (askX Tryz.prog band bor [] [] [(103, iCoS)] Tryz.f65 [.c (.s 0 17 ([s0].map (sesL 0)) []), .c (.f 66 [.f AG [] [.p 0 (wsL R0 R1 R2 R3) 0]] [])] K) = (bif ZaF s0 then bif !Zan R0 R1 R2 R3 s0 then K (DV.c (D.v (Value.bool false))) else K (DV.c (D.v (Value.bool true))) else False) := by kernel_rfl
theorem ZsT (R0 R1 R2 R3 : List (List D)) (s0 s1 : SesD) (K : DV → Prop) : (askX Tryz.prog band bor [] [] [(103, iCoS)] Tryz.f65 [.c (.s 0 17 ([s0, s1].map (sesL 0)) []), .c (.f 66 [.f AG [] [.p 0 (wsL R0 R1 R2 R3) 0]] [])] K) = (bif ZaF s0 then bif !Zan R0 R1 R2 R3 s0 then K (DV.c (D.v (Value.bool false))) else bif ZaF s1 then bif !Zan R0 R1 R2 R3 s1 then K (DV.c (D.v (Value.bool false))) else K (DV.c (D.v (Value.bool true))) else False else False) := by kernel_rfl
theorem Ztg (R0 R1 R2 R3 : List (List D)) (s0 s1 s2 : SesD) (K : DV → Prop) : (askX Tryz.prog band bor [] [] [(103, iCoS)] Tryz.f65 [.c (.s 0 17 ([s0, s1, s2].map (sesL 0)) []), .c (.f 66 [.f AG [] [.p 0 (wsL R0 R1 R2 R3) 0]] [])] K) = (bif ZaF s0 then bif !Zan R0 R1 R2 R3 s0 then K (DV.c (D.v (Value.bool false))) else bif ZaF s1 then bif !Zan R0 R1 R2 R3 s1 then K (DV.c (D.v (Value.bool false))) else bif ZaF s2 then bif !Zan R0 R1 R2 R3 s2 then K (DV.c (D.v (Value.bool false))) else K (DV.c (D.v (Value.bool true))) else False else False else False) := by kernel_rfl
theorem Zs4 (R0 R1 R2 R3 : List (List D)) (s0 s1 s2 s3 : SesD) (K : DV → Prop) : (askX Tryz.prog band bor [] [] [(103, iCoS)] Tryz.f65 [.c (.s 0 17 ([s0, s1, s2, s3].map (sesL 0)) []), .c (.f 66 [.f AG [] [.p 0 (wsL R0 R1 R2 R3) 0]] [])] K) = (bif ZaF s0 then bif !Zan R0 R1 R2 R3 s0 then K (DV.c (D.v (Value.bool false))) else bif ZaF s1 then bif !Zan R0 R1 R2 R3 s1 then K (DV.c (D.v (Value.bool false))) else bif ZaF s2 then bif !Zan R0 R1 R2 R3 s2 then K (DV.c (D.v (Value.bool false))) else bif ZaF s3 then bif !Zan R0 R1 R2 R3 s3 then K (DV.c (D.v (Value.bool false))) else K (DV.c (D.v (Value.bool true))) else False else False else False else False) := by kernel_rfl
def okSS (ss : List SesD) : Bool := ss.all ZaF
theorem Zuv (R0 R1 R2 R3 : List (List D)) : ∀ (ss : List SesD), ss.length ≤ 4 → okSS ss = true → CT Tryz.prog 65 [.c (.s 0 17 (ss.map (sesL 0)) []), .c (.f 66 [.f AG [] [.p 0 (wsL R0 R1 R2 R3) 0]] [])] (B (ss.all (Zan R0 R1 R2 R3))) := by
  intro ss hl hok
  unfold okSS at hok
  rcases ss with _ | ⟨s0, _ | ⟨s1, _ | ⟨s2, _ | ⟨s3, _ | ⟨s4, l⟩⟩⟩⟩⟩
  · refine ct_x .nil .nil (.cons Zfo .nil) mixed Tryz.func65 rfl rfl rfl ?_
    rw [Zr8]
    refine ⟨?_⟩
    simp only [List.all_cons, List.all_nil, Bool.and_eq_true, Bool.and_true] at hok
    simp only [hok, cond_true, List.all_cons, List.all_nil, bifN, Bool.and_true, Bool.and_assoc]
  · refine ct_x .nil .nil (.cons Zfo .nil) mixed Tryz.func65 rfl rfl rfl ?_
    rw [Zs5]
    refine ⟨?_⟩
    simp only [List.all_cons, List.all_nil, Bool.and_eq_true, Bool.and_true] at hok
    simp only [hok, cond_true, List.all_cons, List.all_nil, bifN, Bool.and_true, Bool.and_assoc]
  · refine ct_x .nil .nil (.cons Zfo .nil) mixed Tryz.func65 rfl rfl rfl ?_
    rw [ZsT]
    refine ⟨?_⟩
    simp only [List.all_cons, List.all_nil, Bool.and_eq_true, Bool.and_true] at hok
    simp only [hok, cond_true, List.all_cons, List.all_nil, bifN, Bool.and_true, Bool.and_assoc]
  · refine ct_x .nil .nil (.cons Zfo .nil) mixed Tryz.func65 rfl rfl rfl ?_
    rw [Ztg]
    refine ⟨?_⟩
    simp only [List.all_cons, List.all_nil, Bool.and_eq_true, Bool.and_true] at hok
    simp only [hok, cond_true, List.all_cons, List.all_nil, bifN, Bool.and_true, Bool.and_assoc]
  · refine ct_x .nil .nil (.cons Zfo .nil) mixed Tryz.func65 rfl rfl rfl ?_
    rw [Zs4]
    refine ⟨?_⟩
    simp only [List.all_cons, List.all_nil, Bool.and_eq_true, Bool.and_true] at hok
    simp only [hok, cond_true, List.all_cons, List.all_nil, bifN, Bool.and_true, Bool.and_assoc]
  · simp at hl
def Zk8 : Spec := fun ds Q => match ds with
  | [.c d, .c e] => cond d.isOwn False (Zlx d fun ss => Zgt 66 e fun R0 R1 R2 R3 => cond (Nat.ble ss.length 4 && okSS ss) (Q (B (ss.all (Zan R0 R1 R2 R3)))) False)
  | _ => False
theorem Zox : Zac Tryz.prog 65 Zk8 := o_al Tryz.func65 (by kernel_rfl) rfl fun ds Q h => by
  unfold Zk8 at h; split at h
  · rename_i d e
    cases hd : d.isOwn with
    | true => rw [hd] at h; exact h.elim
    | false =>
      rw [hd] at h
      obtain ⟨ss, h, r1⟩ := Zdz h
      obtain ⟨R0, R1, R2, R3, h, r2, e2⟩ := Zb8 (by decide) h
      obtain ⟨h1, h2⟩ := Zaf h
      rw [Bool.and_eq_true] at h1
      exact ⟨_, _, .cons (.c r1 hd rfl) (.cons (.c r2 e2 rfl) .nil), Zuv R0 R1 R2 R3 ss (Nat.le_of_ble_eq_true h1.1) h1.2, rfl, rfl, h2⟩
  · exact h.elim
def Zdi : List SesD → Bool
  | a :: b :: l => !decide (a.id ≥ b.id) && Zdi (b :: l)
  | _ => true
def clkB (h : Mh) : Bool := ck4 h.c0 h.c1 h.c2 h.c3 && clk h.ce
def mmay (h : Mh) (ss : List SesD) : Bool := amay (toZ h.w0) (toZ h.w1) (toZ h.w2) (toZ h.w3) && (clkB h && (!decide (mx4 h.c0 h.c1 h.c2 h.c3 > h.ce) && (!decide ((ss.length : Int) > 4) && (!decide ((h.tr.length : Int) > 512) && (Zdi ss && (ss.all (Zan h.w0 h.w1 h.w2 h.w3) && !(toZ h.tr).any noEv))))))
def okM (h : Mh) (ss : List SesD) : Bool := okA h.w0 h.w1 h.w2 h.w3 && (okZ 4 h.tr && okSS ss)
theorem eMM0 (h : Mh) (K : DV → Prop) : (ask Tryz.prog [(60, ZbX), (61, sCkM), (62, sMx), (65, Zk8), (67, Zgk)] Tryz.f26 [.agg (macL 0 h [])] K) = (bif okA h.w0 h.w1 h.w2 h.w3 then bif !amay (toZ h.w0) (toZ h.w1) (toZ h.w2) (toZ h.w3) then K (DV.c (D.v (Value.bool false))) else bif !(ck4 h.c0 h.c1 h.c2 h.c3 && clk h.ce) then K (DV.c (D.v (Value.bool false))) else bif decide (mx4 h.c0 h.c1 h.c2 h.c3 > h.ce) then K (DV.c (D.v (Value.bool false))) else bif decide (@Nat.cast Int _ (List.length h.tr) > 512) then K (DV.c (D.v (Value.bool false))) else bif okZ (4) h.tr then K (DV.c (D.v (Value.bool !List.any (toZ h.tr) noEv))) else False else False) := by kernel_rfl
theorem eMM1 (h : Mh) (s0 : SesD) (K : DV → Prop) : (ask Tryz.prog [(60, ZbX), (61, sCkM), (62, sMx), (65, Zk8), (67, Zgk)] Tryz.f26 [.agg (macL 0 h [s0])] K) = (bif okA h.w0 h.w1 h.w2 h.w3 then bif !amay (toZ h.w0) (toZ h.w1) (toZ h.w2) (toZ h.w3) then K (DV.c (D.v (Value.bool false))) else bif !(ck4 h.c0 h.c1 h.c2 h.c3 && clk h.ce) then K (DV.c (D.v (Value.bool false))) else bif decide (mx4 h.c0 h.c1 h.c2 h.c3 > h.ce) then K (DV.c (D.v (Value.bool false))) else bif decide (@Nat.cast Int _ (List.length h.tr) > 512) then K (DV.c (D.v (Value.bool false))) else bif Nat.ble (1) (OfNat.ofNat (4)) && okSS [s0] then bif List.all [s0] (Zan h.w0 h.w1 h.w2 h.w3) then bif okZ (4) h.tr then K (DV.c (D.v (Value.bool !List.any (toZ h.tr) noEv))) else False else K (DV.c (D.v (Value.bool false))) else False else False) := by kernel_rfl
theorem eMM2 (h : Mh) (s0 s1 : SesD) (K : DV → Prop) : (ask Tryz.prog [(60, ZbX), (61, sCkM), (62, sMx), (65, Zk8), (67, Zgk)] Tryz.f26 [.agg (macL 0 h [s0, s1])] K) = (bif okA h.w0 h.w1 h.w2 h.w3 then bif !amay (toZ h.w0) (toZ h.w1) (toZ h.w2) (toZ h.w3) then K (DV.c (D.v (Value.bool false))) else bif !(ck4 h.c0 h.c1 h.c2 h.c3 && clk h.ce) then K (DV.c (D.v (Value.bool false))) else bif decide (mx4 h.c0 h.c1 h.c2 h.c3 > h.ce) then K (DV.c (D.v (Value.bool false))) else bif decide (@Nat.cast Int _ (List.length h.tr) > 512) then K (DV.c (D.v (Value.bool false))) else bif decide (s0.id ≥ s1.id) then K (DV.c (D.v (Value.bool false))) else bif Nat.ble (2) (OfNat.ofNat (4)) && okSS [s0, s1] then bif List.all [s0, s1] (Zan h.w0 h.w1 h.w2 h.w3) then bif okZ (4) h.tr then K (DV.c (D.v (Value.bool !List.any (toZ h.tr) noEv))) else False else K (DV.c (D.v (Value.bool false))) else False else False) := by kernel_rfl
theorem eMM3 (h : Mh) (s0 s1 s2 : SesD) (K : DV → Prop) : (ask Tryz.prog [(60, ZbX), (61, sCkM), (62, sMx), (65, Zk8), (67, Zgk)] Tryz.f26 [.agg (macL 0 h [s0, s1, s2])] K) = (bif okA h.w0 h.w1 h.w2 h.w3 then bif !amay (toZ h.w0) (toZ h.w1) (toZ h.w2) (toZ h.w3) then K (DV.c (D.v (Value.bool false))) else bif !(ck4 h.c0 h.c1 h.c2 h.c3 && clk h.ce) then K (DV.c (D.v (Value.bool false))) else bif decide (mx4 h.c0 h.c1 h.c2 h.c3 > h.ce) then K (DV.c (D.v (Value.bool false))) else bif decide (@Nat.cast Int _ (List.length h.tr) > 512) then K (DV.c (D.v (Value.bool false))) else bif decide (s0.id ≥ s1.id) then K (DV.c (D.v (Value.bool false))) else bif decide (s1.id ≥ s2.id) then K (DV.c (D.v (Value.bool false))) else bif Nat.ble (3) (OfNat.ofNat (4)) && okSS [s0, s1, s2] then bif List.all [s0, s1, s2] (Zan h.w0 h.w1 h.w2 h.w3) then bif okZ (4) h.tr then K (DV.c (D.v (Value.bool !List.any (toZ h.tr) noEv))) else False else K (DV.c (D.v (Value.bool false))) else False else False) := by kernel_rfl
theorem eMM4 (h : Mh) (s0 s1 s2 s3 : SesD) (K : DV → Prop) : (ask Tryz.prog [(60, ZbX), (61, sCkM), (62, sMx), (65, Zk8), (67, Zgk)] Tryz.f26 [.agg (macL 0 h [s0, s1, s2, s3])] K) = (bif okA h.w0 h.w1 h.w2 h.w3 then bif !amay (toZ h.w0) (toZ h.w1) (toZ h.w2) (toZ h.w3) then K (DV.c (D.v (Value.bool false))) else bif !(ck4 h.c0 h.c1 h.c2 h.c3 && clk h.ce) then K (DV.c (D.v (Value.bool false))) else bif decide (mx4 h.c0 h.c1 h.c2 h.c3 > h.ce) then K (DV.c (D.v (Value.bool false))) else bif decide (@Nat.cast Int _ (List.length h.tr) > 512) then K (DV.c (D.v (Value.bool false))) else bif decide (s0.id ≥ s1.id) then K (DV.c (D.v (Value.bool false))) else bif decide (s1.id ≥ s2.id) then K (DV.c (D.v (Value.bool false))) else bif decide (s2.id ≥ s3.id) then K (DV.c (D.v (Value.bool false))) else bif Nat.ble (4) (OfNat.ofNat (4)) && okSS [s0, s1, s2, s3] then bif List.all [s0, s1, s2, s3] (Zan h.w0 h.w1 h.w2 h.w3) then bif okZ (4) h.tr then K (DV.c (D.v (Value.bool !List.any (toZ h.tr) noEv))) else False else K (DV.c (D.v (Value.bool false))) else False else False) := by kernel_rfl
theorem eMMB (h : Mh) (R sp : List (List D)) (K : DV → Prop) : (askL Tryz.prog [(60, ZbX), (61, sCkM), (62, sMx)] [(4, fun _ _ => False)] Tryz.f26 [.agg [.s 0 3 h.w0 [], .s 0 3 h.w1 [], .s 0 3 h.w2 [], .s 0 3 h.w3 [], vN h.c0, vN h.c1, vN h.c2, vN h.c3, vN h.ce, .s 0 17 R sp, .s 0 4 h.tr []]] K) = (bif okA h.w0 h.w1 h.w2 h.w3 then bif !amay (toZ h.w0) (toZ h.w1) (toZ h.w2) (toZ h.w3) then K (DV.c (D.v (Value.bool false))) else bif !(ck4 h.c0 h.c1 h.c2 h.c3 && clk h.ce) then K (DV.c (D.v (Value.bool false))) else bif decide (mx4 h.c0 h.c1 h.c2 h.c3 > h.ce) then K (DV.c (D.v (Value.bool false))) else bif decide (@Nat.cast Int _ (List.length R) > 4) then K (DV.c (D.v (Value.bool false))) else bif decide (@Nat.cast Int _ (List.length h.tr) > 512) then K (DV.c (D.v (Value.bool false))) else False else False) := by kernel_rfl
theorem bifP (p q : Bool) (x : DV) : (bif p then (DV.c (.v (.bool false)) = x) else (DV.c (.v (.bool q)) = x)) = (DV.c (.v (.bool (!p && q))) = x) := by cases p <;> rfl
theorem ZlX {P : Program} {l : List (FuncId × Spec)} {k : Nat} {c : Code} : Zau P (hkl l [(k, fun _ _ => False)]) c := fun b hb s hs Q x hq => by
  have hs' : Zc0 [(k, fun _ _ => False)] (Zby b) = some s := hs
  unfold Zc0 at hs'
  split at hs'
  · cases hs'; exact hq.elim
  · cases hs'
theorem ZbZ {h : Mh} {ss : List SesD} (hm : okM h ss = true) : okA h.w0 h.w1 h.w2 h.w3 = true ∧ okZ 4 h.tr = true ∧ okSS ss = true := by
  unfold okM at hm; simpa [Bool.and_eq_true] using hm
theorem Znp (h : Mh) (ss : List SesD) (hok : okM h ss = true) : CT Tryz.prog 26 [.agg (macL 0 h ss)] (B (mmay h ss)) := by
  obtain ⟨h1, h2, h3⟩ := ZbZ hok
  rcases ss with _ | ⟨s0, _ | ⟨s1, _ | ⟨s2, _ | ⟨s3, _ | ⟨s4, l⟩⟩⟩⟩⟩
  · refine ct_s (.cons ZjQ (.cons oCkM (.cons oMx (.cons Zox (.cons ZjF .nil))))) mixed Tryz.func26 rfl rfl rfl ?_
    rw [eMM0]
    refine ⟨?_⟩
    simp only [h1, h2, h3, cond_true, bifN, bifP, bifK, Bool.and_true, (by decide : Nat.ble 0 4 = true), Bool.true_and]
    unfold mmay clkB
    simp [Zdi, Bool.and_assoc]
  · refine ct_s (.cons ZjQ (.cons oCkM (.cons oMx (.cons Zox (.cons ZjF .nil))))) mixed Tryz.func26 rfl rfl rfl ?_
    rw [eMM1]
    refine ⟨?_⟩
    simp only [h1, h2, h3, cond_true, bifN, bifP, bifK, Bool.and_true, (by decide : Nat.ble 1 4 = true), Bool.true_and]
    unfold mmay clkB
    simp [Zdi, Bool.and_assoc]
  · refine ct_s (.cons ZjQ (.cons oCkM (.cons oMx (.cons Zox (.cons ZjF .nil))))) mixed Tryz.func26 rfl rfl rfl ?_
    rw [eMM2]
    refine ⟨?_⟩
    simp only [h1, h2, h3, cond_true, bifN, bifP, bifK, Bool.and_true, (by decide : Nat.ble 2 4 = true), Bool.true_and]
    unfold mmay clkB
    simp [Zdi, Bool.and_assoc]
  · refine ct_s (.cons ZjQ (.cons oCkM (.cons oMx (.cons Zox (.cons ZjF .nil))))) mixed Tryz.func26 rfl rfl rfl ?_
    rw [eMM3]
    refine ⟨?_⟩
    simp only [h1, h2, h3, cond_true, bifN, bifP, bifK, Bool.and_true, (by decide : Nat.ble 3 4 = true), Bool.true_and]
    unfold mmay clkB
    simp [Zdi, Bool.and_assoc]
  · refine ct_s (.cons ZjQ (.cons oCkM (.cons oMx (.cons Zox (.cons ZjF .nil))))) mixed Tryz.func26 rfl rfl rfl ?_
    rw [eMM4]
    refine ⟨?_⟩
    simp only [h1, h2, h3, cond_true, bifN, bifP, bifK, Bool.and_true, (by decide : Nat.ble 4 4 = true), Bool.true_and]
    unfold mmay clkB
    simp [Zdi, Bool.and_assoc]
  · refine Zjg (l := [(60, ZbX), (61, sCkM), (62, sMx)]) (m := [(4, fun _ _ => False)]) (.cons ZjQ (.cons oCkM (.cons oMx .nil))) mixed ZlX Tryz.func26 rfl rfl rfl ?_
    unfold macL
    rw [eMMB]
    refine ⟨?_⟩
    have h5 : decide (((List.map (sesL 0) (s0 :: s1 :: s2 :: s3 :: s4 :: l)).length : Int) > 4) = true := by simp; omega
    have h6 : decide (((s0 :: s1 :: s2 :: s3 :: s4 :: l).length : Int) > 4) = true := by simp; omega
    unfold mmay clkB
    simp only [h1, h5, h6, cond_true, bifN, bifP, Bool.not_true, Bool.false_and, Bool.not_not]
def ZpZ : Spec := fun ds Q => match ds with
  | [d] => macA d fun h ss => cond (okM h ss) (Q (B (mmay h ss))) False
  | _ => False
theorem Zsv : Zac Tryz.prog 26 ZpZ := o_al Tryz.func26 (by kernel_rfl) rfl fun ds Q h => by
  unfold ZpZ at h; split at h
  · obtain ⟨m, ss, h, r⟩ := ZbD h
    obtain ⟨h1, h2⟩ := Zaf h
    exact ⟨_, _, .cons r .nil, Znp m ss h1, rfl, rfl, h2⟩
  · exact h.elim
theorem eThe (h : Mh) (ss : List SesD) (at' : Int) (K : DV → Prop) : (ask Tryz.prog [(26, sAtD [.agg (macL 0 h ss)] (B (mmay h ss)))] Tryz.f52 [.c (.p 0 (macL 0 h ss) 0), I at'] K) = ([DV.agg (macL (0) h ss)] = [DV.agg (macL (0) h ss)] ∧ bif mmay h ss then bif decide (at' ≥ 0) then K (DV.c (D.v (Value.bool (decide (at' < @Nat.cast Int _ (List.length (List.map (sesL (0)) ss))))))) else K (DV.c (D.v (Value.bool false))) else K (DV.c (D.v (Value.bool false)))) := by kernel_rfl
def ZcX (h : Mh) (ss : List SesD) (i : Int) : Bool := mmay h ss && (decide (i ≥ 0) && decide (i < ss.length))
theorem Ztu : Goes Tryz.prog 26 := Zax Tryz.func26 (by kernel_rfl) rfl
theorem cThe (h : Mh) (ss : List SesD) (i : Int) (hok : okM h ss = true) : CT Tryz.prog 52 [.c (.p 0 (macL 0 h ss) 0), I i] (B (ZcX h ss i)) := by
  refine ct_s (.cons (oAtD Ztu (Znp h ss hok) rfl rfl) .nil) mixed Tryz.func52 rfl rfl rfl ?_
  rw [eThe]
  refine ⟨rfl, ?_⟩
  unfold ZcX
  rw [List.length_map]
  simp only [bifK]
end

section
open Go Go.Proofs
theorem ZcJ {h : Mh} {ss : List SesD} {i : Int} (hm : ZcX h ss i = true) : mmay h ss = true ∧ 0 ≤ i ∧ i < ss.length := by
  unfold ZcX at hm; simpa [Bool.and_eq_true] using hm
theorem Zfd {h : Mh} {ss : List SesD} (hm : mmay h ss = true) : ss.length ≤ 4 ∧ ∀ s ∈ ss, Zan h.w0 h.w1 h.w2 h.w3 s = true := by
  unfold mmay at hm
  simp only [Bool.and_eq_true, Bool.not_eq_true', decide_eq_false_iff_not, List.all_eq_true] at hm
  exact ⟨by omega, hm.2.2.2.2.2.2.1⟩
theorem Zoe {h : Mh} {ss : List SesD} {i : Int} (hok : okM h ss = true) (hm : ZcX h ss i = true) : ∃ s, ss[i.toNat]? = some s ∧ ZaF s = true ∧ Zan h.w0 h.w1 h.w2 h.w3 s = true := by
  obtain ⟨g0, g1, g2⟩ := ZcJ hm
  have hl : i.toNat < ss.length := by omega
  have hmem : ss[i.toNat] ∈ ss := List.getElem_mem hl
  exact ⟨ss[i.toNat], List.getElem?_eq_getElem hl, List.all_eq_true.1 (ZbZ hok).2.2 _ hmem, (Zfd g0).2 _ hmem⟩
end

section
open Go Go.Proofs
def kX (R : List (List D)) : Bool := decide (List.length R ≤ List.length (R ++ [])) && List.all (R ++ []) fun r => List.all r D.keeps
def tC (R : List (List D)) : List (List D) := List.take (List.length R) (R ++ [])
def tD (R : List (List D)) : List (List D) := List.take (List.length R + 0 - List.length R) (List.drop (List.length R) (R ++ []))
def sTt (s : SesD) : List D := [vN s.id, vN s.lb, vN s.cl, .s 1 4 (tC s.pg) (tD s.pg), vN s.st, vN s.pc, vN s.r0, vN s.r1, vN s.r2, vN s.r3, .s 1 3 (tC s.rd) (tD s.rd), .s 1 3 (tC s.wt) (tD s.wt), vN s.at', vN s.sp, vN s.tr, vN s.rs, vN s.to]
theorem ZuS (s : SesD) (K : DV → Prop) : (ask Tryz.prog [(90, ZcU), (149, ZdE), (137, Zdh)] Tryz.f96 [.agg (sesL 0 s)] K) = (bif allV s.pg && decide (List.length s.pg ≤ 4398046510977) then bif allV s.rd && decide (List.length s.rd ≤ 5864062014635) then bif allV s.wt && decide (List.length s.wt ≤ 5864062014635) then bif kX s.pg then bif kX s.rd then bif kX s.wt then K (DV.agg (sTt s)) else False else False else False else False else False else False) := by kernel_rfl
def smR (n : Nat) (R : List (List D)) : Bool := allV R && decide (R.length ≤ n)
def smS (s : SesD) : Bool := smR 4398046510977 s.pg && (smR 5864062014635 s.rd && smR 5864062014635 s.wt)
def smM (h : Mh) (ss : List SesD) : Bool := okC4 h.w0 h.w1 h.w2 h.w3 && (smR 4398046510977 h.tr && ss.all smS)
theorem Zab {n : Nat} {R : List (List D)} (h : smR n R = true) : allV R = true ∧ R.length ≤ n ∧ (R.all fun r => r.all D.keeps) = true := by
  unfold smR at h
  simp only [Bool.and_eq_true, decide_eq_true_eq] at h
  exact ⟨h.1, h.2, ZaE h.1⟩
theorem Zef {n z m : Nat} {R : List (List D)} (h : okZ z R = true) (hl : R.length ≤ m) (hm : m ≤ n) : smR n R = true := by
  unfold smR
  rw [ZaR h, decide_eq_true (by omega : R.length ≤ n)]; rfl
theorem ZaD {s : SesD} (h : smS s = true) : smR 4398046510977 s.pg = true ∧ smR 5864062014635 s.rd = true ∧ smR 5864062014635 s.wt = true := by
  unfold smS at h; simpa [Bool.and_eq_true] using h
theorem ZbT (R : List (List D)) : List.take R.length R = R := List.take_length
theorem Zfj {s : SesD} (h : smS s = true) : ownL (sesL 1 s) = true := by
  obtain ⟨h1, h2, h3⟩ := ZaD h
  simp only [sesL, ownL, D.pureOwn, ZaO (Zab h1).1, ZaO (Zab h2).1, ZaO (Zab h3).1, Zd8]; rfl
theorem Ztx (s : SesD) (hs : smS s = true) : CT Tryz.prog 96 [.agg (sesL 0 s)] (.agg (sesL 1 s)) := by
  obtain ⟨h1, h2, h3⟩ := ZaD hs
  obtain ⟨a1, a2, a3⟩ := Zab h1
  obtain ⟨b1, b2, b3⟩ := Zab h2
  obtain ⟨c1, c2, c3⟩ := Zab h3
  refine ct_s (.cons ZdP (.cons Zkd (.cons ZiI .nil))) mixed Tryz.func96 rfl rfl rfl ?_
  rw [ZuS]
  refine ⟨?_⟩
  simp only [kX, tC, tD, sTt]
  simp only [a1, a2, a3, b1, b2, b3, c1, c2, c3, List.append_nil, Nat.le_refl, decide_true, Bool.and_self, cond_true, ZbT, Nat.add_zero, Nat.sub_self, List.take_zero]
  rfl
def Zee : Spec := fun ds Q => match ds with
  | [d] => sesA d fun s => cond (smS s) (Q (.agg (sesL 1 s))) False
  | _ => False
theorem ZoT : Zac Tryz.prog 96 Zee := o_al Tryz.func96 (by kernel_rfl) rfl fun ds Q h => by
  unfold Zee at h; split at h
  · obtain ⟨s, h, r⟩ := ZbQ h
    obtain ⟨h1, h2⟩ := Zaf h
    exact ⟨_, _, .cons r .nil, Ztx s h1, Zfj h1, rfl, h2⟩
  · exact h.elim
theorem Zuk (K : DV → Prop) : (ask Tryz.prog [] Tryz.f94 [.c (.s 0 17 ([].map (sesL 0)) [])] K) = (K (DV.c (D.s (1) (17) [] [])) ∧ K (DV.c (D.s (1) (17) [] []))) := by kernel_rfl
theorem Zun (s0 : SesD) (K : DV → Prop) : (ask Tryz.prog [] Tryz.f94 [.c (.s 0 17 ([s0].map (sesL 0)) [])] K) = (True ∧ K (DV.c (D.s (1) (17) [(sesL (0) s0)] []))) := by kernel_rfl
theorem Zt3 (s0 s1 : SesD) (K : DV → Prop) : (ask Tryz.prog [] Tryz.f94 [.c (.s 0 17 ([s0, s1].map (sesL 0)) [])] K) = (True ∧ K (DV.c (D.s (1) (17) [(sesL (0) s0), (sesL (0) s1)] []))) := by kernel_rfl
theorem ZtX (s0 s1 s2 : SesD) (K : DV → Prop) : (ask Tryz.prog [] Tryz.f94 [.c (.s 0 17 ([s0, s1, s2].map (sesL 0)) [])] K) = (True ∧ K (DV.c (D.s (1) (17) [(sesL (0) s0), (sesL (0) s1), (sesL (0) s2)] []))) := by kernel_rfl
theorem Zua (s0 s1 s2 s3 : SesD) (K : DV → Prop) : (ask Tryz.prog [] Tryz.f94 [.c (.s 0 17 ([s0, s1, s2, s3].map (sesL 0)) [])] K) = (True ∧ K (DV.c (D.s (1) (17) [(sesL (0) s0), (sesL (0) s1), (sesL (0) s2), (sesL (0) s3)] []))) := by kernel_rfl
theorem cClS (ss : List SesD) (hl : ss.length ≤ 4) : CT Tryz.prog 94 [.c (.s 0 17 (ss.map (sesL 0)) [])] (.c (.s 1 17 (ss.map (sesL 0)) [])) := by
  rcases ss with _ | ⟨s0, _ | ⟨s1, _ | ⟨s2, _ | ⟨s3, _ | ⟨s4, l⟩⟩⟩⟩⟩
  · refine ct_s .nil mixed Tryz.func94 rfl rfl rfl ?_
    rw [Zuk]
    exact ⟨⟨rfl, rfl⟩⟩
  · refine ct_s .nil mixed Tryz.func94 rfl rfl rfl ?_
    rw [Zun]
    exact ⟨⟨trivial, rfl⟩⟩
  · refine ct_s .nil mixed Tryz.func94 rfl rfl rfl ?_
    rw [Zt3]
    exact ⟨⟨trivial, rfl⟩⟩
  · refine ct_s .nil mixed Tryz.func94 rfl rfl rfl ?_
    rw [ZtX]
    exact ⟨⟨trivial, rfl⟩⟩
  · refine ct_s .nil mixed Tryz.func94 rfl rfl rfl ?_
    rw [Zua]
    exact ⟨⟨trivial, rfl⟩⟩
  · simp at hl
def sClS : Spec := fun ds Q => match ds with
  | [.c d] => cond d.isOwn False (Zlx d fun ss => cond (Nat.ble ss.length 4) (Q (.c (.s 1 17 (ss.map (sesL 0)) []))) False)
  | _ => False
theorem oClS : Zj4 Tryz.prog 94 sClS := fun ds Q h => by
  refine ⟨Zax Tryz.func94 (by kernel_rfl) rfl, ?_⟩
  unfold sClS at h; split at h
  · rename_i d
    cases hd : d.isOwn with
    | true => rw [hd] at h; exact h.elim
    | false =>
      rw [hd] at h
      obtain ⟨ss, h, r⟩ := Zdz h
      obtain ⟨h1, h2⟩ := Zaf h
      exact ⟨_, (cClS ss (Nat.le_of_ble_eq_true h1)).args (.cons (.c r hd rfl) .nil), rfl, h2⟩
  · exact h.elim
theorem ZuI (h : Mh) (K : DV → Prop) : (askH Tryz.prog (hkM [(93, Zcm), (95, Zbg), (96, Zee)] [(94, sClS)] []) Tryz.f53 [.agg (macL 0 h [])] K) = (bif okC4 h.w0 h.w1 h.w2 h.w3 then bif allV h.tr && decide (List.length h.tr ≤ 4398046510977) then bif kX h.w0 then bif kX h.w1 then bif kX h.w2 then bif kX h.w3 then bif kX h.tr then K (DV.agg [D.s (1) (3) (tC h.w0) (tD h.w0), D.s (1) (3) (tC h.w1) (tD h.w1), D.s (1) (3) (tC h.w2) (tD h.w2), D.s (1) (3) (tC h.w3) (tD h.w3), vN h.c0, vN h.c1, vN h.c2, vN h.c3, vN h.ce, D.s (1) (17) [] [], D.s (1) (4) (tC h.tr) (tD h.tr)]) else False else False else False else False else False else False else False) := by kernel_rfl
theorem Zux (h : Mh) (s0 : SesD) (K : DV → Prop) : (askH Tryz.prog (hkM [(93, Zcm), (95, Zbg), (96, Zee)] [(94, sClS)] []) Tryz.f53 [.agg (macL 0 h [s0])] K) = (bif okC4 h.w0 h.w1 h.w2 h.w3 then bif allV h.tr && decide (List.length h.tr ≤ 4398046510977) then bif smS s0 then bif kX h.w0 then bif kX h.w1 then bif kX h.w2 then bif kX h.w3 then bif kX s0.pg then bif kX s0.rd then bif kX s0.wt then bif kX h.tr then K (DV.agg [D.s (1) (3) (tC h.w0) (tD h.w0), D.s (1) (3) (tC h.w1) (tD h.w1), D.s (1) (3) (tC h.w2) (tD h.w2), D.s (1) (3) (tC h.w3) (tD h.w3), vN h.c0, vN h.c1, vN h.c2, vN h.c3, vN h.ce, D.s (1) (17) [(sTt s0)] [], D.s (1) (4) (tC h.tr) (tD h.tr)]) else False else False else False else False else False else False else False else False else False else False else False) := by kernel_rfl
theorem ZtF (h : Mh) (s0 s1 : SesD) (K : DV → Prop) : (askH Tryz.prog (hkM [(93, Zcm), (95, Zbg), (96, Zee)] [(94, sClS)] []) Tryz.f53 [.agg (macL 0 h [s0, s1])] K) = (bif okC4 h.w0 h.w1 h.w2 h.w3 then bif allV h.tr && decide (List.length h.tr ≤ 4398046510977) then bif smS s0 then bif smS s1 then bif kX h.w0 then bif kX h.w1 then bif kX h.w2 then bif kX h.w3 then bif kX s0.pg then bif kX s0.rd then bif kX s0.wt then bif kX s1.pg then bif kX s1.rd then bif kX s1.wt then bif kX h.tr then K (DV.agg [D.s (1) (3) (tC h.w0) (tD h.w0), D.s (1) (3) (tC h.w1) (tD h.w1), D.s (1) (3) (tC h.w2) (tD h.w2), D.s (1) (3) (tC h.w3) (tD h.w3), vN h.c0, vN h.c1, vN h.c2, vN h.c3, vN h.ce, D.s (1) (17) [(sTt s0), (sTt s1)] [], D.s (1) (4) (tC h.tr) (tD h.tr)]) else False else False else False else False else False else False else False else False else False else False else False else False else False else False else False) := by kernel_rfl
theorem Zt2 (h : Mh) (s0 s1 s2 : SesD) (K : DV → Prop) : (askH Tryz.prog (hkM [(93, Zcm), (95, Zbg), (96, Zee)] [(94, sClS)] []) Tryz.f53 [.agg (macL 0 h [s0, s1, s2])] K) = (bif okC4 h.w0 h.w1 h.w2 h.w3 then bif allV h.tr && decide (List.length h.tr ≤ 4398046510977) then bif smS s0 then bif smS s1 then bif smS s2 then bif kX h.w0 then bif kX h.w1 then bif kX h.w2 then bif kX h.w3 then bif kX s0.pg then bif kX s0.rd then bif kX s0.wt then bif kX s1.pg then bif kX s1.rd then bif kX s1.wt then bif kX s2.pg then bif kX s2.rd then bif kX s2.wt then bif kX h.tr then K (DV.agg [D.s (1) (3) (tC h.w0) (tD h.w0), D.s (1) (3) (tC h.w1) (tD h.w1), D.s (1) (3) (tC h.w2) (tD h.w2), D.s (1) (3) (tC h.w3) (tD h.w3), vN h.c0, vN h.c1, vN h.c2, vN h.c3, vN h.ce, D.s (1) (17) [(sTt s0), (sTt s1), (sTt s2)] [], D.s (1) (4) (tC h.tr) (tD h.tr)]) else False else False else False else False else False else False else False else False else False else False else False else False else False else False else False else False else False else False else False) := by kernel_rfl
theorem ZuL (h : Mh) (s0 s1 s2 s3 : SesD) (K : DV → Prop) : (askH Tryz.prog (hkM [(93, Zcm), (95, Zbg), (96, Zee)] [(94, sClS)] []) Tryz.f53 [.agg (macL 0 h [s0, s1, s2, s3])] K) = (bif okC4 h.w0 h.w1 h.w2 h.w3 then bif allV h.tr && decide (List.length h.tr ≤ 4398046510977) then bif smS s0 then bif smS s1 then bif smS s2 then bif smS s3 then bif kX h.w0 then bif kX h.w1 then bif kX h.w2 then bif kX h.w3 then bif kX s0.pg then bif kX s0.rd then bif kX s0.wt then bif kX s1.pg then bif kX s1.rd then bif kX s1.wt then bif kX s2.pg then bif kX s2.rd then bif kX s2.wt then bif kX s3.pg then bif kX s3.rd then bif kX s3.wt then bif kX h.tr then K (DV.agg [D.s (1) (3) (tC h.w0) (tD h.w0), D.s (1) (3) (tC h.w1) (tD h.w1), D.s (1) (3) (tC h.w2) (tD h.w2), D.s (1) (3) (tC h.w3) (tD h.w3), vN h.c0, vN h.c1, vN h.c2, vN h.c3, vN h.ce, D.s (1) (17) [(sTt s0), (sTt s1), (sTt s2), (sTt s3)] [], D.s (1) (4) (tC h.tr) (tD h.tr)]) else False else False else False else False else False else False else False else False else False else False else False else False else False else False else False else False else False else False else False else False else False else False else False) := by kernel_rfl
theorem Zec {h : Mh} {ss : List SesD} (hm : smM h ss = true) : (smR 5864062014635 h.w0 = true ∧ smR 5864062014635 h.w1 = true ∧ smR 5864062014635 h.w2 = true ∧ smR 5864062014635 h.w3 = true) ∧ smR 4398046510977 h.tr = true ∧ ∀ s ∈ ss, smS s = true := by
  unfold smM okC4 okC at hm
  simp only [Bool.and_eq_true, List.all_eq_true] at hm
  unfold smR
  simp only [Bool.and_eq_true]
  refine ⟨⟨hm.1.1, hm.1.2.1, hm.1.2.2.1, hm.1.2.2.2⟩, ?_, hm.2.2⟩
  have := hm.2.1
  unfold smR at this
  rw [Bool.and_eq_true] at this
  exact this
theorem Zqe {h : Mh} {ss : List SesD} (hm : smM h ss = true) : okC4 h.w0 h.w1 h.w2 h.w3 = true := by unfold smM at hm; rw [Bool.and_eq_true] at hm; exact hm.1
theorem ZhO {h : Mh} {ss : List SesD} (hm : smM h ss = true) : ownL (macL 1 h ss) = true := by
  obtain ⟨⟨a0, a1, a2, a3⟩, a4, a5⟩ := Zec hm
  have h6 : Zd8 (ss.map (sesL 1)) = true := by
    clear hm
    induction ss with
    | nil => rfl
    | cons s l ih => simp only [List.map_cons, Zd8, Zfj (a5 s (by simp)), ih fun q hq => a5 q (by simp [hq])]; rfl
  simp only [macL, ownL, D.pureOwn, ZaO (Zab a0).1, ZaO (Zab a1).1, ZaO (Zab a2).1, ZaO (Zab a3).1, ZaO (Zab a4).1, h6, Zd8]; rfl
theorem cCop (h : Mh) (ss : List SesD) (hl : ss.length ≤ 4) (hm : smM h ss = true) : CT Tryz.prog 53 [.agg (macL 0 h ss)] (.agg (macL 1 h ss)) := by
  have h4 := Zqe hm
  obtain ⟨⟨a0, a1, a2, a3⟩, a4, a5⟩ := Zec hm
  obtain ⟨_, _, b0⟩ := Zab a0
  obtain ⟨_, _, b1⟩ := Zab a1
  obtain ⟨_, _, b2⟩ := Zab a2
  obtain ⟨_, _, b3⟩ := Zab a3
  obtain ⟨t1, t2, t3⟩ := Zab a4
  rcases ss with _ | ⟨s0, _ | ⟨s1, _ | ⟨s2, _ | ⟨s3, _ | ⟨s4, l⟩⟩⟩⟩⟩
  · refine ct_m (.cons ZiP (.cons ZbR (.cons ZoT .nil))) (.cons oClS .nil) .nil mixed Tryz.func53 rfl rfl rfl ?_
    rw [ZuI]
    refine ⟨?_⟩
    simp only [kX, tC, tD, sTt]
    simp only [h4, b0, b1, b2, b3, t1, t2, t3, List.append_nil, Nat.le_refl, decide_true, Bool.and_self, cond_true, ZbT, Nat.add_zero, Nat.sub_self, List.take_zero]
    rfl
  · have q0 := a5 s0 (by simp)
    obtain ⟨p0, r0, w0⟩ := ZaD q0
    obtain ⟨_, _, x0⟩ := Zab p0
    obtain ⟨_, _, y0⟩ := Zab r0
    obtain ⟨_, _, z0⟩ := Zab w0
    refine ct_m (.cons ZiP (.cons ZbR (.cons ZoT .nil))) (.cons oClS .nil) .nil mixed Tryz.func53 rfl rfl rfl ?_
    rw [Zux]
    refine ⟨?_⟩
    simp only [kX, tC, tD, sTt]
    simp only [h4, b0, b1, b2, b3, t1, t2, t3, q0, x0, y0, z0, List.append_nil, Nat.le_refl, decide_true, Bool.and_self, cond_true, ZbT, Nat.add_zero, Nat.sub_self, List.take_zero]
    rfl
  · have q0 := a5 s0 (by simp)
    obtain ⟨p0, r0, w0⟩ := ZaD q0
    obtain ⟨_, _, x0⟩ := Zab p0
    obtain ⟨_, _, y0⟩ := Zab r0
    obtain ⟨_, _, z0⟩ := Zab w0
    have q1 := a5 s1 (by simp)
    obtain ⟨p1, r1, w1⟩ := ZaD q1
    obtain ⟨_, _, x1⟩ := Zab p1
    obtain ⟨_, _, y1⟩ := Zab r1
    obtain ⟨_, _, z1⟩ := Zab w1
    refine ct_m (.cons ZiP (.cons ZbR (.cons ZoT .nil))) (.cons oClS .nil) .nil mixed Tryz.func53 rfl rfl rfl ?_
    rw [ZtF]
    refine ⟨?_⟩
    simp only [kX, tC, tD, sTt]
    simp only [h4, b0, b1, b2, b3, t1, t2, t3, q0, x0, y0, z0, q1, x1, y1, z1, List.append_nil, Nat.le_refl, decide_true, Bool.and_self, cond_true, ZbT, Nat.add_zero, Nat.sub_self, List.take_zero]
    rfl
  · have q0 := a5 s0 (by simp)
    obtain ⟨p0, r0, w0⟩ := ZaD q0
    obtain ⟨_, _, x0⟩ := Zab p0
    obtain ⟨_, _, y0⟩ := Zab r0
    obtain ⟨_, _, z0⟩ := Zab w0
    have q1 := a5 s1 (by simp)
    obtain ⟨p1, r1, w1⟩ := ZaD q1
    obtain ⟨_, _, x1⟩ := Zab p1
    obtain ⟨_, _, y1⟩ := Zab r1
    obtain ⟨_, _, z1⟩ := Zab w1
    have q2 := a5 s2 (by simp)
    obtain ⟨p2, r2, w2⟩ := ZaD q2
    obtain ⟨_, _, x2⟩ := Zab p2
    obtain ⟨_, _, y2⟩ := Zab r2
    obtain ⟨_, _, z2⟩ := Zab w2
    refine ct_m (.cons ZiP (.cons ZbR (.cons ZoT .nil))) (.cons oClS .nil) .nil mixed Tryz.func53 rfl rfl rfl ?_
    rw [Zt2]
    refine ⟨?_⟩
    simp only [kX, tC, tD, sTt]
    simp only [h4, b0, b1, b2, b3, t1, t2, t3, q0, x0, y0, z0, q1, x1, y1, z1, q2, x2, y2, z2, List.append_nil, Nat.le_refl, decide_true, Bool.and_self, cond_true, ZbT, Nat.add_zero, Nat.sub_self, List.take_zero]
    rfl
  · have q0 := a5 s0 (by simp)
    obtain ⟨p0, r0, w0⟩ := ZaD q0
    obtain ⟨_, _, x0⟩ := Zab p0
    obtain ⟨_, _, y0⟩ := Zab r0
    obtain ⟨_, _, z0⟩ := Zab w0
    have q1 := a5 s1 (by simp)
    obtain ⟨p1, r1, w1⟩ := ZaD q1
    obtain ⟨_, _, x1⟩ := Zab p1
    obtain ⟨_, _, y1⟩ := Zab r1
    obtain ⟨_, _, z1⟩ := Zab w1
    have q2 := a5 s2 (by simp)
    obtain ⟨p2, r2, w2⟩ := ZaD q2
    obtain ⟨_, _, x2⟩ := Zab p2
    obtain ⟨_, _, y2⟩ := Zab r2
    obtain ⟨_, _, z2⟩ := Zab w2
    have q3 := a5 s3 (by simp)
    obtain ⟨p3, r3, w3⟩ := ZaD q3
    obtain ⟨_, _, x3⟩ := Zab p3
    obtain ⟨_, _, y3⟩ := Zab r3
    obtain ⟨_, _, z3⟩ := Zab w3
    refine ct_m (.cons ZiP (.cons ZbR (.cons ZoT .nil))) (.cons oClS .nil) .nil mixed Tryz.func53 rfl rfl rfl ?_
    rw [ZuL]
    refine ⟨?_⟩
    simp only [kX, tC, tD, sTt]
    simp only [h4, b0, b1, b2, b3, t1, t2, t3, q0, x0, y0, z0, q1, x1, y1, z1, q2, x2, y2, z2, q3, x3, y3, z3, List.append_nil, Nat.le_refl, decide_true, Bool.and_self, cond_true, ZbT, Nat.add_zero, Nat.sub_self, List.take_zero]
    rfl
  · simp at hl
def sCop : Spec := fun ds Q => match ds with
  | [d] => macA d fun h ss => cond (Nat.ble ss.length 4 && smM h ss) (Q (.agg (macL 1 h ss))) False
  | _ => False
def Ztd : Inl := inlM Tryz.prog [] [] [] Tryz.f54
theorem Zpv : Zbl Tryz.prog 54 Ztd := Za9 .nil .nil .nil mixed Tryz.func54 rfl (Zax Tryz.func54 (by kernel_rfl) rfl)
end

section
open Go Go.Proofs
instance : Inhabited SesD := ⟨⟨0, 0, 0, [], 0, 0, 0, 0, 0, 0, [], [], 0, 0, 0, 0, 0⟩⟩
theorem Zpn {l : List (List Int)} (h : pmay l = true) : l.length ≤ 16 := by unfold pmay at h; simp only [Bool.and_eq_true, decide_eq_true_eq] at h; exact h.2
theorem Zo5 {l : List (List Int)} (h : rmay l = true) : l.length ≤ 16 := by unfold rmay at h; simp only [Bool.and_eq_true, decide_eq_true_eq] at h; exact h.1
theorem Zni {l : List (List Int)} (h : Zft l = true) : l.length ≤ 16 := by unfold Zft at h; simp only [Bool.and_eq_true, decide_eq_true_eq] at h; exact h.1
theorem Zdr {l : List (List Int)} (h : ZaC l = true) : l.length ≤ 4 := by
  unfold ZaC at h
  simp only [Bool.not_eq_true', Bool.or_eq_false_iff, decide_eq_false_iff_not] at h
  omega
theorem ZoK {R0 R1 R2 R3 : List (List D)} {s : SesD} (hs : ZaF s = true) (h : Zan R0 R1 R2 R3 s = true) : smS s = true := by
  unfold Zan Zl4 smay at h
  simp only [Bool.and_eq_true] at h
  unfold ZaF at hs
  simp only [Bool.and_eq_true] at hs
  have a1 := Zpn h.1.2.2.2.2
  have a2 := Zo5 h.2.1.1
  have a3 := Zni h.2.1.2.1
  rw [Zat] at a1 a2 a3
  unfold smS
  rw [Zef hs.1 a1 (by omega), Zef hs.2.1 a2 (by omega), Zef hs.2.2 a3 (by omega)]; rfl
theorem ZhQ {h : Mh} {ss : List SesD} (ho : okM h ss = true) (hm : mmay h ss = true) : smM h ss = true := by
  obtain ⟨h1, h2, h3⟩ := ZbZ ho
  obtain ⟨_, g5⟩ := Zfd hm
  unfold mmay amay at hm
  simp only [Bool.and_eq_true, Bool.not_eq_true', decide_eq_false_iff_not] at hm
  obtain ⟨⟨a0, a1, a2, a3⟩, _, _, _, htr, _⟩ := hm
  unfold okA at h1
  simp only [Bool.and_eq_true] at h1
  have l0 := Zdr a0
  have l1 := Zdr a1
  have l2 := Zdr a2
  have l3 := Zdr a3
  rw [Zat] at l0 l1 l2 l3
  have e0 : okC h.w0 = true := Zef (n := 5864062014635) h1.1 l0 (by omega)
  have e1 : okC h.w1 = true := Zef (n := 5864062014635) h1.2.1 l1 (by omega)
  have e2 : okC h.w2 = true := Zef (n := 5864062014635) h1.2.2.1 l2 (by omega)
  have e3 : okC h.w3 = true := Zef (n := 5864062014635) h1.2.2.2 l3 (by omega)
  unfold smM okC4
  rw [e0, e1, e2, e3, Zef (n := 4398046510977) (m := 512) h2 (by omega) (by omega)]
  simp only [Bool.and_self, Bool.true_and, List.all_eq_true]
  intro s hs
  exact ZoK (List.all_eq_true.1 h3 s hs) (g5 s hs)
def evD (s : SesD) (k v : Int) : List D := [vN s.id, vN s.lb, vN k, vN v]
def ZoN (h : Mh) (s : SesD) (k v : Int) : Mh := { h with tr := bif decide ((h.tr.length : Int) < 512) then h.tr ++ [evD s k v] else h.tr }
def Zhf (h : Mh) (ss : List SesD) (i k : Int) : Bool := ZcX h ss i && (!decide (k < 0) && !decide (k > 6))
abbrev macE (e : Int) : DV := .tup [.agg (macL 1 h0 []), I e]
abbrev macR (h : Mh) (ss : List SesD) (e : Int) : DV := .tup [.agg (macL 1 h ss), I e]
theorem Zp6 {h : Mh} {ss : List SesD} (hm : smM h ss = true) : ((h.w0.all fun r => r.all D.keeps) = true ∧ (h.w1.all fun r => r.all D.keeps) = true ∧ (h.w2.all fun r => r.all D.keeps) = true ∧ (h.w3.all fun r => r.all D.keeps) = true) ∧ (h.tr.all fun r => r.all D.keeps) = true ∧ ∀ s ∈ ss, (s.pg.all fun r => r.all D.keeps) = true ∧ (s.rd.all fun r => r.all D.keeps) = true ∧ (s.wt.all fun r => r.all D.keeps) = true := by
  obtain ⟨⟨a0, a1, a2, a3⟩, a4, a5⟩ := Zec hm
  exact ⟨⟨(Zab a0).2.2, (Zab a1).2.2, (Zab a2).2.2, (Zab a3).2.2⟩, (Zab a4).2.2, fun s hs => by
    obtain ⟨p, r, w⟩ := ZaD (a5 s hs)
    exact ⟨(Zab p).2.2, (Zab r).2.2, (Zab w).2.2⟩⟩
structure Foc (h : Mh) (ss : List SesD) (i : Int) (s : SesD) : Prop where
  at' : ss[i.toNat]? = some s
  ok : ZaF s = true
  may : Zan h.w0 h.w1 h.w2 h.w3 s = true
  lt : i.toNat < ss.length
  i0 : 0 ≤ i
  i1 : i < ss.length
  sm : smM h ss = true
  len : ss.length ≤ 4
  mm : mmay h ss = true
  w0 : allK h.w0 = true
  w1 : allK h.w1 = true
  w2 : allK h.w2 = true
  w3 : allK h.w3 = true
  tr : allK h.tr = true
  tl : h.tr.length ≤ 512
theorem foc {h : Mh} {ss : List SesD} {i : Int} (hok : okM h ss = true) (hm : ZcX h ss i = true) : ∃ s, Foc h ss i s := by
  obtain ⟨s, h1, h2, h3⟩ := Zoe hok hm
  obtain ⟨g0, g1, g2⟩ := ZcJ hm
  have hsm := ZhQ hok g0
  obtain ⟨⟨b0, b1, b2, b3⟩, t3, _⟩ := Zp6 hsm
  refine ⟨s, h1, h2, h3, by omega, g1, g2, hsm, (Zfd g0).1, g0, b0, b1, b2, b3, t3, ?_⟩
  unfold mmay at g0
  simp only [Bool.and_eq_true, Bool.not_eq_true', decide_eq_false_iff_not] at g0
  omega
theorem Foc.getD {h : Mh} {ss : List SesD} {i : Int} {s : SesD} (f : Foc h ss i s) : ss.getD i.toNat default = s := by
  rw [List.getD_eq_getElem?_getD, f.at']; rfl
theorem Foc.foAt {h : Mh} {ss : List SesD} {i : Int} {s : SesD} (f : Foc h ss i s) : Vm.foAt (addN 0 i.toNat) i.toNat (List.length (List.map (sesL 1) ss)) := ZpH.2 ⟨rfl, by rw [List.length_map]; exact f.lt⟩
theorem Foc.ix {h : Mh} {ss : List SesD} {i : Int} {s : SesD} (f : Foc h ss i s) : (decide (0 ≤ i) && decide (i < @Nat.cast Int _ (List.length (List.map (sesL 1) ss)))) = true := by
  rw [List.length_map, decide_eq_true f.i0, decide_eq_true f.i1]; rfl
theorem Foc.row {h : Mh} {ss : List SesD} {i : Int} {s : SesD} (f : Foc h ss i s) : ZgC (List.map (sesL 1) ss) (Int.toNat i) 1 s := Zga f.at'
theorem Foc.ow0 {h : Mh} {ss : List SesD} {i : Int} {s : SesD} (f : Foc h ss i s) : whole h.w0.length h.w0 := Zb4 f.w0
theorem Foc.ow1 {h : Mh} {ss : List SesD} {i : Int} {s : SesD} (f : Foc h ss i s) : whole h.w1.length h.w1 := Zb4 f.w1
theorem Foc.ow2 {h : Mh} {ss : List SesD} {i : Int} {s : SesD} (f : Foc h ss i s) : whole h.w2.length h.w2 := Zb4 f.w2
theorem Foc.ow3 {h : Mh} {ss : List SesD} {i : Int} {s : SesD} (f : Foc h ss i s) : whole h.w3.length h.w3 := Zb4 f.w3
theorem Foc.otr {h : Mh} {ss : List SesD} {i : Int} {s : SesD} (f : Foc h ss i s) : whole h.tr.length h.tr := Zb4 f.tr
theorem Foc.oss {h : Mh} {ss : List SesD} {i : Int} {s : SesD} (f : Foc h ss i s) (j : Nat) (s' : SesD) : whole (List.length (List.map (sesL 1) ss)) (List.set (List.map (sesL 1) ss) j (sesL 1 s')) := Znv (List.length_map _)
theorem Foc.set {h : Mh} {ss : List SesD} {i : Int} {s : SesD} (f : Foc h ss i s) : List.set ss i.toNat s = ss := Zjf _ _ _ f.at'
theorem ZnM {R : List (List D)} {r : List D} (h : allK R = true) (hr : r.all D.keeps = true) : whole (R.length + 1) (List.take R.length R ++ [r]) := by
  rw [List.take_length]
  refine ⟨by simp, ?_⟩
  unfold allK at *
  rw [List.all_append, h]; simp [hr]
theorem ZnO (h : Mh) (ss : List SesD) (j : Nat) (s : SesD) (e : Int) : AL (.tup [.agg (Zgx 1 h (List.set (List.map (sesL 1) ss) j (sesL 1 s))), I e]) (macR h (ss.set j s) e) := by
  rw [Zon, Zp0]; exact AL.refl _
theorem Zjv (e : Int) : AL (.tup [.agg mac0, I e]) (macE e) := Zto e
theorem gCop : Goes Tryz.prog 53 := Zax Tryz.func53 (by kernel_rfl) rfl
theorem gThe : Goes Tryz.prog 52 := Zax Tryz.func52 (by kernel_rfl) rfl
def iCpF (t : Bool) (h : Mh) (ss : List SesD) (i : Int) (s : SesD) : Inl := Zo0 Tryz.prog [34] (sIf t (sAtD [.agg (macL 0 h ss)] (.agg (macL 1 h ss)))) (matF i.toNat s)
theorem ZqS {h : Mh} {ss : List SesD} (hm : smM h ss = true) : (DV.agg (macL 1 h ss)).pureOwn = true := ZhO hm
theorem Zqy {t : Bool} {h : Mh} {ss : List SesD} (i : Int) (s : SesD) (hl : t = true → smM h ss = true ∧ ss.length ≤ 4) : Zbl Tryz.prog 53 (iCpF t h ss i s) :=
  Zlf (Zre _ _) (oIf fun ht => oAtD gCop (cCop h ss (hl ht).2 (hl ht).1) (ZqS (hl ht).1) rfl)
theorem eTel (h : Mh) (ss : List SesD) (s : SesD) (i k v : Int) (t : Bool) (K : DV → Prop) : (askW Tryz.prog (hkF [(52, sAtD [.c (.p 0 (macL 0 h ss) 0), I i] (B t))] [] [(53, iCpF t h ss i s), (54, Ztd)]) Tryz.f22 [.agg (macL 0 h ss), I i, I k, I v] K) = ([DV.c (D.p (0) (macL (0) h ss) (0)), I i] = [DV.c (D.p (0) (macL (0) h ss) (0)), I i] ∧ bif !t then K (DV.tup [DV.agg mac0, I (1200)]) else bif decide (k < 0) then K (DV.tup [DV.agg mac0, I (1200)]) else bif decide (k > 6) then K (DV.tup [DV.agg mac0, I (1200)]) else t = true ∧ [DV.agg (macL (0) h ss)] = [DV.agg (macL (0) h ss)] ∧ ZgC (List.map (sesL (1)) ss) (Int.toNat i) (1) s ∧ bif decide (@Nat.cast Int _ (List.length h.tr) < 512) then bif decide (0 ≤ i) && decide (i < @Nat.cast Int _ (List.length (List.map (sesL (1)) ss))) then foAt (addN (0) (Int.toNat i)) (Int.toNat i) (List.length (List.map (sesL (1)) ss)) ∧ foAt (addN (0) (Int.toNat i)) (Int.toNat i) (List.length (List.map (sesL (1)) ss)) ∧ bif decide (List.length h.tr ≤ List.length h.tr) && (decide ((List.length h.tr + 1) * 32 ≤ 140737488355328) && decide (List.length h.tr + 1 ≤ 9223372036854775807)) then whole (List.length h.w0) h.w0 ∧ whole (List.length h.w1) h.w1 ∧ whole (List.length h.w2) h.w2 ∧ whole (List.length h.w3) h.w3 ∧ whole (List.length (List.map (sesL (1)) ss)) (List.set (List.map (sesL (1)) ss) (Int.toNat i) (sesL (1) s)) ∧ whole (List.length h.tr + 1) (List.take (List.length h.tr) h.tr ++ [[vN s.id, vN s.lb, vN k, vN v]]) ∧ K (DV.tup [DV.agg (Zgx (1) { h with tr := (List.take (List.length h.tr) h.tr ++ [[vN s.id, vN s.lb, vN k, vN v]]) } (List.set (List.map (sesL (1)) ss) (Int.toNat i) (sesL (1) s))), I (0)]) else False else False else whole (List.length h.w0) h.w0 ∧ whole (List.length h.w1) h.w1 ∧ whole (List.length h.w2) h.w2 ∧ whole (List.length h.w3) h.w3 ∧ whole (List.length (List.map (sesL (1)) ss)) (List.set (List.map (sesL (1)) ss) (Int.toNat i) (sesL (1) s)) ∧ whole (List.length h.tr) h.tr ∧ K (DV.tup [DV.agg (Zgx (1) h (List.set (List.map (sesL (1)) ss) (Int.toNat i) (sesL (1) s))), I (0)])) := by kernel_rfl
theorem Znd {h : Mh} {ss : List SesD} (i : Int) (hok : okM h ss = true) : ZcX h ss i = true → smM h ss = true ∧ ss.length ≤ 4 := fun hm => by
  obtain ⟨g0, _, _⟩ := ZcJ hm
  exact ⟨ZhQ hok g0, (Zfd g0).1⟩
theorem cTel (h : Mh) (ss : List SesD) (i k v : Int) (hok : okM h ss = true) : CT Tryz.prog 22 [.agg (macL 0 h ss), I i, I k, I v] (bif Zhf h ss i k then macR (ZoN h (ss.getD i.toNat default) k v) ss 0 else macE 1200) := by
  refine Zpc (.cons (oAtD gThe (cThe h ss i hok) rfl rfl) .nil) .nil (.cons (Zqy i (ss.getD i.toNat default) (Znd i hok)) (.cons Zpv .nil)) mixed Tryz.func22 rfl rfl rfl ?_
  rw [eTel]
  refine ⟨⟨rfl, ?_⟩⟩
  unfold Zhf
  cases hm : ZcX h ss i with
  | false => exact Zjv 1200
  | true =>
    obtain ⟨s, f⟩ := foc hok hm
    rw [f.getD]
    cases hk1 : decide (k < 0)
    · cases hk2 : decide (k > 6)
      · refine ⟨rfl, rfl, f.row, ?_⟩
        unfold ZoN
        cases hl : decide ((h.tr.length : Int) < 512)
        · refine ⟨f.ow0, f.ow1, f.ow2, f.ow3, f.oss _ _, f.otr, ?_⟩
          have := ZnO h ss i.toNat s 0
          rw [f.set] at this; exact this
        · have hl' : h.tr.length < 512 := by have := of_decide_eq_true hl; omega
          simp only [cond_true, cond_false, f.ix, Bool.not_false, Bool.and_self]
          refine ⟨f.foAt, f.foAt, ?_⟩
          rw [decide_eq_true (Nat.le_refl _), decide_eq_true (by omega), decide_eq_true (by omega)]
          refine ⟨f.ow0, f.ow1, f.ow2, f.ow3, f.oss _ _, ZnM f.tr rfl, ?_⟩
          have := ZnO { h with tr := h.tr ++ [evD s k v] } ss i.toNat s 0
          rw [f.set] at this
          rw [List.take_length]; exact this
      · exact Zjv 1200
    · exact Zjv 1200
def sTel : Spec := fun ds Q => match ds with
  | [d, .c (.v (.int .i64 i)), .c (.v (.int .i64 k)), .c (.v (.int .i64 v))] => macA d fun h ss => cond (okM h ss) (bif Zhf h ss i k then Q (macR (ZoN h (ss.getD i.toNat default) k v) ss 0) else Q (macE 1200)) False
  | _ => False
theorem Zp4 {R : List (List D)} {r : List D} (h : allV R = true) (hr : allV [r] = true) : allV (R ++ [r]) = true := by
  unfold allV at *
  rw [List.all_append, h, hr]; rfl
theorem Zpk {h : Mh} {ss : List SesD} (hm : smM h ss = true) (s : SesD) (k v : Int) : smM (ZoN h s k v) ss = true := by
  obtain ⟨_, a4, _⟩ := Zec hm
  unfold smM at hm ⊢
  simp only [Bool.and_eq_true] at hm ⊢
  refine ⟨hm.1, ?_, hm.2.2⟩
  show smR 4398046510977 (bif decide ((h.tr.length : Int) < 512) then h.tr ++ [evD s k v] else h.tr) = true
  cases hl : decide ((h.tr.length : Int) < 512)
  · exact a4
  · have hl' := of_decide_eq_true hl
    unfold smR
    rw [cond_true, Zp4 (Zab a4).1 rfl, List.length_append, decide_eq_true (by simp; omega)]; rfl
theorem ZnE {h : Mh} {ss : List SesD} {i k : Int} (ho : okM h ss = true) (ht : Zhf h ss i k = true) (v : Int) : smM (ZoN h (ss.getD i.toNat default) k v) ss = true := by
  unfold Zhf at ht
  rw [Bool.and_eq_true] at ht
  exact Zpk (ZhQ ho (ZcJ ht.1).1) _ k v
theorem ZlY {h : Mh} {ss : List SesD} (hm : smM h ss = true) (e : Int) : (macR h ss e).pureOwn = true := by
  have := ZhO hm
  simp only [macR, DV.pureOwn, DV.pureOwn.go, this]
  rfl
theorem oTel : Zac Tryz.prog 22 sTel := o_al Tryz.func22 (by kernel_rfl) rfl fun ds Q h => by
  unfold sTel at h; split at h
  · rename_i i k v
    obtain ⟨m, ss, h, r⟩ := ZbD h
    obtain ⟨h1, h2⟩ := Zaf h
    have hc := cTel m ss i k v h1
    cases ht : Zhf m ss i k with
    | false =>
      rw [ht] at hc h2
      exact ⟨_, _, .cons r (.cons (.refl _) (.cons (.refl _) (.cons (.refl _) .nil))), hc, rfl, rfl, h2⟩
    | true =>
      rw [ht] at hc h2
      exact ⟨_, _, .cons r (.cons (.refl _) (.cons (.refl _) (.cons (.refl _) .nil))), hc, ZlY (ZnE h1 ht v) 0, rfl, h2⟩
  · exact h.elim
end

section
open Go Go.Proofs
def wdsB (R0 R1 R2 R3 : List (List D)) (s : SesD) : Bool := !(toZ s.pg).any (noIn R0 R1 R2 R3) && (!(toZ s.wt).any (noWr R0 R1 R2 R3) && !(toZ s.rd).any (noRd R0 R1 R2 R3))
theorem ZoZ (a b c d : List (List Int)) (l : List (List Int)) : l.all (thv a b c d) = !l.any (noRd (mZ a) (mZ b) (mZ c) (mZ d)) := by
  rw [List.all_eq_not_any_not]
  congr 2
  funext r
  unfold thv noRd thW
  rw [Zag, Zag, Zag, Zag]
theorem cWds (R0 R1 R2 R3 : List (List D)) (s : SesD) (hA : okA R0 R1 R2 R3 = true) (hs : ZaF s = true) : CT Tryz.prog 120 [.agg (wsL R0 R1 R2 R3), .agg (sesL 0 s)] (B (wdsB R0 R1 R2 R3 s)) := by
  obtain ⟨q0, q1, q2, q3⟩ := Zcl hA
  obtain ⟨a1, a2, _⟩ := Zah q0
  obtain ⟨b1, b2, _⟩ := Zah q1
  obtain ⟨c1, c2, _⟩ := Zah q2
  obtain ⟨d1, d2, _⟩ := Zah q3
  obtain ⟨e, ⟨hp, hpl⟩, ⟨hr, hrl⟩, ⟨hw, hwl⟩⟩ := Zmz hs
  have hz : okZ 3 s.rd = true := by unfold ZaF at hs; simp only [Bool.and_eq_true] at hs; exact hs.2.1
  rw [a1, b1, c1, d1] at hA ⊢
  have hz2 : okZ 3 (mZ (toZ s.rd)) = true := by rw [← (Zah hz).1]; exact hz
  rw [e]
  generalize toZ R0 = a at *
  generalize toZ R1 = b at *
  generalize toZ R2 = c at *
  generalize toZ R3 = d at *
  generalize toZ s.pg = p at *
  generalize toZ s.rd = r at *
  generalize toZ s.wt = w at *
  refine Zjg (m := [(2, fWd1 a b c d s p r w), (8, fWd2 a b c d s p r w)]) (.cons ZjM (.cons oRT .nil)) mixed (ZqG rfl (by kernel_rfl) (by kernel_rfl) rfl (kWd1 hp hpl) (kWd2 hw hwl)) Tryz.func120 rfl rfl rfl ?_
  rw [eWds]
  unfold wdsB SesD.on
  simp only [Ze3]
  refine ⟨⟨trivial, fun i hi => ?_, fun hn => ⟨trivial, fun i hi => ?_, fun hn2 => ?_⟩⟩⟩
  · rw [hi.any]; rfl
  · rw [hn.any, hi.any]; rfl
  · rw [hn.any, hn2.any, hA, hz2, ZoZ]; rfl
def sWds : Spec := fun ds Q => match ds with
  | [.agg cs, e] => cond (Zin cs && Nat.beq cs.length 4) (Zg4 cs fun R0 R1 R2 R3 => sesA e fun s => cond (okA R0 R1 R2 R3 && ZaF s) (Q (B (wdsB R0 R1 R2 R3 s))) False) False
  | _ => False
theorem oWds : Zac Tryz.prog 120 sWds := o_al Tryz.func120 (by kernel_rfl) rfl fun ds Q h => by
  unfold sWds at h; split at h
  · obtain ⟨h0, h⟩ := Zaf h
    rw [Bool.and_eq_true] at h0
    have hl := Zaa h0.2
    obtain ⟨R0, R1, R2, R3, h, r1⟩ := ZcG h
    obtain ⟨s, h, r2⟩ := ZbQ h
    obtain ⟨h1, h2⟩ := Zaf h
    rw [Bool.and_eq_true] at h1
    rw [List.take_of_length_le (Nat.le_of_eq hl)] at r1
    exact ⟨_, _, .cons (.agg r1 h0.1 rfl) (.cons r2 .nil), cWds R0 R1 R2 R3 s h1.1 h1.2, rfl, rfl, h2⟩
  · exact h.elim
theorem eUp2 (x l m : Int) (K : DV → Prop) : (ask Tryz.prog [] Tryz.f56 [I x, I l, I m] K) = (bif decide (x ≥ l) then K (DV.c (D.v (Value.bool (decide (x ≤ m))))) else K (DV.c (D.v (Value.bool false)))) := by kernel_rfl
theorem oUp2 : Zac Tryz.prog 56 sUp := o_of Tryz.func56 (by kernel_rfl) rfl fun ds Q h => by
  unfold sUp at h; split at h
  · refine ⟨_, Zaj .nil mixed Tryz.func56 rfl rfl rfl ?_, rfl, rfl, h⟩
    rw [eUp2]; rename_i x l m; unfold upto; cases decide (x ≥ l) <;> rfl
  · exact h.elim
theorem ZtY (h : Mh) (ss : List SesD) (s : SesD) (K : DV → Prop) : (ask Tryz.prog [(92, ZiV), (120, sWds), (56, sUp), (121, Zpd), (122, sRM), (123, sWMy), (69, sB clk), (91, sB val8)] Tryz.f70 [.agg (macL 0 h ss), .agg (sesL 0 s)] K) = (bif okZ (4) s.pg then bif !smay s.id s.lb s.cl (toZ s.pg) then K (DV.c (D.v (Value.bool false))) else bif okA h.w0 h.w1 h.w2 h.w3 && ZaF s then bif !wdsB h.w0 h.w1 h.w2 h.w3 s then K (DV.c (D.v (Value.bool false))) else bif !upto s.st (0) (6) then K (DV.c (D.v (Value.bool false))) else bif !upto s.pc (0) (@Nat.cast Int _ (List.length s.pg)) then K (DV.c (D.v (Value.bool false))) else bif !v4 s.r0 s.r1 s.r2 s.r3 then K (DV.c (D.v (Value.bool false))) else bif okZ (3) s.rd then bif !rmay (toZ s.rd) then K (DV.c (D.v (Value.bool false))) else bif okZ (3) s.wt then bif !Zft (toZ s.wt) then K (DV.c (D.v (Value.bool false))) else bif upto s.at' (0) (@Nat.cast Int _ (List.length s.wt)) then bif clk s.sp then bif clk s.tr then bif upto s.rs (0) (5) then K (DV.c (D.v (Value.bool (val8 s.to)))) else K (DV.c (D.v (Value.bool false))) else K (DV.c (D.v (Value.bool false))) else K (DV.c (D.v (Value.bool false))) else K (DV.c (D.v (Value.bool false))) else False else False else False else False) := by kernel_rfl
theorem Zuy (h : Mh) (ss : List SesD) (s : SesD) (hA : okA h.w0 h.w1 h.w2 h.w3 = true) (hs : ZaF s = true) : CT Tryz.prog 70 [.agg (macL 0 h ss), .agg (sesL 0 s)] (B (Zan h.w0 h.w1 h.w2 h.w3 s)) := by
  refine ct_s (.cons Zn2 (.cons oWds (.cons oUp2 (.cons Zr5 (.cons oQM (.cons oWPy (.cons ZgD (.cons Zfz .nil)))))))) mixed Tryz.func70 rfl rfl rfl ?_
  rw [ZtY]
  refine ⟨?_⟩
  have hz := hs
  unfold ZaF at hz
  simp only [Bool.and_eq_true] at hz
  simp only [hz.1, hz.2.1, hz.2.2, hA, hs, Bool.and_self, cond_true, bifN, bifK]
  unfold Zan Zl4 farB Znm wdsB
  congr 3
  ac_rfl
def Zja : Spec := fun ds Q => match ds with
  | [d, e] => macA d fun h _ => sesA e fun s => cond (okA h.w0 h.w1 h.w2 h.w3 && ZaF s) (Q (B (Zan h.w0 h.w1 h.w2 h.w3 s))) False
  | _ => False
theorem Zn1 : Zac Tryz.prog 70 Zja := o_al Tryz.func70 (by kernel_rfl) rfl fun ds Q hq => by
  unfold Zja at hq; split at hq
  · obtain ⟨h, ss, hq, r1⟩ := ZbD hq
    obtain ⟨s, hq, r⟩ := ZbQ hq
    obtain ⟨h1, h2⟩ := Zaf hq
    rw [Bool.and_eq_true] at h1
    exact ⟨_, _, .cons r1 (.cons r .nil), Zuy h ss s h1.1 h1.2, rfl, rfl, h2⟩
  · exact hq.elim
def stTr (h : Mh) (ss : List SesD) (v : Bool) (i : Int) : X := ⟨mkT 90 [(1, .c (.rp 2 0 11 0 0)), (2, ab v), (5, ai i)], [(2, .bx 0 11 ((macL 0 h ss).map C.d))], [], []⟩
def Zhg (h : Mh) (ss : List SesD) : Vw := fun y K => wB y 2 fun v => wI y 5 fun i => K (stTr h ss v i)
theorem Zji (h : Mh) (ss : List SesD) : VwOK (Zhg h ss) := fun y K h => by
  unfold Zhg at h
  obtain ⟨v, h⟩ := Zdf h
  obtain ⟨i, h⟩ := Zbt h
  exact ⟨_, h⟩
theorem rTr (h : Mh) (ss : List SesD) (v : Bool) (i : Int) (N : X → Prop) (E : Exit → X → Prop) : (Zbb Tryz.prog (hkA band bor [(71, sB lab)] []) Tryz.f27 2 [] [1, 2, 5] [2] (Zhg h ss) (fun _ => Zhg h ss) N E (stTr h ss v i)) = (bif decide (i < @Nat.cast Int _ (List.length h.tr)) then bif decide (0 ≤ i) && decide (i < @Nat.cast Int _ (List.length h.tr)) then bif isJ [IntKind.i64] (List.drop (1) (List.getD h.tr (Int.toNat i) [])) then bif !lab (hdJ (List.drop (1) (List.getD h.tr (Int.toNat i) []))) then stTr h ss false i = stTr h ss false i ∧ E Exit.ret (stTr h ss false i) else stTr h ss v (IntKind.wrap IntKind.i64 (i + 1)) = stTr h ss v (IntKind.wrap IntKind.i64 (i + 1)) ∧ N (stTr h ss v (IntKind.wrap IntKind.i64 (i + 1))) else False else False else stTr h ss v i = stTr h ss v i ∧ E (Exit.exit (4)) (stTr h ss v i)) := by kernel_rfl
def Mh.on (h : Mh) (t : List (List Int)) : Mh := { h with tr := mZ t }
def fTr (h : Mh) (ss : List SesD) (t : List (List Int)) : LSum := ZcH [1, 2, 5] [2] (fun i => stTr (h.on t) ss false i) (fun i => stTr (h.on t) ss false i) t.length (fun i => noEv (t.getD i [])) .ret (.exit 4)
theorem kTr {h : Mh} {ss : List SesD} {t : List (List Int)} (hw : wid 4 t) (hn : t.length ≤ 9223372036854775807) (Q : Exit → X → Prop) (x : X) (hq : fTr h ss t Q x) : XWP Tryz.prog (.loop (Zak Tryz.f27 2)) Q x := by
  refine Zbj (sw := []) (V := Zhg (h.on t) ss) (VE := fun _ => Zhg (h.on t) ss) mixed (Zji (h.on t) ss) (fun _ => Zji (h.on t) ss) _ _ _ _ _ _ (fun i hl => ⟨hkA band bor [(71, sB lab)] [], ZaI (.cons Zmi .nil), Zae rfl, fun N E h1 h2 => ?_⟩) ⟨hkA band bor [(71, sB lab)] [], ZaI (.cons Zmi .nil), Zae rfl, fun N E h1 => ?_⟩ Q x hq
  · rw [rTr]
    have wi : IntKind.wrap .i64 ((i : Int) + 1) = ((i + 1 : Nat) : Int) := Zai (n := 1) (by omega)
    have a1 : isJ [IntKind.i64] (List.drop 1 ((mZ t).getD i [])) = true := Zap (j := 1) (n := 1) hw hl (by omega)
    simp only [Mh.on, Zag, Int.ofNat_lt, hl, decide_true, cond_true, Int.natCast_nonneg, Bool.and_self, Int.toNat_natCast, a1, Zct, true_and, wi] at h1 h2 ⊢
    unfold noEv at h1 h2
    generalize lab ((t.getD i []).getD 1 0) = u at h1 h2 ⊢
    cases u <;> simp only [cond_true, cond_false, Bool.not_true, Bool.not_false, forall_const, reduceCtorEq, false_implies] at h1 h2 ⊢ <;> first | exact h1 | exact h2 | exact h1 trivial | exact h2 trivial
  · rw [rTr]
    simp only [Mh.on, Zag, Int.ofNat_lt, Nat.lt_irrefl, decide_false, cond_false, true_and]
    exact h1
theorem Zt7 (h : Mh) (t : List (List Int)) (K : DV → Prop) : (askL Tryz.prog [(68, ZbX), (69, sB clk), (56, sUp), (70, Zja)] [(14, fTr h [] t)] Tryz.f27 [.agg (macL 0 (h.on t) [])] K) = (bif okA h.w0 h.w1 h.w2 h.w3 then bif !amay (toZ h.w0) (toZ h.w1) (toZ h.w2) (toZ h.w3) then K (DV.c (D.v (Value.bool false))) else bif !clk h.ce then K (DV.c (D.v (Value.bool false))) else bif decide (@Nat.cast Int _ (List.length (mZ t)) > 512) then K (DV.c (D.v (Value.bool false))) else bif !upto h.c0 (0) h.ce then K (DV.c (D.v (Value.bool false))) else bif !upto h.c1 (0) h.ce then K (DV.c (D.v (Value.bool false))) else bif !upto h.c2 (0) h.ce then K (DV.c (D.v (Value.bool false))) else bif !upto h.c3 (0) h.ce then K (DV.c (D.v (Value.bool false))) else stTr { w0 := h.w0, w1 := h.w1, w2 := h.w2, w3 := h.w3, c0 := h.c0, c1 := h.c1, c2 := h.c2, c3 := h.c3, ce := h.ce, tr := mZ t } [] false (0) = stTr { w0 := h.w0, w1 := h.w1, w2 := h.w2, w3 := h.w3, c0 := h.c0, c1 := h.c1, c2 := h.c2, c3 := h.c3, ce := h.ce, tr := mZ t } [] false (0) ∧ (∀ (i : Nat), firstAt (fun i => noEv (List.getD t i [])) (List.length t) i → K (DV.c (D.v (Value.bool false)))) ∧ (noneTo (fun i => noEv (List.getD t i [])) (List.length t) → K (DV.c (D.v (Value.bool true)))) else False) := by kernel_rfl
theorem ZuZ (h : Mh) (s0 : SesD) (t : List (List Int)) (K : DV → Prop) : (askL Tryz.prog [(68, ZbX), (69, sB clk), (56, sUp), (70, Zja)] [(14, fTr h [s0] t)] Tryz.f27 [.agg (macL 0 (h.on t) [s0])] K) = (bif okA h.w0 h.w1 h.w2 h.w3 then bif !amay (toZ h.w0) (toZ h.w1) (toZ h.w2) (toZ h.w3) then K (DV.c (D.v (Value.bool false))) else bif !clk h.ce then K (DV.c (D.v (Value.bool false))) else bif decide (@Nat.cast Int _ (List.length (mZ t)) > 512) then K (DV.c (D.v (Value.bool false))) else bif !upto h.c0 (0) h.ce then K (DV.c (D.v (Value.bool false))) else bif !upto h.c1 (0) h.ce then K (DV.c (D.v (Value.bool false))) else bif !upto h.c2 (0) h.ce then K (DV.c (D.v (Value.bool false))) else bif !upto h.c3 (0) h.ce then K (DV.c (D.v (Value.bool false))) else bif okA h.w0 h.w1 h.w2 h.w3 && ZaF s0 then bif !Zan h.w0 h.w1 h.w2 h.w3 s0 then K (DV.c (D.v (Value.bool false))) else stTr { w0 := h.w0, w1 := h.w1, w2 := h.w2, w3 := h.w3, c0 := h.c0, c1 := h.c1, c2 := h.c2, c3 := h.c3, ce := h.ce, tr := mZ t } [s0] false (0) = stTr { w0 := h.w0, w1 := h.w1, w2 := h.w2, w3 := h.w3, c0 := h.c0, c1 := h.c1, c2 := h.c2, c3 := h.c3, ce := h.ce, tr := mZ t } [s0] false (0) ∧ (∀ (i : Nat), firstAt (fun i => noEv (List.getD t i [])) (List.length t) i → K (DV.c (D.v (Value.bool false)))) ∧ (noneTo (fun i => noEv (List.getD t i [])) (List.length t) → K (DV.c (D.v (Value.bool true)))) else False else False) := by kernel_rfl
theorem ZuE (h : Mh) (s0 s1 : SesD) (t : List (List Int)) (K : DV → Prop) : (askL Tryz.prog [(68, ZbX), (69, sB clk), (56, sUp), (70, Zja)] [(14, fTr h [s0, s1] t)] Tryz.f27 [.agg (macL 0 (h.on t) [s0, s1])] K) = (bif okA h.w0 h.w1 h.w2 h.w3 then bif !amay (toZ h.w0) (toZ h.w1) (toZ h.w2) (toZ h.w3) then K (DV.c (D.v (Value.bool false))) else bif !clk h.ce then K (DV.c (D.v (Value.bool false))) else bif decide (@Nat.cast Int _ (List.length (mZ t)) > 512) then K (DV.c (D.v (Value.bool false))) else bif !upto h.c0 (0) h.ce then K (DV.c (D.v (Value.bool false))) else bif !upto h.c1 (0) h.ce then K (DV.c (D.v (Value.bool false))) else bif !upto h.c2 (0) h.ce then K (DV.c (D.v (Value.bool false))) else bif !upto h.c3 (0) h.ce then K (DV.c (D.v (Value.bool false))) else bif okA h.w0 h.w1 h.w2 h.w3 && ZaF s0 then bif !Zan h.w0 h.w1 h.w2 h.w3 s0 then K (DV.c (D.v (Value.bool false))) else bif okA h.w0 h.w1 h.w2 h.w3 && ZaF s1 then bif !Zan h.w0 h.w1 h.w2 h.w3 s1 then K (DV.c (D.v (Value.bool false))) else bif decide (s1.id ≤ s0.id) then K (DV.c (D.v (Value.bool false))) else stTr { w0 := h.w0, w1 := h.w1, w2 := h.w2, w3 := h.w3, c0 := h.c0, c1 := h.c1, c2 := h.c2, c3 := h.c3, ce := h.ce, tr := mZ t } [s0, s1] false (0) = stTr { w0 := h.w0, w1 := h.w1, w2 := h.w2, w3 := h.w3, c0 := h.c0, c1 := h.c1, c2 := h.c2, c3 := h.c3, ce := h.ce, tr := mZ t } [s0, s1] false (0) ∧ (∀ (i : Nat), firstAt (fun i => noEv (List.getD t i [])) (List.length t) i → K (DV.c (D.v (Value.bool false)))) ∧ (noneTo (fun i => noEv (List.getD t i [])) (List.length t) → K (DV.c (D.v (Value.bool true)))) else False else False else False) := by kernel_rfl
theorem ZuR (h : Mh) (s0 s1 s2 : SesD) (t : List (List Int)) (K : DV → Prop) : (askL Tryz.prog [(68, ZbX), (69, sB clk), (56, sUp), (70, Zja)] [(14, fTr h [s0, s1, s2] t)] Tryz.f27 [.agg (macL 0 (h.on t) [s0, s1, s2])] K) = (bif okA h.w0 h.w1 h.w2 h.w3 then bif !amay (toZ h.w0) (toZ h.w1) (toZ h.w2) (toZ h.w3) then K (DV.c (D.v (Value.bool false))) else bif !clk h.ce then K (DV.c (D.v (Value.bool false))) else bif decide (@Nat.cast Int _ (List.length (mZ t)) > 512) then K (DV.c (D.v (Value.bool false))) else bif !upto h.c0 (0) h.ce then K (DV.c (D.v (Value.bool false))) else bif !upto h.c1 (0) h.ce then K (DV.c (D.v (Value.bool false))) else bif !upto h.c2 (0) h.ce then K (DV.c (D.v (Value.bool false))) else bif !upto h.c3 (0) h.ce then K (DV.c (D.v (Value.bool false))) else bif okA h.w0 h.w1 h.w2 h.w3 && ZaF s0 then bif !Zan h.w0 h.w1 h.w2 h.w3 s0 then K (DV.c (D.v (Value.bool false))) else bif okA h.w0 h.w1 h.w2 h.w3 && ZaF s1 then bif !Zan h.w0 h.w1 h.w2 h.w3 s1 then K (DV.c (D.v (Value.bool false))) else bif decide (s1.id ≤ s0.id) then K (DV.c (D.v (Value.bool false))) else bif okA h.w0 h.w1 h.w2 h.w3 && ZaF s2 then bif !Zan h.w0 h.w1 h.w2 h.w3 s2 then K (DV.c (D.v (Value.bool false))) else bif decide (s2.id ≤ s1.id) then K (DV.c (D.v (Value.bool false))) else stTr { w0 := h.w0, w1 := h.w1, w2 := h.w2, w3 := h.w3, c0 := h.c0, c1 := h.c1, c2 := h.c2, c3 := h.c3, ce := h.ce, tr := mZ t } [s0, s1, s2] false (0) = stTr { w0 := h.w0, w1 := h.w1, w2 := h.w2, w3 := h.w3, c0 := h.c0, c1 := h.c1, c2 := h.c2, c3 := h.c3, ce := h.ce, tr := mZ t } [s0, s1, s2] false (0) ∧ (∀ (i : Nat), firstAt (fun i => noEv (List.getD t i [])) (List.length t) i → K (DV.c (D.v (Value.bool false)))) ∧ (noneTo (fun i => noEv (List.getD t i [])) (List.length t) → K (DV.c (D.v (Value.bool true)))) else False else False else False else False) := by kernel_rfl
theorem Zt9 (h : Mh) (s0 s1 s2 s3 : SesD) (t : List (List Int)) (K : DV → Prop) : (askL Tryz.prog [(68, ZbX), (69, sB clk), (56, sUp), (70, Zja)] [(14, fTr h [s0, s1, s2, s3] t)] Tryz.f27 [.agg (macL 0 (h.on t) [s0, s1, s2, s3])] K) = (bif okA h.w0 h.w1 h.w2 h.w3 then bif !amay (toZ h.w0) (toZ h.w1) (toZ h.w2) (toZ h.w3) then K (DV.c (D.v (Value.bool false))) else bif !clk h.ce then K (DV.c (D.v (Value.bool false))) else bif decide (@Nat.cast Int _ (List.length (mZ t)) > 512) then K (DV.c (D.v (Value.bool false))) else bif !upto h.c0 (0) h.ce then K (DV.c (D.v (Value.bool false))) else bif !upto h.c1 (0) h.ce then K (DV.c (D.v (Value.bool false))) else bif !upto h.c2 (0) h.ce then K (DV.c (D.v (Value.bool false))) else bif !upto h.c3 (0) h.ce then K (DV.c (D.v (Value.bool false))) else bif okA h.w0 h.w1 h.w2 h.w3 && ZaF s0 then bif !Zan h.w0 h.w1 h.w2 h.w3 s0 then K (DV.c (D.v (Value.bool false))) else bif okA h.w0 h.w1 h.w2 h.w3 && ZaF s1 then bif !Zan h.w0 h.w1 h.w2 h.w3 s1 then K (DV.c (D.v (Value.bool false))) else bif decide (s1.id ≤ s0.id) then K (DV.c (D.v (Value.bool false))) else bif okA h.w0 h.w1 h.w2 h.w3 && ZaF s2 then bif !Zan h.w0 h.w1 h.w2 h.w3 s2 then K (DV.c (D.v (Value.bool false))) else bif decide (s2.id ≤ s1.id) then K (DV.c (D.v (Value.bool false))) else bif okA h.w0 h.w1 h.w2 h.w3 && ZaF s3 then bif !Zan h.w0 h.w1 h.w2 h.w3 s3 then K (DV.c (D.v (Value.bool false))) else bif decide (s3.id ≤ s2.id) then K (DV.c (D.v (Value.bool false))) else stTr { w0 := h.w0, w1 := h.w1, w2 := h.w2, w3 := h.w3, c0 := h.c0, c1 := h.c1, c2 := h.c2, c3 := h.c3, ce := h.ce, tr := mZ t } [s0, s1, s2, s3] false (0) = stTr { w0 := h.w0, w1 := h.w1, w2 := h.w2, w3 := h.w3, c0 := h.c0, c1 := h.c1, c2 := h.c2, c3 := h.c3, ce := h.ce, tr := mZ t } [s0, s1, s2, s3] false (0) ∧ (∀ (i : Nat), firstAt (fun i => noEv (List.getD t i [])) (List.length t) i → K (DV.c (D.v (Value.bool false)))) ∧ (noneTo (fun i => noEv (List.getD t i [])) (List.length t) → K (DV.c (D.v (Value.bool true)))) else False else False else False else False else False) := by kernel_rfl
theorem ZtT (h : Mh) (ss : List SesD) (K : DV → Prop) : (askL Tryz.prog [(68, ZbX), (69, sB clk), (56, sUp)] [(4, fun _ _ => False)] Tryz.f27 [.agg (macL 0 h ss)] K) = (bif okA h.w0 h.w1 h.w2 h.w3 then bif !amay (toZ h.w0) (toZ h.w1) (toZ h.w2) (toZ h.w3) then K (DV.c (D.v (Value.bool false))) else bif !clk h.ce then K (DV.c (D.v (Value.bool false))) else bif decide (@Nat.cast Int _ (List.length (List.map (sesL (0)) ss)) > 4) then K (DV.c (D.v (Value.bool false))) else bif decide (@Nat.cast Int _ (List.length h.tr) > 512) then K (DV.c (D.v (Value.bool false))) else False else False) := by kernel_rfl
end

section
open Go Go.Proofs
theorem ZqB (a b e : Int) : decide (mx a b > e) = (decide (a > e) || decide (b > e)) := by
  rw [Bool.eq_iff_iff]
  simp only [Bool.or_eq_true, decide_eq_true_eq]
  unfold mx
  split <;> omega
theorem Znx (c0 c1 c2 c3 e : Int) : ((ck4 c0 c1 c2 c3 && clk e) && !decide (mx4 c0 c1 c2 c3 > e)) = (clk e && (upto c0 0 e && (upto c1 0 e && (upto c2 0 e && upto c3 0 e)))) := by
  unfold mx4
  rw [ZqB, ZqB, ZqB, Bool.eq_iff_iff]
  unfold ck4 clk upto
  simp only [Bool.and_eq_true, Bool.not_eq_true', Bool.or_eq_false_iff, decide_eq_true_eq, decide_eq_false_iff_not]
  omega
theorem Zjr (a b : Int) : (!decide (a ≥ b)) = !decide (b ≤ a) := rfl
theorem bN {p : Bool} {R : Prop} {q : Bool} (h : p = true → R) (h2 : p = false → q = false) : bif !p then (DV.c (.v (.bool false)) = B q) else R := by
  cases p
  · rw [h2 rfl]; rfl
  · exact h rfl
theorem bP {p : Bool} {R : Prop} {q : Bool} (h : p = false → R) (h2 : p = true → q = false) : bif p then (DV.c (.v (.bool false)) = B q) else R := by
  cases p
  · exact h rfl
  · rw [h2 rfl]; rfl
theorem bO {p : Bool} {R : Prop} (hp : p = true) (h : R) : bif p then R else False := by rw [hp]; exact h
theorem bT {T : Prop} {t : List (List Int)} {q : Bool} (hT : T) (h1 : t.any noEv = true → q = false) (h2 : t.any noEv = false → q = true) : T ∧ (∀ i : Nat, firstAt (fun i => noEv (List.getD t i [])) (List.length t) i → (DV.c (.v (.bool false)) = B q)) ∧ (noneTo (fun i => noEv (List.getD t i [])) (List.length t) → (DV.c (.v (.bool true)) = B q)) :=
  ⟨hT, fun i hi => by rw [h1 hi.any], fun hn => by rw [h2 hn.any]⟩
theorem Ztv {P : Program} {l : List (FuncId × Spec)} {fn : Func} {k1 k2 k3 : Nat} {s3 : LSum} (hn : (Za1 (Zav fn)).length = 3) (e1 : Zby (Zak fn 0) = k1) (e2 : Zby (Zak fn 1) = k2) (e3 : Zby (Zak fn 2) = k3) (n1 : Nat.beq k3 k1 = false) (n2 : Nat.beq k3 k2 = false) (h3 : ∀ Q x, s3 Q x → XWP P (.loop (Zak fn 2)) Q x) : Zau P (hkl l [(k3, s3)]) (Zav fn) :=
  ZcK 3 hn fun i hi s hs Q x hq => by
    match i, hi with
    | 0, _ =>
      rw [e1] at hs
      have hs' : Zc0 [(k3, s3)] k1 = some s := hs
      simp only [Zc0, n1] at hs'
      cases hs'
    | 1, _ =>
      rw [e2] at hs
      have hs' : Zc0 [(k3, s3)] k2 = some s := hs
      simp only [Zc0, n2] at hs'
      cases hs'
    | 2, _ =>
      rw [e3] at hs
      have hs' : some s3 = some s := by simpa [Zc0, hkl, hkA, Zba] using hs
      cases hs'
      exact h3 Q x hq
theorem ZfA {h : Mh} {ss : List SesD} {t : List (List Int)} (hw : wid 4 t) (hl : t.length ≤ 9223372036854775807) : Zau Tryz.prog (hkl [(68, ZbX), (69, sB clk), (56, sUp), (70, Zja)] [(14, fTr h ss t)]) (Zav Tryz.f27) :=
  Ztv rfl rfl rfl (by kernel_rfl) (by kernel_rfl) (by kernel_rfl) (fun Q x hq => kTr hw hl Q x hq)
theorem cRMt (h : Mh) (ss : List SesD) (t : List (List Int)) (hA : okA h.w0 h.w1 h.w2 h.w3 = true) (hw : wid 4 t) (hl : t.length ≤ 9223372036854775807) (hs : okSS ss = true) : CT Tryz.prog 27 [.agg (macL 0 (h.on t) ss)] (B (mmay (h.on t) ss)) := by
  have hq : ∀ s ∈ ss, ZaF s = true := List.all_eq_true.1 hs
  rcases ss with _ | ⟨s0, _ | ⟨s1, _ | ⟨s2, _ | ⟨s3, _ | ⟨s4, l⟩⟩⟩⟩⟩
  · 
    have key : mmay (h.on t) [] = (amay (toZ h.w0) (toZ h.w1) (toZ h.w2) (toZ h.w3) && (clk h.ce && (!decide (((mZ t).length : Int) > 512) && (upto h.c0 0 h.ce && (upto h.c1 0 h.ce && (upto h.c2 0 h.ce && (upto h.c3 0 h.ce && !t.any noEv))))))) := by
      show (amay (toZ h.w0) (toZ h.w1) (toZ h.w2) (toZ h.w3) && ((ck4 h.c0 h.c1 h.c2 h.c3 && clk h.ce) && (!decide (mx4 h.c0 h.c1 h.c2 h.c3 > h.ce) && (!decide ((([] : List SesD).length : Int) > 4) && (!decide (((mZ t).length : Int) > 512) && (Zdi [] && (([] : List SesD).all (Zan h.w0 h.w1 h.w2 h.w3) && !(toZ (mZ t)).any noEv))))))) = _
      rw [Ze3, ← Bool.and_assoc (ck4 h.c0 h.c1 h.c2 h.c3 && clk h.ce), Znx]
      simp only [Zdi, List.all_cons, List.all_nil, Bool.and_true, Bool.true_and, Zjr, (by simp : (!decide ((([] : List SesD).length : Int) > 4)) = true)]
      try ac_rfl
    refine Zjg (m := [(14, fTr h [] t)]) (.cons ZfY (.cons ZgD (.cons oUp2 (.cons Zn1 .nil)))) mixed (ZfA hw hl) Tryz.func27 rfl rfl rfl ?_
    rw [Zt7]
    refine ⟨?_⟩
    refine bO hA ?_
    refine bN (fun gA => ?_) (fun g => by rw [key, g]; rfl)
    refine bN (fun gC => ?_) (fun g => by rw [key, gA, g]; rfl)
    refine bP (fun gT => ?_) (fun g => by rw [key, gA, gC, g]; rfl)
    refine bN (fun gc0 => ?_) (fun g => by rw [key, gA, gC, gT, g]; simp)
    refine bN (fun gc1 => ?_) (fun g => by rw [key, gA, gC, gT, gc0, g]; simp)
    refine bN (fun gc2 => ?_) (fun g => by rw [key, gA, gC, gT, gc0, gc1, g]; simp)
    refine bN (fun gc3 => ?_) (fun g => by rw [key, gA, gC, gT, gc0, gc1, gc2, g]; simp)
    exact bT rfl (fun g => by rw [key, gA, gC, gT, gc0, gc1, gc2, gc3, g]; rfl) (fun g => by rw [key, gA, gC, gT, gc0, gc1, gc2, gc3, g]; rfl)
  · 
    have q0 : ZaF s0 = true := hq s0 (by simp)
    have key : mmay (h.on t) [s0] = (amay (toZ h.w0) (toZ h.w1) (toZ h.w2) (toZ h.w3) && (clk h.ce && (!decide (((mZ t).length : Int) > 512) && (upto h.c0 0 h.ce && (upto h.c1 0 h.ce && (upto h.c2 0 h.ce && (upto h.c3 0 h.ce && (Zan h.w0 h.w1 h.w2 h.w3 s0 && !t.any noEv)))))))) := by
      show (amay (toZ h.w0) (toZ h.w1) (toZ h.w2) (toZ h.w3) && ((ck4 h.c0 h.c1 h.c2 h.c3 && clk h.ce) && (!decide (mx4 h.c0 h.c1 h.c2 h.c3 > h.ce) && (!decide ((([s0] : List SesD).length : Int) > 4) && (!decide (((mZ t).length : Int) > 512) && (Zdi [s0] && (([s0] : List SesD).all (Zan h.w0 h.w1 h.w2 h.w3) && !(toZ (mZ t)).any noEv))))))) = _
      rw [Ze3, ← Bool.and_assoc (ck4 h.c0 h.c1 h.c2 h.c3 && clk h.ce), Znx]
      simp only [Zdi, List.all_cons, List.all_nil, Bool.and_true, Bool.true_and, Zjr, (by simp : (!decide ((([s0] : List SesD).length : Int) > 4)) = true)]
      try ac_rfl
    refine Zjg (m := [(14, fTr h [s0] t)]) (.cons ZfY (.cons ZgD (.cons oUp2 (.cons Zn1 .nil)))) mixed (ZfA hw hl) Tryz.func27 rfl rfl rfl ?_
    rw [ZuZ]
    refine ⟨?_⟩
    refine bO hA ?_
    refine bN (fun gA => ?_) (fun g => by rw [key, g]; rfl)
    refine bN (fun gC => ?_) (fun g => by rw [key, gA, g]; rfl)
    refine bP (fun gT => ?_) (fun g => by rw [key, gA, gC, g]; rfl)
    refine bN (fun gc0 => ?_) (fun g => by rw [key, gA, gC, gT, g]; simp)
    refine bN (fun gc1 => ?_) (fun g => by rw [key, gA, gC, gT, gc0, g]; simp)
    refine bN (fun gc2 => ?_) (fun g => by rw [key, gA, gC, gT, gc0, gc1, g]; simp)
    refine bN (fun gc3 => ?_) (fun g => by rw [key, gA, gC, gT, gc0, gc1, gc2, g]; simp)
    refine bO (by rw [hA, q0]; rfl) ?_
    refine bN (fun gs0 => ?_) (fun g => by rw [key, gA, gC, gT, gc0, gc1, gc2, gc3, g]; simp)
    exact bT rfl (fun g => by rw [key, gA, gC, gT, gc0, gc1, gc2, gc3, gs0, g]; rfl) (fun g => by rw [key, gA, gC, gT, gc0, gc1, gc2, gc3, gs0, g]; rfl)
  · 
    have q0 : ZaF s0 = true := hq s0 (by simp)
    have q1 : ZaF s1 = true := hq s1 (by simp)
    have key : mmay (h.on t) [s0, s1] = (amay (toZ h.w0) (toZ h.w1) (toZ h.w2) (toZ h.w3) && (clk h.ce && (!decide (((mZ t).length : Int) > 512) && (upto h.c0 0 h.ce && (upto h.c1 0 h.ce && (upto h.c2 0 h.ce && (upto h.c3 0 h.ce && (Zan h.w0 h.w1 h.w2 h.w3 s0 && (Zan h.w0 h.w1 h.w2 h.w3 s1 && (!decide (s1.id ≤ s0.id) && !t.any noEv)))))))))) := by
      show (amay (toZ h.w0) (toZ h.w1) (toZ h.w2) (toZ h.w3) && ((ck4 h.c0 h.c1 h.c2 h.c3 && clk h.ce) && (!decide (mx4 h.c0 h.c1 h.c2 h.c3 > h.ce) && (!decide ((([s0, s1] : List SesD).length : Int) > 4) && (!decide (((mZ t).length : Int) > 512) && (Zdi [s0, s1] && (([s0, s1] : List SesD).all (Zan h.w0 h.w1 h.w2 h.w3) && !(toZ (mZ t)).any noEv))))))) = _
      rw [Ze3, ← Bool.and_assoc (ck4 h.c0 h.c1 h.c2 h.c3 && clk h.ce), Znx]
      simp only [Zdi, List.all_cons, List.all_nil, Bool.and_true, Bool.true_and, Zjr, (by simp : (!decide ((([s0, s1] : List SesD).length : Int) > 4)) = true)]
      try ac_rfl
    refine Zjg (m := [(14, fTr h [s0, s1] t)]) (.cons ZfY (.cons ZgD (.cons oUp2 (.cons Zn1 .nil)))) mixed (ZfA hw hl) Tryz.func27 rfl rfl rfl ?_
    rw [ZuE]
    refine ⟨?_⟩
    refine bO hA ?_
    refine bN (fun gA => ?_) (fun g => by rw [key, g]; rfl)
    refine bN (fun gC => ?_) (fun g => by rw [key, gA, g]; rfl)
    refine bP (fun gT => ?_) (fun g => by rw [key, gA, gC, g]; rfl)
    refine bN (fun gc0 => ?_) (fun g => by rw [key, gA, gC, gT, g]; simp)
    refine bN (fun gc1 => ?_) (fun g => by rw [key, gA, gC, gT, gc0, g]; simp)
    refine bN (fun gc2 => ?_) (fun g => by rw [key, gA, gC, gT, gc0, gc1, g]; simp)
    refine bN (fun gc3 => ?_) (fun g => by rw [key, gA, gC, gT, gc0, gc1, gc2, g]; simp)
    refine bO (by rw [hA, q0]; rfl) ?_
    refine bN (fun gs0 => ?_) (fun g => by rw [key, gA, gC, gT, gc0, gc1, gc2, gc3, g]; simp)
    refine bO (by rw [hA, q1]; rfl) ?_
    refine bN (fun gs1 => ?_) (fun g => by rw [key, gA, gC, gT, gc0, gc1, gc2, gc3, gs0, g]; simp)
    refine bP (fun gi1 => ?_) (fun g => by rw [key, gA, gC, gT, gc0, gc1, gc2, gc3, gs0, gs1, g]; simp)
    exact bT rfl (fun g => by rw [key, gA, gC, gT, gc0, gc1, gc2, gc3, gs0, gs1, gi1, g]; rfl) (fun g => by rw [key, gA, gC, gT, gc0, gc1, gc2, gc3, gs0, gs1, gi1, g]; rfl)
  · 
    have q0 : ZaF s0 = true := hq s0 (by simp)
    have q1 : ZaF s1 = true := hq s1 (by simp)
    have q2 : ZaF s2 = true := hq s2 (by simp)
    have key : mmay (h.on t) [s0, s1, s2] = (amay (toZ h.w0) (toZ h.w1) (toZ h.w2) (toZ h.w3) && (clk h.ce && (!decide (((mZ t).length : Int) > 512) && (upto h.c0 0 h.ce && (upto h.c1 0 h.ce && (upto h.c2 0 h.ce && (upto h.c3 0 h.ce && (Zan h.w0 h.w1 h.w2 h.w3 s0 && (Zan h.w0 h.w1 h.w2 h.w3 s1 && (!decide (s1.id ≤ s0.id) && (Zan h.w0 h.w1 h.w2 h.w3 s2 && (!decide (s2.id ≤ s1.id) && !t.any noEv)))))))))))) := by
      show (amay (toZ h.w0) (toZ h.w1) (toZ h.w2) (toZ h.w3) && ((ck4 h.c0 h.c1 h.c2 h.c3 && clk h.ce) && (!decide (mx4 h.c0 h.c1 h.c2 h.c3 > h.ce) && (!decide ((([s0, s1, s2] : List SesD).length : Int) > 4) && (!decide (((mZ t).length : Int) > 512) && (Zdi [s0, s1, s2] && (([s0, s1, s2] : List SesD).all (Zan h.w0 h.w1 h.w2 h.w3) && !(toZ (mZ t)).any noEv))))))) = _
      rw [Ze3, ← Bool.and_assoc (ck4 h.c0 h.c1 h.c2 h.c3 && clk h.ce), Znx]
      simp only [Zdi, List.all_cons, List.all_nil, Bool.and_true, Bool.true_and, Zjr, (by simp : (!decide ((([s0, s1, s2] : List SesD).length : Int) > 4)) = true)]
      try ac_rfl
    refine Zjg (m := [(14, fTr h [s0, s1, s2] t)]) (.cons ZfY (.cons ZgD (.cons oUp2 (.cons Zn1 .nil)))) mixed (ZfA hw hl) Tryz.func27 rfl rfl rfl ?_
    rw [ZuR]
    refine ⟨?_⟩
    refine bO hA ?_
    refine bN (fun gA => ?_) (fun g => by rw [key, g]; rfl)
    refine bN (fun gC => ?_) (fun g => by rw [key, gA, g]; rfl)
    refine bP (fun gT => ?_) (fun g => by rw [key, gA, gC, g]; rfl)
    refine bN (fun gc0 => ?_) (fun g => by rw [key, gA, gC, gT, g]; simp)
    refine bN (fun gc1 => ?_) (fun g => by rw [key, gA, gC, gT, gc0, g]; simp)
    refine bN (fun gc2 => ?_) (fun g => by rw [key, gA, gC, gT, gc0, gc1, g]; simp)
    refine bN (fun gc3 => ?_) (fun g => by rw [key, gA, gC, gT, gc0, gc1, gc2, g]; simp)
    refine bO (by rw [hA, q0]; rfl) ?_
    refine bN (fun gs0 => ?_) (fun g => by rw [key, gA, gC, gT, gc0, gc1, gc2, gc3, g]; simp)
    refine bO (by rw [hA, q1]; rfl) ?_
    refine bN (fun gs1 => ?_) (fun g => by rw [key, gA, gC, gT, gc0, gc1, gc2, gc3, gs0, g]; simp)
    refine bP (fun gi1 => ?_) (fun g => by rw [key, gA, gC, gT, gc0, gc1, gc2, gc3, gs0, gs1, g]; simp)
    refine bO (by rw [hA, q2]; rfl) ?_
    refine bN (fun gs2 => ?_) (fun g => by rw [key, gA, gC, gT, gc0, gc1, gc2, gc3, gs0, gs1, gi1, g]; simp)
    refine bP (fun gi2 => ?_) (fun g => by rw [key, gA, gC, gT, gc0, gc1, gc2, gc3, gs0, gs1, gi1, gs2, g]; simp)
    exact bT rfl (fun g => by rw [key, gA, gC, gT, gc0, gc1, gc2, gc3, gs0, gs1, gi1, gs2, gi2, g]; rfl) (fun g => by rw [key, gA, gC, gT, gc0, gc1, gc2, gc3, gs0, gs1, gi1, gs2, gi2, g]; rfl)
  · 
    have q0 : ZaF s0 = true := hq s0 (by simp)
    have q1 : ZaF s1 = true := hq s1 (by simp)
    have q2 : ZaF s2 = true := hq s2 (by simp)
    have q3 : ZaF s3 = true := hq s3 (by simp)
    have key : mmay (h.on t) [s0, s1, s2, s3] = (amay (toZ h.w0) (toZ h.w1) (toZ h.w2) (toZ h.w3) && (clk h.ce && (!decide (((mZ t).length : Int) > 512) && (upto h.c0 0 h.ce && (upto h.c1 0 h.ce && (upto h.c2 0 h.ce && (upto h.c3 0 h.ce && (Zan h.w0 h.w1 h.w2 h.w3 s0 && (Zan h.w0 h.w1 h.w2 h.w3 s1 && (!decide (s1.id ≤ s0.id) && (Zan h.w0 h.w1 h.w2 h.w3 s2 && (!decide (s2.id ≤ s1.id) && (Zan h.w0 h.w1 h.w2 h.w3 s3 && (!decide (s3.id ≤ s2.id) && !t.any noEv)))))))))))))) := by
      show (amay (toZ h.w0) (toZ h.w1) (toZ h.w2) (toZ h.w3) && ((ck4 h.c0 h.c1 h.c2 h.c3 && clk h.ce) && (!decide (mx4 h.c0 h.c1 h.c2 h.c3 > h.ce) && (!decide ((([s0, s1, s2, s3] : List SesD).length : Int) > 4) && (!decide (((mZ t).length : Int) > 512) && (Zdi [s0, s1, s2, s3] && (([s0, s1, s2, s3] : List SesD).all (Zan h.w0 h.w1 h.w2 h.w3) && !(toZ (mZ t)).any noEv))))))) = _
      rw [Ze3, ← Bool.and_assoc (ck4 h.c0 h.c1 h.c2 h.c3 && clk h.ce), Znx]
      simp only [Zdi, List.all_cons, List.all_nil, Bool.and_true, Bool.true_and, Zjr, (by simp : (!decide ((([s0, s1, s2, s3] : List SesD).length : Int) > 4)) = true)]
      try ac_rfl
    refine Zjg (m := [(14, fTr h [s0, s1, s2, s3] t)]) (.cons ZfY (.cons ZgD (.cons oUp2 (.cons Zn1 .nil)))) mixed (ZfA hw hl) Tryz.func27 rfl rfl rfl ?_
    rw [Zt9]
    refine ⟨?_⟩
    refine bO hA ?_
    refine bN (fun gA => ?_) (fun g => by rw [key, g]; rfl)
    refine bN (fun gC => ?_) (fun g => by rw [key, gA, g]; rfl)
    refine bP (fun gT => ?_) (fun g => by rw [key, gA, gC, g]; rfl)
    refine bN (fun gc0 => ?_) (fun g => by rw [key, gA, gC, gT, g]; simp)
    refine bN (fun gc1 => ?_) (fun g => by rw [key, gA, gC, gT, gc0, g]; simp)
    refine bN (fun gc2 => ?_) (fun g => by rw [key, gA, gC, gT, gc0, gc1, g]; simp)
    refine bN (fun gc3 => ?_) (fun g => by rw [key, gA, gC, gT, gc0, gc1, gc2, g]; simp)
    refine bO (by rw [hA, q0]; rfl) ?_
    refine bN (fun gs0 => ?_) (fun g => by rw [key, gA, gC, gT, gc0, gc1, gc2, gc3, g]; simp)
    refine bO (by rw [hA, q1]; rfl) ?_
    refine bN (fun gs1 => ?_) (fun g => by rw [key, gA, gC, gT, gc0, gc1, gc2, gc3, gs0, g]; simp)
    refine bP (fun gi1 => ?_) (fun g => by rw [key, gA, gC, gT, gc0, gc1, gc2, gc3, gs0, gs1, g]; simp)
    refine bO (by rw [hA, q2]; rfl) ?_
    refine bN (fun gs2 => ?_) (fun g => by rw [key, gA, gC, gT, gc0, gc1, gc2, gc3, gs0, gs1, gi1, g]; simp)
    refine bP (fun gi2 => ?_) (fun g => by rw [key, gA, gC, gT, gc0, gc1, gc2, gc3, gs0, gs1, gi1, gs2, g]; simp)
    refine bO (by rw [hA, q3]; rfl) ?_
    refine bN (fun gs3 => ?_) (fun g => by rw [key, gA, gC, gT, gc0, gc1, gc2, gc3, gs0, gs1, gi1, gs2, gi2, g]; simp)
    refine bP (fun gi3 => ?_) (fun g => by rw [key, gA, gC, gT, gc0, gc1, gc2, gc3, gs0, gs1, gi1, gs2, gi2, gs3, g]; simp)
    exact bT rfl (fun g => by rw [key, gA, gC, gT, gc0, gc1, gc2, gc3, gs0, gs1, gi1, gs2, gi2, gs3, gi3, g]; rfl) (fun g => by rw [key, gA, gC, gT, gc0, gc1, gc2, gc3, gs0, gs1, gi1, gs2, gi2, gs3, gi3, g]; rfl)
  · refine Zjg (l := [(68, ZbX), (69, sB clk), (56, sUp)]) (m := [(4, fun _ _ => False)]) (.cons ZfY (.cons ZgD (.cons oUp2 .nil))) mixed ZlX Tryz.func27 rfl rfl rfl ?_
    rw [ZtT]
    refine ⟨?_⟩
    have h6 : mmay (h.on t) (s0 :: s1 :: s2 :: s3 :: s4 :: l) = false := by
      unfold mmay
      rw [(by simp; omega : (!decide (((s0 :: s1 :: s2 :: s3 :: s4 :: l).length : Int) > 4)) = false)]
      simp
    rw [h6]
    refine bO hA (bN (fun _ => bN (fun _ => bP (fun g => ?_) fun _ => rfl) fun _ => rfl) fun _ => rfl)
    simp at g
    omega
theorem cRM (h : Mh) (ss : List SesD) (hok : okM h ss = true) : CT Tryz.prog 27 [.agg (macL 0 h ss)] (B (mmay h ss)) := by
  obtain ⟨h1, h2, h3⟩ := ZbZ hok
  obtain ⟨e, hw, hl⟩ := Zah h2
  have := cRMt h ss (toZ h.tr) h1 hw (by rw [Zat]; exact hl) h3
  have eh : h.on (toZ h.tr) = h := by unfold Mh.on; rw [← e]
  rwa [eh] at this
def sRMm : Spec := fun ds Q => match ds with
  | [d] => macA d fun h ss => cond (okM h ss) (Q (B (mmay h ss))) False
  | _ => False
theorem oRMm : Zac Tryz.prog 27 sRMm := o_al Tryz.func27 (by kernel_rfl) rfl fun ds Q h => by
  unfold sRMm at h; split at h
  · obtain ⟨m, ss, h, r⟩ := ZbD h
    obtain ⟨h1, h2⟩ := Zaf h
    exact ⟨_, _, .cons r .nil, cRM m ss h1, rfl, rfl, h2⟩
  · exact h.elim
end

section
open Go Go.Proofs
theorem Zqh {R : List (List D)} (h : smR 4398046510977 R = true) : allV R = true ∧ decide (R.length * 32 ≤ 140737488355328) = true ∧ decide (R.length ≤ 9223372036854775807) = true ∧ (R.all fun r => r.all D.keeps) = true := by
  obtain ⟨a, b, c⟩ := Zab h
  exact ⟨a, decide_eq_true (by omega), decide_eq_true (by omega), c⟩
theorem Zqo {R : List (List D)} (h : smR 5864062014635 R = true) : allV R = true ∧ decide (R.length * 24 ≤ 140737488355328) = true ∧ decide (R.length ≤ 9223372036854775807) = true ∧ (R.all fun r => r.all D.keeps) = true := by
  obtain ⟨a, b, c⟩ := Zab h
  exact ⟨a, decide_eq_true (by omega), decide_eq_true (by omega), c⟩
theorem ZtQ (s : SesD) (K : DV → Prop) : (ask Tryz.prog [] Tryz.f98 [.agg (sesL 0 s)] K) = (bif allV s.pg then bif true && (decide ((0 + List.length s.pg) * 32 ≤ 140737488355328) && decide (0 + List.length s.pg ≤ 9223372036854775807)) then bif allV s.rd then bif true && (decide ((0 + List.length s.rd) * 24 ≤ 140737488355328) && decide (0 + List.length s.rd ≤ 9223372036854775807)) then bif allV s.wt then bif true && (decide ((0 + List.length s.wt) * 24 ≤ 140737488355328) && decide (0 + List.length s.wt ≤ 9223372036854775807)) then bif decide (0 + List.length s.pg ≤ List.length ([] ++ s.pg)) && List.all ([] ++ s.pg) fun r => List.all r D.keeps then bif decide (0 + List.length s.rd ≤ List.length ([] ++ s.rd)) && List.all ([] ++ s.rd) fun r => List.all r D.keeps then bif decide (0 + List.length s.wt ≤ List.length ([] ++ s.wt)) && List.all ([] ++ s.wt) fun r => List.all r D.keeps then K (DV.agg [vN s.id, vN s.lb, vN s.cl, D.s (1) (4) (List.take (0 + List.length s.pg) ([] ++ s.pg)) (List.take (0 + List.length s.pg - (0 + List.length s.pg)) (List.drop (0 + List.length s.pg) ([] ++ s.pg))), vN s.st, vN s.pc, vN s.r0, vN s.r1, vN s.r2, vN s.r3, D.s (1) (3) (List.take (0 + List.length s.rd) ([] ++ s.rd)) (List.take (0 + List.length s.rd - (0 + List.length s.rd)) (List.drop (0 + List.length s.rd) ([] ++ s.rd))), D.s (1) (3) (List.take (0 + List.length s.wt) ([] ++ s.wt)) (List.take (0 + List.length s.wt - (0 + List.length s.wt)) (List.drop (0 + List.length s.wt) ([] ++ s.wt))), vN s.at', vN s.sp, vN s.tr, vN s.rs, vN s.to]) else False else False else False else False else False else False else False else False else False) := by kernel_rfl
theorem Zup (s : SesD) (hs : smS s = true) : CT Tryz.prog 98 [.agg (sesL 0 s)] (.agg (sesL 1 s)) := by
  obtain ⟨h1, h2, h3⟩ := ZaD hs
  obtain ⟨a1, a2, a3, a4⟩ := Zqh h1
  obtain ⟨b1, b2, b3, b4⟩ := Zqo h2
  obtain ⟨c1, c2, c3, c4⟩ := Zqo h3
  refine ct_s .nil mixed Tryz.func98 rfl rfl rfl ?_
  rw [ZtQ]
  refine ⟨?_⟩
  simp only [a1, a2, a3, a4, b1, b2, b3, b4, c1, c2, c3, c4, Nat.zero_add, List.nil_append, List.append_nil, Nat.le_refl, decide_true, Bool.and_self, Bool.true_and, cond_true, ZbT, Nat.add_zero, Nat.sub_self, List.take_zero]
  rfl
theorem Zm3 : Zac Tryz.prog 98 Zee := o_al Tryz.func98 (by kernel_rfl) rfl fun ds Q h => by
  unfold Zee at h; split at h
  · obtain ⟨s, h, r⟩ := ZbQ h
    obtain ⟨h1, h2⟩ := Zaf h
    exact ⟨_, _, .cons r .nil, Zup s h1, Zfj h1, rfl, h2⟩
  · exact h.elim
theorem Zsl (h : Mh) (K : DV → Prop) : (askH Tryz.prog (hkM [(97, Zcm), (98, Zee)] [] []) Tryz.f58 [.agg (macL 0 h [])] K) = (bif okC4 h.w0 h.w1 h.w2 h.w3 then bif allV h.tr then bif true && (decide ((0 + List.length h.tr) * 32 ≤ 140737488355328) && decide (0 + List.length h.tr ≤ 9223372036854775807)) then bif kX h.w0 then bif kX h.w1 then bif kX h.w2 then bif kX h.w3 then bif decide (0 + List.length h.tr ≤ List.length ([] ++ h.tr)) && List.all ([] ++ h.tr) fun r => List.all r D.keeps then K (DV.agg [D.s (1) (3) (tC h.w0) (tD h.w0), D.s (1) (3) (tC h.w1) (tD h.w1), D.s (1) (3) (tC h.w2) (tD h.w2), D.s (1) (3) (tC h.w3) (tD h.w3), vN h.c0, vN h.c1, vN h.c2, vN h.c3, vN h.ce, nilV, D.s (1) (4) (List.take (0 + List.length h.tr) ([] ++ h.tr)) (List.take (0 + List.length h.tr - (0 + List.length h.tr)) (List.drop (0 + List.length h.tr) ([] ++ h.tr)))]) else False else False else False else False else False else False else False else False) := by kernel_rfl
theorem Zsc (h : Mh) (s0 : SesD) (K : DV → Prop) : (askH Tryz.prog (hkM [(97, Zcm), (98, Zee)] [] []) Tryz.f58 [.agg (macL 0 h [s0])] K) = (bif okC4 h.w0 h.w1 h.w2 h.w3 then bif smS s0 then bif allV h.tr then bif true && (decide ((0 + List.length h.tr) * 32 ≤ 140737488355328) && decide (0 + List.length h.tr ≤ 9223372036854775807)) then bif kX h.w0 then bif kX h.w1 then bif kX h.w2 then bif kX h.w3 then bif kX s0.pg then bif kX s0.rd then bif kX s0.wt then bif decide (0 + List.length h.tr ≤ List.length ([] ++ h.tr)) && List.all ([] ++ h.tr) fun r => List.all r D.keeps then K (DV.agg [D.s (1) (3) (tC h.w0) (tD h.w0), D.s (1) (3) (tC h.w1) (tD h.w1), D.s (1) (3) (tC h.w2) (tD h.w2), D.s (1) (3) (tC h.w3) (tD h.w3), vN h.c0, vN h.c1, vN h.c2, vN h.c3, vN h.ce, D.s (1) (17) [(sTt s0)] [], D.s (1) (4) (List.take (0 + List.length h.tr) ([] ++ h.tr)) (List.take (0 + List.length h.tr - (0 + List.length h.tr)) (List.drop (0 + List.length h.tr) ([] ++ h.tr)))]) else False else False else False else False else False else False else False else False else False else False else False else False) := by kernel_rfl
theorem Zsa (h : Mh) (s0 s1 : SesD) (K : DV → Prop) : (askH Tryz.prog (hkM [(97, Zcm), (98, Zee)] [] []) Tryz.f58 [.agg (macL 0 h [s0, s1])] K) = (bif okC4 h.w0 h.w1 h.w2 h.w3 then bif smS s0 then bif smS s1 then bif allV h.tr then bif true && (decide ((0 + List.length h.tr) * 32 ≤ 140737488355328) && decide (0 + List.length h.tr ≤ 9223372036854775807)) then bif kX h.w0 then bif kX h.w1 then bif kX h.w2 then bif kX h.w3 then bif kX s0.pg then bif kX s0.rd then bif kX s0.wt then bif kX s1.pg then bif kX s1.rd then bif kX s1.wt then bif decide (0 + List.length h.tr ≤ List.length ([] ++ h.tr)) && List.all ([] ++ h.tr) fun r => List.all r D.keeps then K (DV.agg [D.s (1) (3) (tC h.w0) (tD h.w0), D.s (1) (3) (tC h.w1) (tD h.w1), D.s (1) (3) (tC h.w2) (tD h.w2), D.s (1) (3) (tC h.w3) (tD h.w3), vN h.c0, vN h.c1, vN h.c2, vN h.c3, vN h.ce, D.s (1) (17) [(sTt s0), (sTt s1)] [], D.s (1) (4) (List.take (0 + List.length h.tr) ([] ++ h.tr)) (List.take (0 + List.length h.tr - (0 + List.length h.tr)) (List.drop (0 + List.length h.tr) ([] ++ h.tr)))]) else False else False else False else False else False else False else False else False else False else False else False else False else False else False else False else False) := by kernel_rfl
theorem Zsp (h : Mh) (s0 s1 s2 : SesD) (K : DV → Prop) : (askH Tryz.prog (hkM [(97, Zcm), (98, Zee)] [] []) Tryz.f58 [.agg (macL 0 h [s0, s1, s2])] K) = (bif okC4 h.w0 h.w1 h.w2 h.w3 then bif smS s0 then bif smS s1 then bif smS s2 then bif allV h.tr then bif true && (decide ((0 + List.length h.tr) * 32 ≤ 140737488355328) && decide (0 + List.length h.tr ≤ 9223372036854775807)) then bif kX h.w0 then bif kX h.w1 then bif kX h.w2 then bif kX h.w3 then bif kX s0.pg then bif kX s0.rd then bif kX s0.wt then bif kX s1.pg then bif kX s1.rd then bif kX s1.wt then bif kX s2.pg then bif kX s2.rd then bif kX s2.wt then bif decide (0 + List.length h.tr ≤ List.length ([] ++ h.tr)) && List.all ([] ++ h.tr) fun r => List.all r D.keeps then K (DV.agg [D.s (1) (3) (tC h.w0) (tD h.w0), D.s (1) (3) (tC h.w1) (tD h.w1), D.s (1) (3) (tC h.w2) (tD h.w2), D.s (1) (3) (tC h.w3) (tD h.w3), vN h.c0, vN h.c1, vN h.c2, vN h.c3, vN h.ce, D.s (1) (17) [(sTt s0), (sTt s1), (sTt s2)] [], D.s (1) (4) (List.take (0 + List.length h.tr) ([] ++ h.tr)) (List.take (0 + List.length h.tr - (0 + List.length h.tr)) (List.drop (0 + List.length h.tr) ([] ++ h.tr)))]) else False else False else False else False else False else False else False else False else False else False else False else False else False else False else False else False else False else False else False else False) := by kernel_rfl
theorem Zss (h : Mh) (s0 s1 s2 s3 : SesD) (K : DV → Prop) : (askH Tryz.prog (hkM [(97, Zcm), (98, Zee)] [] []) Tryz.f58 [.agg (macL 0 h [s0, s1, s2, s3])] K) = (bif okC4 h.w0 h.w1 h.w2 h.w3 then bif smS s0 then bif smS s1 then bif smS s2 then bif smS s3 then bif allV h.tr then bif true && (decide ((0 + List.length h.tr) * 32 ≤ 140737488355328) && decide (0 + List.length h.tr ≤ 9223372036854775807)) then bif kX h.w0 then bif kX h.w1 then bif kX h.w2 then bif kX h.w3 then bif kX s0.pg then bif kX s0.rd then bif kX s0.wt then bif kX s1.pg then bif kX s1.rd then bif kX s1.wt then bif kX s2.pg then bif kX s2.rd then bif kX s2.wt then bif kX s3.pg then bif kX s3.rd then bif kX s3.wt then bif decide (0 + List.length h.tr ≤ List.length ([] ++ h.tr)) && List.all ([] ++ h.tr) fun r => List.all r D.keeps then K (DV.agg [D.s (1) (3) (tC h.w0) (tD h.w0), D.s (1) (3) (tC h.w1) (tD h.w1), D.s (1) (3) (tC h.w2) (tD h.w2), D.s (1) (3) (tC h.w3) (tD h.w3), vN h.c0, vN h.c1, vN h.c2, vN h.c3, vN h.ce, D.s (1) (17) [(sTt s0), (sTt s1), (sTt s2), (sTt s3)] [], D.s (1) (4) (List.take (0 + List.length h.tr) ([] ++ h.tr)) (List.take (0 + List.length h.tr - (0 + List.length h.tr)) (List.drop (0 + List.length h.tr) ([] ++ h.tr)))]) else False else False else False else False else False else False else False else False else False else False else False else False else False else False else False else False else False else False else False else False else False else False else False else False) := by kernel_rfl
theorem Zud (h : Mh) (ss : List SesD) (hl : ss.length ≤ 4) (hm : smM h ss = true) : CT Tryz.prog 58 [.agg (macL 0 h ss)] (.agg (macL 1 h ss)) := by
  have h4 := Zqe hm
  obtain ⟨⟨a0, a1, a2, a3⟩, a4, a5⟩ := Zec hm
  obtain ⟨_, _, b0⟩ := Zab a0
  obtain ⟨_, _, b1⟩ := Zab a1
  obtain ⟨_, _, b2⟩ := Zab a2
  obtain ⟨_, _, b3⟩ := Zab a3
  obtain ⟨t1, t2, t3, t4⟩ := Zqh a4
  rcases ss with _ | ⟨s0, _ | ⟨s1, _ | ⟨s2, _ | ⟨s3, _ | ⟨s4, l⟩⟩⟩⟩⟩
  · refine Zr2 (.cons ZiY (.cons Zm3 .nil)) .nil .nil mixed Tryz.func58 rfl rfl rfl ?_
    rw [Zsl]
    refine ⟨?_⟩
    simp only [kX, tC, tD, sTt]
    simp only [h4, b0, b1, b2, b3, t1, t2, t3, t4, Nat.zero_add, List.nil_append, List.append_nil, Nat.le_refl, decide_true, Bool.and_self, Bool.true_and, cond_true, ZbT, Nat.add_zero, Nat.sub_self, List.take_zero]
    exact .aggO (.cons (.refl _) (.cons (.refl _) (.cons (.refl _) (.cons (.refl _) (.cons (.refl _) (.cons (.refl _) (.cons (.refl _) (.cons (.refl _) (.cons (.refl _) (.cons (.nil 17) (.cons (.refl _) .nil)))))))))))
  · have q0 := a5 s0 (by simp)
    obtain ⟨p0, r0, w0⟩ := ZaD q0
    obtain ⟨_, _, x0⟩ := Zab p0
    obtain ⟨_, _, y0⟩ := Zab r0
    obtain ⟨_, _, z0⟩ := Zab w0
    refine ct_m (.cons ZiY (.cons Zm3 .nil)) .nil .nil mixed Tryz.func58 rfl rfl rfl ?_
    rw [Zsc]
    refine ⟨?_⟩
    simp only [kX, tC, tD, sTt]
    simp only [h4, b0, b1, b2, b3, t1, t2, t3, t4, q0, x0, y0, z0, Nat.zero_add, List.nil_append, List.append_nil, Nat.le_refl, decide_true, Bool.and_self, Bool.true_and, cond_true, ZbT, Nat.add_zero, Nat.sub_self, List.take_zero]
    rfl
  · have q0 := a5 s0 (by simp)
    obtain ⟨p0, r0, w0⟩ := ZaD q0
    obtain ⟨_, _, x0⟩ := Zab p0
    obtain ⟨_, _, y0⟩ := Zab r0
    obtain ⟨_, _, z0⟩ := Zab w0
    have q1 := a5 s1 (by simp)
    obtain ⟨p1, r1, w1⟩ := ZaD q1
    obtain ⟨_, _, x1⟩ := Zab p1
    obtain ⟨_, _, y1⟩ := Zab r1
    obtain ⟨_, _, z1⟩ := Zab w1
    refine ct_m (.cons ZiY (.cons Zm3 .nil)) .nil .nil mixed Tryz.func58 rfl rfl rfl ?_
    rw [Zsa]
    refine ⟨?_⟩
    simp only [kX, tC, tD, sTt]
    simp only [h4, b0, b1, b2, b3, t1, t2, t3, t4, q0, x0, y0, z0, q1, x1, y1, z1, Nat.zero_add, List.nil_append, List.append_nil, Nat.le_refl, decide_true, Bool.and_self, Bool.true_and, cond_true, ZbT, Nat.add_zero, Nat.sub_self, List.take_zero]
    rfl
  · have q0 := a5 s0 (by simp)
    obtain ⟨p0, r0, w0⟩ := ZaD q0
    obtain ⟨_, _, x0⟩ := Zab p0
    obtain ⟨_, _, y0⟩ := Zab r0
    obtain ⟨_, _, z0⟩ := Zab w0
    have q1 := a5 s1 (by simp)
    obtain ⟨p1, r1, w1⟩ := ZaD q1
    obtain ⟨_, _, x1⟩ := Zab p1
    obtain ⟨_, _, y1⟩ := Zab r1
    obtain ⟨_, _, z1⟩ := Zab w1
    have q2 := a5 s2 (by simp)
    obtain ⟨p2, r2, w2⟩ := ZaD q2
    obtain ⟨_, _, x2⟩ := Zab p2
    obtain ⟨_, _, y2⟩ := Zab r2
    obtain ⟨_, _, z2⟩ := Zab w2
    refine ct_m (.cons ZiY (.cons Zm3 .nil)) .nil .nil mixed Tryz.func58 rfl rfl rfl ?_
    rw [Zsp]
    refine ⟨?_⟩
    simp only [kX, tC, tD, sTt]
    simp only [h4, b0, b1, b2, b3, t1, t2, t3, t4, q0, x0, y0, z0, q1, x1, y1, z1, q2, x2, y2, z2, Nat.zero_add, List.nil_append, List.append_nil, Nat.le_refl, decide_true, Bool.and_self, Bool.true_and, cond_true, ZbT, Nat.add_zero, Nat.sub_self, List.take_zero]
    rfl
  · have q0 := a5 s0 (by simp)
    obtain ⟨p0, r0, w0⟩ := ZaD q0
    obtain ⟨_, _, x0⟩ := Zab p0
    obtain ⟨_, _, y0⟩ := Zab r0
    obtain ⟨_, _, z0⟩ := Zab w0
    have q1 := a5 s1 (by simp)
    obtain ⟨p1, r1, w1⟩ := ZaD q1
    obtain ⟨_, _, x1⟩ := Zab p1
    obtain ⟨_, _, y1⟩ := Zab r1
    obtain ⟨_, _, z1⟩ := Zab w1
    have q2 := a5 s2 (by simp)
    obtain ⟨p2, r2, w2⟩ := ZaD q2
    obtain ⟨_, _, x2⟩ := Zab p2
    obtain ⟨_, _, y2⟩ := Zab r2
    obtain ⟨_, _, z2⟩ := Zab w2
    have q3 := a5 s3 (by simp)
    obtain ⟨p3, r3, w3⟩ := ZaD q3
    obtain ⟨_, _, x3⟩ := Zab p3
    obtain ⟨_, _, y3⟩ := Zab r3
    obtain ⟨_, _, z3⟩ := Zab w3
    refine ct_m (.cons ZiY (.cons Zm3 .nil)) .nil .nil mixed Tryz.func58 rfl rfl rfl ?_
    rw [Zss]
    refine ⟨?_⟩
    simp only [kX, tC, tD, sTt]
    simp only [h4, b0, b1, b2, b3, t1, t2, t3, t4, q0, x0, y0, z0, q1, x1, y1, z1, q2, x2, y2, z2, q3, x3, y3, z3, Nat.zero_add, List.nil_append, List.append_nil, Nat.le_refl, decide_true, Bool.and_self, Bool.true_and, cond_true, ZbT, Nat.add_zero, Nat.sub_self, List.take_zero]
    rfl
  · simp at hl
theorem ZuB : Zac Tryz.prog 58 sCop := o_al Tryz.func58 (by kernel_rfl) rfl fun ds Q h => by
  unfold sCop at h; split at h
  · obtain ⟨m, ss, h, r⟩ := ZbD h
    obtain ⟨h1, h2⟩ := Zaf h
    rw [Bool.and_eq_true] at h1
    exact ⟨_, _, .cons r .nil, Zud m ss (Nat.le_of_ble_eq_true h1.1) h1.2, ZhO h1.2, rfl, h2⟩
  · exact h.elim
end

section
open Go Go.Proofs
theorem CTN.args {P : Program} {f : FuncId} {ds es : List DV} {r : DV} (h : All2 AL ds es) (hc : CTN P f es r) : CTN P f ds r := fun w vs S G hov => by
  refine hc w vs S G ?_
  cases hov with
  | tup _ _ _ sub h1 h2 h3 h4 =>
    refine .tup vs es S sub (by rw [← h.len]; exact h1) (fun i e hi => ?_) h3 h4
    obtain ⟨d, g1, g2⟩ := h.get hi
    exact g2 _ _ _ _ (h2 i d g1)
theorem ZhJ {P : Program} {f : FuncId} {s s' : Spec} (hs : Zac P f s) (hd : ∀ ds Q, s' ds Q → ∃ es, All2 AL ds es ∧ s es Q) : Zac P f s' := fun ds Q h => by
  obtain ⟨es, h1, h2⟩ := hd ds Q h
  obtain ⟨hg, r, hc, hp, hf, hq⟩ := hs es Q h2
  exact ⟨hg, r, hc.args h1, .inr (.inr ((Zjc hc hp).args h1)), hf, hq⟩
def Zob (cs : List D) (K : List (List D) → List (List D) → List (List D) → List (List D) → Prop) : Prop := match cs with
  | [a, b, c, d] => Zb1 1 a fun a => Zb1 1 b fun b => Zb1 1 c fun c => Zb1 1 d fun d => K a b c d
  | _ => False
theorem Zkn {cs : List D} {K : List (List D) → List (List D) → List (List D) → List (List D) → Prop} (h : Zob cs K) : ∃ a b c d, K a b c d ∧ All2 RD cs [.s 0 1 a [], .s 0 1 b [], .s 0 1 c [], .s 0 1 d []] := by
  unfold Zob at h
  split at h
  · obtain ⟨a, h, e0⟩ := Zas h
    obtain ⟨b, h, e1⟩ := Zas h
    obtain ⟨c, h, e2⟩ := Zas h
    obtain ⟨d, h, e3⟩ := Zas h
    exact ⟨a, b, c, d, h, .cons e0 (.cons e1 (.cons e2 (.cons e3 .nil)))⟩
  · exact h.elim
def Zmr : Spec := fun ds Q => match ds with
  | [.agg cs] => cond (Zin cs) (Zob cs fun R0 R1 R2 R3 => cond (okV4 R0 R1 R2 R3) (cond (amay (toZ (mW R0)) (toZ (mW R1)) (toZ (mW R2)) (toZ (mW R3))) (Q (.tup [dO (mW R0) (mW R1) (mW R2) (mW R3), I 0])) (Q (.tup [dNil, I 400]))) False) False
  | _ => False
theorem ZlG : ∀ ds Q, Zmr ds Q → ∃ es, All2 AL ds es ∧ sNew es Q := fun ds Q h => by
  unfold Zmr at h; split at h
  · obtain ⟨h0, h⟩ := Zaf h
    obtain ⟨a, b, c, d, h, r⟩ := Zkn h
    exact ⟨_, .cons (.agg r h0 rfl) .nil, h⟩
  · exact h.elim
theorem Zt4 : Zac Tryz.prog 48 Zmr := ZhJ oNew ZlG
theorem Zs7 : Zac Tryz.prog 50 Zmr := ZhJ ZuD ZlG
def ZlT (cs : List D) (K : Int → Int → Int → List (List D) → Prop) : Prop := match cs with
  | [a, b, c, d] => ZbA a fun a => ZbA b fun b => ZbA c fun c => Zb1 4 d fun d => K a b c d
  | _ => False
theorem ZfS {cs : List D} {K : Int → Int → Int → List (List D) → Prop} (h : ZlT cs K) : ∃ a b c d, K a b c d ∧ All2 RD cs [vN a, vN b, vN c, .s 0 4 d []] := by
  unfold ZlT at h
  split at h
  · obtain ⟨a, h, e0⟩ := Zal h
    obtain ⟨b, h, e1⟩ := Zal h
    obtain ⟨c, h, e2⟩ := Zal h
    obtain ⟨d, h, e3⟩ := Zas h
    exact ⟨a, b, c, d, h, .cons e0 (.cons e1 (.cons e2 (.cons e3 .nil)))⟩
  · exact h.elim
def ZgS : Spec := fun ds Q => match ds with
  | [.agg cs] => cond (Zin cs) (ZlT cs fun i g c R => cond (okZ 4 R && decide (R.length ≤ 4398046510977)) (cond (smay i g c (toZ R)) (Q (.tup [Zla i g c (.s 1 4 R []), I 0])) (Q (.tup [Zla 0 0 0 nilD, I 1100]))) False) False
  | _ => False
theorem ZjR : ∀ ds Q, ZgS ds Q → ∃ es, All2 AL ds es ∧ ZmR es Q := fun ds Q h => by
  unfold ZgS at h; split at h
  · obtain ⟨h0, h⟩ := Zaf h
    obtain ⟨a, b, c, d, h, r⟩ := ZfS h
    exact ⟨_, .cons (.agg r h0 rfl) .nil, h⟩
  · exact h.elim
theorem Zr1 : Zac Tryz.prog 49 ZgS := ZhJ Zsr ZjR
theorem Zq2 : Zac Tryz.prog 51 ZgS := ZhJ ZsW ZjR
def Zsg : Inl := inlM Tryz.prog [(50, Zmr), (51, ZgS), (27, sRMm)] [] [] Tryz.f21
end

section
open Go Go.Proofs
theorem Zt0 (h : Mh) (ss : List SesD) (at' : Int) (K : DV → Prop) : (ask Tryz.prog [(27, sAtD [.agg (macL 0 h ss)] (B (mmay h ss)))] Tryz.f55 [.agg (macL 0 h ss), I at'] K) = ([DV.agg (macL (0) h ss)] = [DV.agg (macL (0) h ss)] ∧ bif mmay h ss then bif decide (at' ≥ 0) then K (DV.c (D.v (Value.bool (decide (at' < @Nat.cast Int _ (List.length (List.map (sesL (0)) ss))))))) else K (DV.c (D.v (Value.bool false))) else K (DV.c (D.v (Value.bool false)))) := by kernel_rfl
theorem gRM : Goes Tryz.prog 27 := Zax Tryz.func27 (by kernel_rfl) rfl
theorem ZtK (h : Mh) (ss : List SesD) (i : Int) (hok : okM h ss = true) : CT Tryz.prog 55 [.agg (macL 0 h ss), I i] (B (ZcX h ss i)) := by
  refine ct_s (.cons (oAtD gRM (cRM h ss hok) rfl rfl) .nil) mixed Tryz.func55 rfl rfl rfl ?_
  rw [Zt0]
  refine ⟨rfl, ?_⟩
  unfold ZcX
  rw [List.length_map]
  simp only [bifK]
def ZqC : Spec := fun ds Q => match ds with
  | [d, e] => macA d fun h ss => inA e fun i => cond (okM h ss) (Q (B (ZcX h ss i))) False
  | _ => False
theorem ZuM : Zac Tryz.prog 55 ZqC := o_al Tryz.func55 (by kernel_rfl) rfl fun ds Q h => by
  unfold ZqC at h; split at h
  · obtain ⟨m, ss, h, r⟩ := ZbD h
    obtain ⟨i, h, rfl⟩ := ZpE h
    obtain ⟨h1, h2⟩ := Zaf h
    exact ⟨_, _, .cons r (.cons (.refl _) .nil), ZtK m ss i h1, rfl, rfl, h2⟩
  · exact h.elim
def iRtl : Inl := inlM Tryz.prog [] [] [] Tryz.f57
theorem Zng : Zbl Tryz.prog 57 iRtl := Za9 .nil .nil .nil mixed Tryz.func57 rfl (Zax Tryz.func57 (by kernel_rfl) rfl)
end

section
open Go Go.Proofs
def frcI (n : Int) (K : Int → Prop) : Prop := match n with
  | .ofNat m => frcN m fun m => K (.ofNat m)
  | .negSucc m => frcN m fun m => K (.negSucc m)
theorem Zn6 {n : Int} {K : Int → Prop} (h : frcI n K) : K n := by
  unfold frcI at h; split at h
  · exact Za6 h
  · exact Za6 h
def Zpz (f : D → (D → Prop) → Prop) : List D → (List D → Prop) → Prop
  | [], K => K []
  | d :: l, K => f d fun d => Zpz f l fun l => K (d :: l)
def Zp2 (f : D → (D → Prop) → Prop) : List (List D) → (List (List D) → Prop) → Prop
  | [], K => K []
  | r :: l, K => Zpz f r fun r => Zp2 f l fun l => K (r :: l)
def frcX : Nat → D → (D → Prop) → Prop
  | 0, d, K => K d
  | n + 1, d, K => match d with
    | .s t z rows sp => Zp2 (frcX n) rows fun rows => Zp2 (frcX n) sp fun sp => K (.s t z rows sp)
    | .v x => match x with
      | .int k i => frcI i fun i => K (.v (.int k i))
      | x => K (.v x)
    | d => K d
theorem Zev {f : D → (D → Prop) → Prop} (hf : ∀ d K, f d K → K d) : ∀ (l : List D) (K : List D → Prop), Zpz f l K → K l
  | [], K, h => h
  | d :: l, K, h => Zev hf l _ (hf d _ h)
theorem Zek {f : D → (D → Prop) → Prop} (hf : ∀ d K, f d K → K d) : ∀ (l : List (List D)) (K : List (List D) → Prop), Zp2 f l K → K l
  | [], K, h => h
  | r :: l, K, h => Zek hf l _ (Zev hf r _ h)
theorem Zdk : ∀ (n : Nat) (d : D) (K : D → Prop), frcX n d K → K d
  | 0, d, K, h => h
  | n + 1, d, K, h => by
    unfold frcX at h; split at h
    · exact Zek (Zdk n) _ _ (Zek (Zdk n) _ _ h)
    · split at h
      · exact Zn6 h
      · exact h
    · exact h
def frcV (d : DV) (K : DV → Prop) : Prop := match d with
  | .c d => frcX 3 d fun d => K (.c d)
  | .agg cs => Zpz (frcX 3) cs fun cs => K (.agg cs)
  | .tup [.c d, e] => frcX 3 d fun d => K (.tup [.c d, e])
  | d => K d
theorem Zom {d : DV} {K : DV → Prop} (h : frcV d K) : K d := by
  unfold frcV at h; split at h
  · exact Zdk 3 _ _ h
  · exact Zev (Zdk 3) _ _ h
  · exact Zdk 3 _ _ h
  · exact h
def sF (s : Spec) : Spec := fun ds Q => s ds fun r => frcV r Q
theorem oF {P : Program} {f : FuncId} {s : Spec} (h : Zac P f s) : Zac P f (sF s) := fun ds Q hq => by
  obtain ⟨hg, r, hc, hp, hf, hq⟩ := h ds _ hq
  exact ⟨hg, r, hc, hp, hf, Zom hq⟩
def Zd5 : Inl := ZmE Tryz.prog [34] (sF sCop)
theorem ZbN : Zbl Tryz.prog 58 Zd5 := ZdS (oF ZuB)
def spC : List (FuncId × Spec) := [(55, ZqC), (56, sUp), (146, sUnd), (68, ZbX), (122, sRM), (123, sWMy), (145, sB idm), (164, ZeH), (121, Zpd), (136, sB lab)]
theorem ZbG : SpecsOK Tryz.prog spC := .cons (ZuM) (.cons (oUp2) (.cons (Zs2) (.cons (ZfY) (.cons (oQM) (.cons (oWPy) (.cons (oRId) (.cons (ZjM) (.cons (Zr5) (.cons (Zse) (.nil))))))))))
def jRT : Inl := inlM Tryz.prog spC [] [] Tryz.f165
theorem ZsP : Zbl Tryz.prog 165 jRT := Za9 ZbG .nil (.nil) mixed Tryz.func165 rfl (Zax Tryz.func165 (by kernel_rfl) rfl)
def ZsS : Inl := inlM Tryz.prog spC [] [(165, jRT)] Tryz.f176
theorem ZpI : Zbl Tryz.prog 176 ZsS := Za9 ZbG .nil (.cons ZsP (.nil)) mixed Tryz.func176 rfl (Zax Tryz.func176 (by kernel_rfl) rfl)
def jWR : Inl := inlM Tryz.prog spC [] [] Tryz.f190
theorem Zr6 : Zbl Tryz.prog 190 jWR := Za9 ZbG .nil (.nil) mixed Tryz.func190 rfl (Zax Tryz.func190 (by kernel_rfl) rfl)
def jFW : Inl := inlM Tryz.prog spC [] [] Tryz.f189
theorem Zsz : Zbl Tryz.prog 189 jFW := Za9 ZbG .nil (.nil) mixed Tryz.func189 rfl (Zax Tryz.func189 (by kernel_rfl) rfl)
def jPl : Inl := inlM Tryz.prog spC [] [] Tryz.f141
theorem Zs6 : Zbl Tryz.prog 141 jPl := Za9 ZbG .nil (.nil) mixed Tryz.func141 rfl (Zax Tryz.func141 (by kernel_rfl) rfl)
def jWW : Inl := inlM Tryz.prog spC [] [(141, jPl)] Tryz.f87
theorem Zr3 : Zbl Tryz.prog 87 jWW := Za9 ZbG .nil (.cons Zs6 (.nil)) mixed Tryz.func87 rfl (Zax Tryz.func87 (by kernel_rfl) rfl)
def jWA : Inl := inlM Tryz.prog spC [] [] Tryz.f171
theorem ZsZ : Zbl Tryz.prog 171 jWA := Za9 ZbG .nil (.nil) mixed Tryz.func171 rfl (Zax Tryz.func171 (by kernel_rfl) rfl)
def jAdd : Inl := inlM Tryz.prog spC [] [] Tryz.f85
theorem ZqD : Zbl Tryz.prog 85 jAdd := Za9 ZbG .nil (.nil) mixed Tryz.func85 rfl (Zax Tryz.func85 (by kernel_rfl) rfl)
def Zis : Inl := inlM Tryz.prog spC [] [] Tryz.f83
theorem ZdZ : Zbl Tryz.prog 83 Zis := Za9 ZbG .nil (.nil) mixed Tryz.func83 rfl (Zax Tryz.func83 (by kernel_rfl) rfl)
def Znr : Inl := inlM Tryz.prog spC [] [(83, Zis)] Tryz.f167
theorem ZjA : Zbl Tryz.prog 167 Znr := Za9 ZbG .nil (.cons ZdZ (.nil)) mixed Tryz.func167 rfl (Zax Tryz.func167 (by kernel_rfl) rfl)
def Zqq : Inl := inlM Tryz.prog spC [] [(167, Znr), (58, Zd5), (57, iRtl), (176, ZsS), (190, jWR), (189, jFW)] Tryz.f169
theorem Zog : Zbl Tryz.prog 169 Zqq := Za9 ZbG .nil (.cons ZjA (.cons ZbN (.cons Zng (.cons ZpI (.cons Zr6 (.cons Zsz (.nil))))))) mixed Tryz.func169 rfl (Zax Tryz.func169 (by kernel_rfl) rfl)
def Zqr : Inl := inlM Tryz.prog spC [] [(83, Zis), (58, Zd5), (57, iRtl), (87, jWW)] Tryz.f39
theorem Zns : Zbl Tryz.prog 39 Zqr := Za9 ZbG .nil (.cons ZdZ (.cons ZbN (.cons Zng (.cons Zr3 (.nil))))) mixed Tryz.func39 rfl (Zax Tryz.func39 (by kernel_rfl) rfl)
def ZsX : Inl := inlM Tryz.prog spC [] [(83, Zis), (58, Zd5), (85, jAdd)] Tryz.f34
theorem ZpL : Zbl Tryz.prog 34 ZsX := Za9 ZbG .nil (.cons ZdZ (.cons ZbN (.cons ZqD (.nil)))) mixed Tryz.func34 rfl (Zax Tryz.func34 (by kernel_rfl) rfl)
def jRun : Inl := inlM Tryz.prog spC [] [(83, Zis), (167, Znr), (169, Zqq), (39, Zqr), (34, ZsX), (58, Zd5), (171, jWA)] Tryz.f128
theorem Zhr : Zbl Tryz.prog 128 jRun := Za9 ZbG .nil (.cons ZdZ (.cons ZjA (.cons Zog (.cons Zns (.cons ZpL (.cons ZbN (.cons ZsZ (.nil)))))))) mixed Tryz.func128 rfl (Zax Tryz.func128 (by kernel_rfl) rfl)
end

section
open Go Go.Proofs
def ZoX (s : SesD) (a : Int) : Int := bif decide (a = 0) then s.r0 else bif decide (a = 1) then s.r1 else bif decide (a = 2) then s.r2 else s.r3
end

section
open Go Go.Proofs
theorem Zu0 (s : SesD) : ZoX s 0 = s.r0 := rfl
theorem Zu1 (s : SesD) : ZoX s 1 = s.r1 := rfl
theorem Zu3 (s : SesD) : ZoX s 2 = s.r2 := rfl
theorem Zu4 (s : SesD) : ZoX s 3 = s.r3 := rfl
def ixI (i : Int) (ss : List SesD) : Bool := decide (0 ≤ i) && decide (i < @Nat.cast Int _ (List.length (List.map (sesL 1) ss)))
def foA (i : Int) (ss : List SesD) : Prop := foAt (addN 0 (Int.toNat i)) (Int.toNat i) (List.length (List.map (sesL 1) ss))
def foB (i : Int) (ss : List SesD) : Prop := foAt (Int.toNat i) (Int.toNat i) (List.length (List.map (sesL 1) ss))
def rmT (h : Mh) : Bool := decide (List.length h.tr ≤ List.length h.tr) && (decide ((List.length h.tr + 1) * 32 ≤ 140737488355328) && decide (List.length h.tr + 1 ≤ 9223372036854775807))
def wO (R : List (List D)) : Prop := whole (List.length R) R
def stI (i : Int) (ss : List SesD) (r : List D) : List (List D) := List.set (List.map (sesL 1) ss) (Int.toNat i) r
def wLs (ss : List SesD) (R : List (List D)) : Prop := whole (List.length (List.map (sesL 1) ss)) R
theorem Zhx {s : SesD} (h : ZaF s = true) : okZ 4 s.pg = true ∧ okZ 3 s.rd = true ∧ okZ 3 s.wt = true := by
  unfold ZaF at h; simpa [Bool.and_eq_true] using h
end

section
open Go Go.Proofs
def bB : SesD := ⟨5, 1, 1, [[vN 2, vN 0, vN 0, vN 1], [vN 3, vN 0, vN 1, vN 0]], 0, 0, 0, 0, 0, 0, [], [], 0, 0, 0, 0, 0⟩
def bA0 : SesD := ⟨3, 0, 3, [[vN 2, vN 0, vN 0, vN 0], [vN 1, vN 0, vN 0, vN 0], [vN 3, vN 0, vN 0, vN 0]], 0, 0, 0, 0, 0, 0, [], [], 0, 0, 0, 0, 0⟩
def bH0 : Mh := ⟨[[vN 5, vN 0, vN 0], [vN 6, vN 0, vN 0]], [[vN 7, vN 0, vN 0]], [], [[vN 9, vN 0, vN 0]], 0, 0, 0, 0, 9, []⟩
def bA1 : SesD := ⟨3, 0, 3, [[vN 2, vN 0, vN 0, vN 0], [vN 1, vN 0, vN 0, vN 0], [vN 3, vN 0, vN 0, vN 0]], 0, 1, 5, 0, 0, 0, [[vN 0, vN 0, vN 0]], [], 0, 0, 0, 0, 0⟩
def bH1 : Mh := ⟨[[vN 5, vN 0, vN 0], [vN 6, vN 0, vN 0]], [[vN 7, vN 0, vN 0]], [], [[vN 9, vN 0, vN 0]], 0, 0, 0, 0, 9, [[vN 3, vN 0, vN 0, vN 5]]⟩
def bA2 : SesD := ⟨3, 0, 3, [[vN 2, vN 0, vN 0, vN 0], [vN 1, vN 0, vN 0, vN 0], [vN 3, vN 0, vN 0, vN 0]], 0, 2, 10, 0, 0, 0, [[vN 0, vN 0, vN 0]], [], 0, 0, 0, 0, 0⟩
def bH2 : Mh := ⟨[[vN 5, vN 0, vN 0], [vN 6, vN 0, vN 0]], [[vN 7, vN 0, vN 0]], [], [[vN 9, vN 0, vN 0]], 0, 0, 0, 0, 9, [[vN 3, vN 0, vN 0, vN 5]]⟩
def bA3 : SesD := ⟨3, 0, 3, [[vN 2, vN 0, vN 0, vN 0], [vN 1, vN 0, vN 0, vN 0], [vN 3, vN 0, vN 0, vN 0]], 0, 3, 10, 0, 0, 0, [[vN 0, vN 0, vN 0]], [[vN 0, vN 0, vN 10]], 0, 0, 0, 0, 0⟩
def bH3 : Mh := ⟨[[vN 5, vN 0, vN 0], [vN 6, vN 0, vN 0]], [[vN 7, vN 0, vN 0]], [], [[vN 9, vN 0, vN 0]], 0, 0, 0, 0, 9, [[vN 3, vN 0, vN 0, vN 5], [vN 3, vN 0, vN 1, vN 10]]⟩
def bA4 : SesD := ⟨3, 0, 3, [[vN 2, vN 0, vN 0, vN 0], [vN 1, vN 0, vN 0, vN 0], [vN 3, vN 0, vN 0, vN 0]], 1, 3, 10, 0, 0, 0, [[vN 0, vN 0, vN 0]], [[vN 0, vN 0, vN 10]], 0, 0, 0, 0, 0⟩
def bH4 : Mh := ⟨[[vN 5, vN 0, vN 0], [vN 6, vN 0, vN 0]], [[vN 7, vN 0, vN 0]], [], [[vN 9, vN 0, vN 0]], 0, 0, 0, 0, 9, [[vN 3, vN 0, vN 0, vN 5], [vN 3, vN 0, vN 1, vN 10]]⟩
theorem eSt1 (K : DV → Prop) : (askH Tryz.prog (hkM spC [] [(58, Zd5), (128, jRun)]) Tryz.f79 [.agg [D.s 0 3 [[D.v (Value.int IntKind.i64 5), D.v (Value.int IntKind.i64 0), D.v (Value.int IntKind.i64 0)], [D.v (Value.int IntKind.i64 6), D.v (Value.int IntKind.i64 0), D.v (Value.int IntKind.i64 0)]] [], D.s 0 3 [[D.v (Value.int IntKind.i64 7), D.v (Value.int IntKind.i64 0), D.v (Value.int IntKind.i64 0)]] [], D.s 0 3 [] [], D.s 0 3 [[D.v (Value.int IntKind.i64 9), D.v (Value.int IntKind.i64 0), D.v (Value.int IntKind.i64 0)]] [], D.v (Value.int IntKind.i64 0), D.v (Value.int IntKind.i64 0), D.v (Value.int IntKind.i64 0), D.v (Value.int IntKind.i64 0), D.v (Value.int IntKind.i64 9), D.s 0 17 [[D.v (Value.int IntKind.i64 3), D.v (Value.int IntKind.i64 0), D.v (Value.int IntKind.i64 3), D.s 0 4 [[D.v (Value.int IntKind.i64 2), D.v (Value.int IntKind.i64 0), D.v (Value.int IntKind.i64 0), D.v (Value.int IntKind.i64 0)], [D.v (Value.int IntKind.i64 1), D.v (Value.int IntKind.i64 0), D.v (Value.int IntKind.i64 0), D.v (Value.int IntKind.i64 0)], [D.v (Value.int IntKind.i64 3), D.v (Value.int IntKind.i64 0), D.v (Value.int IntKind.i64 0), D.v (Value.int IntKind.i64 0)]] [], D.v (Value.int IntKind.i64 0), D.v (Value.int IntKind.i64 0), D.v (Value.int IntKind.i64 0), D.v (Value.int IntKind.i64 0), D.v (Value.int IntKind.i64 0), D.v (Value.int IntKind.i64 0), D.s 0 3 [] [], D.s 0 3 [] [], D.v (Value.int IntKind.i64 0), D.v (Value.int IntKind.i64 0), D.v (Value.int IntKind.i64 0), D.v (Value.int IntKind.i64 0), D.v (Value.int IntKind.i64 0)], [D.v (Value.int IntKind.i64 5), D.v (Value.int IntKind.i64 1), D.v (Value.int IntKind.i64 1), D.s 0 4 [[D.v (Value.int IntKind.i64 2), D.v (Value.int IntKind.i64 0), D.v (Value.int IntKind.i64 0), D.v (Value.int IntKind.i64 1)], [D.v (Value.int IntKind.i64 3), D.v (Value.int IntKind.i64 0), D.v (Value.int IntKind.i64 1), D.v (Value.int IntKind.i64 0)]] [], D.v (Value.int IntKind.i64 0), D.v (Value.int IntKind.i64 0), D.v (Value.int IntKind.i64 0), D.v (Value.int IntKind.i64 0), D.v (Value.int IntKind.i64 0), D.v (Value.int IntKind.i64 0), D.s 0 3 [] [], D.s 0 3 [] [], D.v (Value.int IntKind.i64 0), D.v (Value.int IntKind.i64 0), D.v (Value.int IntKind.i64 0), D.v (Value.int IntKind.i64 0), D.v (Value.int IntKind.i64 0)]] [], D.s 0 4 [] []], I 0] K) = (K (DV.tup [DV.agg (Zgx (1) ⟨[[vN (5), vN (0), vN (0)], [vN (6), vN (0), vN (0)]], [[vN (7), vN (0), vN (0)]], [], [[vN (9), vN (0), vN (0)]], (0), (0), (0), (0), (9), [[vN (3), vN (0), vN (0), vN (5)]]⟩ [(sesL (1) ⟨(3), (0), (3), [[vN (2), vN (0), vN (0), vN (0)], [vN (1), vN (0), vN (0), vN (0)], [vN (3), vN (0), vN (0), vN (0)]], (0), (1), (5), (0), (0), (0), [[vN (0), vN (0), vN (0)]], [], (0), (0), (0), (0), (0)⟩), (sesL (1) ⟨(5), (1), (1), [[vN (2), vN (0), vN (0), vN (1)], [vN (3), vN (0), vN (1), vN (0)]], (0), (0), (0), (0), (0), (0), [], [], (0), (0), (0), (0), (0)⟩)]), I (0)])) := by kernel_rfl
theorem cSt1 : CT Tryz.prog 79 [.agg (macL 0 bH0 [bA0, bB]), I 0] (macR bH1 [bA1, bB] 0) := by
  have e : macL 0 bH0 [bA0, bB] = [D.s 0 3 [[D.v (Value.int IntKind.i64 5), D.v (Value.int IntKind.i64 0), D.v (Value.int IntKind.i64 0)], [D.v (Value.int IntKind.i64 6), D.v (Value.int IntKind.i64 0), D.v (Value.int IntKind.i64 0)]] [], D.s 0 3 [[D.v (Value.int IntKind.i64 7), D.v (Value.int IntKind.i64 0), D.v (Value.int IntKind.i64 0)]] [], D.s 0 3 [] [], D.s 0 3 [[D.v (Value.int IntKind.i64 9), D.v (Value.int IntKind.i64 0), D.v (Value.int IntKind.i64 0)]] [], D.v (Value.int IntKind.i64 0), D.v (Value.int IntKind.i64 0), D.v (Value.int IntKind.i64 0), D.v (Value.int IntKind.i64 0), D.v (Value.int IntKind.i64 9), D.s 0 17 [[D.v (Value.int IntKind.i64 3), D.v (Value.int IntKind.i64 0), D.v (Value.int IntKind.i64 3), D.s 0 4 [[D.v (Value.int IntKind.i64 2), D.v (Value.int IntKind.i64 0), D.v (Value.int IntKind.i64 0), D.v (Value.int IntKind.i64 0)], [D.v (Value.int IntKind.i64 1), D.v (Value.int IntKind.i64 0), D.v (Value.int IntKind.i64 0), D.v (Value.int IntKind.i64 0)], [D.v (Value.int IntKind.i64 3), D.v (Value.int IntKind.i64 0), D.v (Value.int IntKind.i64 0), D.v (Value.int IntKind.i64 0)]] [], D.v (Value.int IntKind.i64 0), D.v (Value.int IntKind.i64 0), D.v (Value.int IntKind.i64 0), D.v (Value.int IntKind.i64 0), D.v (Value.int IntKind.i64 0), D.v (Value.int IntKind.i64 0), D.s 0 3 [] [], D.s 0 3 [] [], D.v (Value.int IntKind.i64 0), D.v (Value.int IntKind.i64 0), D.v (Value.int IntKind.i64 0), D.v (Value.int IntKind.i64 0), D.v (Value.int IntKind.i64 0)], [D.v (Value.int IntKind.i64 5), D.v (Value.int IntKind.i64 1), D.v (Value.int IntKind.i64 1), D.s 0 4 [[D.v (Value.int IntKind.i64 2), D.v (Value.int IntKind.i64 0), D.v (Value.int IntKind.i64 0), D.v (Value.int IntKind.i64 1)], [D.v (Value.int IntKind.i64 3), D.v (Value.int IntKind.i64 0), D.v (Value.int IntKind.i64 1), D.v (Value.int IntKind.i64 0)]] [], D.v (Value.int IntKind.i64 0), D.v (Value.int IntKind.i64 0), D.v (Value.int IntKind.i64 0), D.v (Value.int IntKind.i64 0), D.v (Value.int IntKind.i64 0), D.v (Value.int IntKind.i64 0), D.s 0 3 [] [], D.s 0 3 [] [], D.v (Value.int IntKind.i64 0), D.v (Value.int IntKind.i64 0), D.v (Value.int IntKind.i64 0), D.v (Value.int IntKind.i64 0), D.v (Value.int IntKind.i64 0)]] [], D.s 0 4 [] []] := rfl
  rw [e]
  refine ct_m ZbG .nil (.cons ZbN (.cons Zhr .nil)) mixed Tryz.func79 rfl rfl rfl ?_
  rw [eSt1]
  exact ⟨rfl⟩
theorem eSt2 (K : DV → Prop) : (askH Tryz.prog (hkM spC [] [(58, Zd5), (128, jRun)]) Tryz.f79 [.agg [D.s 0 3 [[D.v (Value.int IntKind.i64 5), D.v (Value.int IntKind.i64 0), D.v (Value.int IntKind.i64 0)], [D.v (Value.int IntKind.i64 6), D.v (Value.int IntKind.i64 0), D.v (Value.int IntKind.i64 0)]] [], D.s 0 3 [[D.v (Value.int IntKind.i64 7), D.v (Value.int IntKind.i64 0), D.v (Value.int IntKind.i64 0)]] [], D.s 0 3 [] [], D.s 0 3 [[D.v (Value.int IntKind.i64 9), D.v (Value.int IntKind.i64 0), D.v (Value.int IntKind.i64 0)]] [], D.v (Value.int IntKind.i64 0), D.v (Value.int IntKind.i64 0), D.v (Value.int IntKind.i64 0), D.v (Value.int IntKind.i64 0), D.v (Value.int IntKind.i64 9), D.s 0 17 [[D.v (Value.int IntKind.i64 3), D.v (Value.int IntKind.i64 0), D.v (Value.int IntKind.i64 3), D.s 0 4 [[D.v (Value.int IntKind.i64 2), D.v (Value.int IntKind.i64 0), D.v (Value.int IntKind.i64 0), D.v (Value.int IntKind.i64 0)], [D.v (Value.int IntKind.i64 1), D.v (Value.int IntKind.i64 0), D.v (Value.int IntKind.i64 0), D.v (Value.int IntKind.i64 0)], [D.v (Value.int IntKind.i64 3), D.v (Value.int IntKind.i64 0), D.v (Value.int IntKind.i64 0), D.v (Value.int IntKind.i64 0)]] [], D.v (Value.int IntKind.i64 0), D.v (Value.int IntKind.i64 1), D.v (Value.int IntKind.i64 5), D.v (Value.int IntKind.i64 0), D.v (Value.int IntKind.i64 0), D.v (Value.int IntKind.i64 0), D.s 0 3 [[D.v (Value.int IntKind.i64 0), D.v (Value.int IntKind.i64 0), D.v (Value.int IntKind.i64 0)]] [], D.s 0 3 [] [], D.v (Value.int IntKind.i64 0), D.v (Value.int IntKind.i64 0), D.v (Value.int IntKind.i64 0), D.v (Value.int IntKind.i64 0), D.v (Value.int IntKind.i64 0)], [D.v (Value.int IntKind.i64 5), D.v (Value.int IntKind.i64 1), D.v (Value.int IntKind.i64 1), D.s 0 4 [[D.v (Value.int IntKind.i64 2), D.v (Value.int IntKind.i64 0), D.v (Value.int IntKind.i64 0), D.v (Value.int IntKind.i64 1)], [D.v (Value.int IntKind.i64 3), D.v (Value.int IntKind.i64 0), D.v (Value.int IntKind.i64 1), D.v (Value.int IntKind.i64 0)]] [], D.v (Value.int IntKind.i64 0), D.v (Value.int IntKind.i64 0), D.v (Value.int IntKind.i64 0), D.v (Value.int IntKind.i64 0), D.v (Value.int IntKind.i64 0), D.v (Value.int IntKind.i64 0), D.s 0 3 [] [], D.s 0 3 [] [], D.v (Value.int IntKind.i64 0), D.v (Value.int IntKind.i64 0), D.v (Value.int IntKind.i64 0), D.v (Value.int IntKind.i64 0), D.v (Value.int IntKind.i64 0)]] [], D.s 0 4 [[D.v (Value.int IntKind.i64 3), D.v (Value.int IntKind.i64 0), D.v (Value.int IntKind.i64 0), D.v (Value.int IntKind.i64 5)]] []], I 0] K) = (K (DV.tup [DV.agg (Zgx (1) ⟨[[vN (5), vN (0), vN (0)], [vN (6), vN (0), vN (0)]], [[vN (7), vN (0), vN (0)]], [], [[vN (9), vN (0), vN (0)]], (0), (0), (0), (0), (9), [[vN (3), vN (0), vN (0), vN (5)]]⟩ [(sesL (1) ⟨(3), (0), (3), [[vN (2), vN (0), vN (0), vN (0)], [vN (1), vN (0), vN (0), vN (0)], [vN (3), vN (0), vN (0), vN (0)]], (0), (2), (10), (0), (0), (0), [[vN (0), vN (0), vN (0)]], [], (0), (0), (0), (0), (0)⟩), (sesL (1) ⟨(5), (1), (1), [[vN (2), vN (0), vN (0), vN (1)], [vN (3), vN (0), vN (1), vN (0)]], (0), (0), (0), (0), (0), (0), [], [], (0), (0), (0), (0), (0)⟩)]), I (0)])) := by kernel_rfl
theorem cSt2 : CT Tryz.prog 79 [.agg (macL 0 bH1 [bA1, bB]), I 0] (macR bH2 [bA2, bB] 0) := by
  have e : macL 0 bH1 [bA1, bB] = [D.s 0 3 [[D.v (Value.int IntKind.i64 5), D.v (Value.int IntKind.i64 0), D.v (Value.int IntKind.i64 0)], [D.v (Value.int IntKind.i64 6), D.v (Value.int IntKind.i64 0), D.v (Value.int IntKind.i64 0)]] [], D.s 0 3 [[D.v (Value.int IntKind.i64 7), D.v (Value.int IntKind.i64 0), D.v (Value.int IntKind.i64 0)]] [], D.s 0 3 [] [], D.s 0 3 [[D.v (Value.int IntKind.i64 9), D.v (Value.int IntKind.i64 0), D.v (Value.int IntKind.i64 0)]] [], D.v (Value.int IntKind.i64 0), D.v (Value.int IntKind.i64 0), D.v (Value.int IntKind.i64 0), D.v (Value.int IntKind.i64 0), D.v (Value.int IntKind.i64 9), D.s 0 17 [[D.v (Value.int IntKind.i64 3), D.v (Value.int IntKind.i64 0), D.v (Value.int IntKind.i64 3), D.s 0 4 [[D.v (Value.int IntKind.i64 2), D.v (Value.int IntKind.i64 0), D.v (Value.int IntKind.i64 0), D.v (Value.int IntKind.i64 0)], [D.v (Value.int IntKind.i64 1), D.v (Value.int IntKind.i64 0), D.v (Value.int IntKind.i64 0), D.v (Value.int IntKind.i64 0)], [D.v (Value.int IntKind.i64 3), D.v (Value.int IntKind.i64 0), D.v (Value.int IntKind.i64 0), D.v (Value.int IntKind.i64 0)]] [], D.v (Value.int IntKind.i64 0), D.v (Value.int IntKind.i64 1), D.v (Value.int IntKind.i64 5), D.v (Value.int IntKind.i64 0), D.v (Value.int IntKind.i64 0), D.v (Value.int IntKind.i64 0), D.s 0 3 [[D.v (Value.int IntKind.i64 0), D.v (Value.int IntKind.i64 0), D.v (Value.int IntKind.i64 0)]] [], D.s 0 3 [] [], D.v (Value.int IntKind.i64 0), D.v (Value.int IntKind.i64 0), D.v (Value.int IntKind.i64 0), D.v (Value.int IntKind.i64 0), D.v (Value.int IntKind.i64 0)], [D.v (Value.int IntKind.i64 5), D.v (Value.int IntKind.i64 1), D.v (Value.int IntKind.i64 1), D.s 0 4 [[D.v (Value.int IntKind.i64 2), D.v (Value.int IntKind.i64 0), D.v (Value.int IntKind.i64 0), D.v (Value.int IntKind.i64 1)], [D.v (Value.int IntKind.i64 3), D.v (Value.int IntKind.i64 0), D.v (Value.int IntKind.i64 1), D.v (Value.int IntKind.i64 0)]] [], D.v (Value.int IntKind.i64 0), D.v (Value.int IntKind.i64 0), D.v (Value.int IntKind.i64 0), D.v (Value.int IntKind.i64 0), D.v (Value.int IntKind.i64 0), D.v (Value.int IntKind.i64 0), D.s 0 3 [] [], D.s 0 3 [] [], D.v (Value.int IntKind.i64 0), D.v (Value.int IntKind.i64 0), D.v (Value.int IntKind.i64 0), D.v (Value.int IntKind.i64 0), D.v (Value.int IntKind.i64 0)]] [], D.s 0 4 [[D.v (Value.int IntKind.i64 3), D.v (Value.int IntKind.i64 0), D.v (Value.int IntKind.i64 0), D.v (Value.int IntKind.i64 5)]] []] := rfl
  rw [e]
  refine ct_m ZbG .nil (.cons ZbN (.cons Zhr .nil)) mixed Tryz.func79 rfl rfl rfl ?_
  rw [eSt2]
  exact ⟨rfl⟩
theorem eSt3 (K : DV → Prop) : (askH Tryz.prog (hkM spC [] [(58, Zd5), (128, jRun)]) Tryz.f79 [.agg [D.s 0 3 [[D.v (Value.int IntKind.i64 5), D.v (Value.int IntKind.i64 0), D.v (Value.int IntKind.i64 0)], [D.v (Value.int IntKind.i64 6), D.v (Value.int IntKind.i64 0), D.v (Value.int IntKind.i64 0)]] [], D.s 0 3 [[D.v (Value.int IntKind.i64 7), D.v (Value.int IntKind.i64 0), D.v (Value.int IntKind.i64 0)]] [], D.s 0 3 [] [], D.s 0 3 [[D.v (Value.int IntKind.i64 9), D.v (Value.int IntKind.i64 0), D.v (Value.int IntKind.i64 0)]] [], D.v (Value.int IntKind.i64 0), D.v (Value.int IntKind.i64 0), D.v (Value.int IntKind.i64 0), D.v (Value.int IntKind.i64 0), D.v (Value.int IntKind.i64 9), D.s 0 17 [[D.v (Value.int IntKind.i64 3), D.v (Value.int IntKind.i64 0), D.v (Value.int IntKind.i64 3), D.s 0 4 [[D.v (Value.int IntKind.i64 2), D.v (Value.int IntKind.i64 0), D.v (Value.int IntKind.i64 0), D.v (Value.int IntKind.i64 0)], [D.v (Value.int IntKind.i64 1), D.v (Value.int IntKind.i64 0), D.v (Value.int IntKind.i64 0), D.v (Value.int IntKind.i64 0)], [D.v (Value.int IntKind.i64 3), D.v (Value.int IntKind.i64 0), D.v (Value.int IntKind.i64 0), D.v (Value.int IntKind.i64 0)]] [], D.v (Value.int IntKind.i64 0), D.v (Value.int IntKind.i64 2), D.v (Value.int IntKind.i64 10), D.v (Value.int IntKind.i64 0), D.v (Value.int IntKind.i64 0), D.v (Value.int IntKind.i64 0), D.s 0 3 [[D.v (Value.int IntKind.i64 0), D.v (Value.int IntKind.i64 0), D.v (Value.int IntKind.i64 0)]] [], D.s 0 3 [] [], D.v (Value.int IntKind.i64 0), D.v (Value.int IntKind.i64 0), D.v (Value.int IntKind.i64 0), D.v (Value.int IntKind.i64 0), D.v (Value.int IntKind.i64 0)], [D.v (Value.int IntKind.i64 5), D.v (Value.int IntKind.i64 1), D.v (Value.int IntKind.i64 1), D.s 0 4 [[D.v (Value.int IntKind.i64 2), D.v (Value.int IntKind.i64 0), D.v (Value.int IntKind.i64 0), D.v (Value.int IntKind.i64 1)], [D.v (Value.int IntKind.i64 3), D.v (Value.int IntKind.i64 0), D.v (Value.int IntKind.i64 1), D.v (Value.int IntKind.i64 0)]] [], D.v (Value.int IntKind.i64 0), D.v (Value.int IntKind.i64 0), D.v (Value.int IntKind.i64 0), D.v (Value.int IntKind.i64 0), D.v (Value.int IntKind.i64 0), D.v (Value.int IntKind.i64 0), D.s 0 3 [] [], D.s 0 3 [] [], D.v (Value.int IntKind.i64 0), D.v (Value.int IntKind.i64 0), D.v (Value.int IntKind.i64 0), D.v (Value.int IntKind.i64 0), D.v (Value.int IntKind.i64 0)]] [], D.s 0 4 [[D.v (Value.int IntKind.i64 3), D.v (Value.int IntKind.i64 0), D.v (Value.int IntKind.i64 0), D.v (Value.int IntKind.i64 5)]] []], I 0] K) = (K (DV.tup [DV.agg (Zgx (1) ⟨[[vN (5), vN (0), vN (0)], [vN (6), vN (0), vN (0)]], [[vN (7), vN (0), vN (0)]], [], [[vN (9), vN (0), vN (0)]], (0), (0), (0), (0), (9), [[vN (3), vN (0), vN (0), vN (5)], [vN (3), vN (0), vN (1), vN (10)]]⟩ [(sesL (1) ⟨(3), (0), (3), [[vN (2), vN (0), vN (0), vN (0)], [vN (1), vN (0), vN (0), vN (0)], [vN (3), vN (0), vN (0), vN (0)]], (0), (3), (10), (0), (0), (0), [[vN (0), vN (0), vN (0)]], [[vN (0), vN (0), vN (10)]], (0), (0), (0), (0), (0)⟩), (sesL (1) ⟨(5), (1), (1), [[vN (2), vN (0), vN (0), vN (1)], [vN (3), vN (0), vN (1), vN (0)]], (0), (0), (0), (0), (0), (0), [], [], (0), (0), (0), (0), (0)⟩)]), I (0)])) := by kernel_rfl
theorem cSt3 : CT Tryz.prog 79 [.agg (macL 0 bH2 [bA2, bB]), I 0] (macR bH3 [bA3, bB] 0) := by
  have e : macL 0 bH2 [bA2, bB] = [D.s 0 3 [[D.v (Value.int IntKind.i64 5), D.v (Value.int IntKind.i64 0), D.v (Value.int IntKind.i64 0)], [D.v (Value.int IntKind.i64 6), D.v (Value.int IntKind.i64 0), D.v (Value.int IntKind.i64 0)]] [], D.s 0 3 [[D.v (Value.int IntKind.i64 7), D.v (Value.int IntKind.i64 0), D.v (Value.int IntKind.i64 0)]] [], D.s 0 3 [] [], D.s 0 3 [[D.v (Value.int IntKind.i64 9), D.v (Value.int IntKind.i64 0), D.v (Value.int IntKind.i64 0)]] [], D.v (Value.int IntKind.i64 0), D.v (Value.int IntKind.i64 0), D.v (Value.int IntKind.i64 0), D.v (Value.int IntKind.i64 0), D.v (Value.int IntKind.i64 9), D.s 0 17 [[D.v (Value.int IntKind.i64 3), D.v (Value.int IntKind.i64 0), D.v (Value.int IntKind.i64 3), D.s 0 4 [[D.v (Value.int IntKind.i64 2), D.v (Value.int IntKind.i64 0), D.v (Value.int IntKind.i64 0), D.v (Value.int IntKind.i64 0)], [D.v (Value.int IntKind.i64 1), D.v (Value.int IntKind.i64 0), D.v (Value.int IntKind.i64 0), D.v (Value.int IntKind.i64 0)], [D.v (Value.int IntKind.i64 3), D.v (Value.int IntKind.i64 0), D.v (Value.int IntKind.i64 0), D.v (Value.int IntKind.i64 0)]] [], D.v (Value.int IntKind.i64 0), D.v (Value.int IntKind.i64 2), D.v (Value.int IntKind.i64 10), D.v (Value.int IntKind.i64 0), D.v (Value.int IntKind.i64 0), D.v (Value.int IntKind.i64 0), D.s 0 3 [[D.v (Value.int IntKind.i64 0), D.v (Value.int IntKind.i64 0), D.v (Value.int IntKind.i64 0)]] [], D.s 0 3 [] [], D.v (Value.int IntKind.i64 0), D.v (Value.int IntKind.i64 0), D.v (Value.int IntKind.i64 0), D.v (Value.int IntKind.i64 0), D.v (Value.int IntKind.i64 0)], [D.v (Value.int IntKind.i64 5), D.v (Value.int IntKind.i64 1), D.v (Value.int IntKind.i64 1), D.s 0 4 [[D.v (Value.int IntKind.i64 2), D.v (Value.int IntKind.i64 0), D.v (Value.int IntKind.i64 0), D.v (Value.int IntKind.i64 1)], [D.v (Value.int IntKind.i64 3), D.v (Value.int IntKind.i64 0), D.v (Value.int IntKind.i64 1), D.v (Value.int IntKind.i64 0)]] [], D.v (Value.int IntKind.i64 0), D.v (Value.int IntKind.i64 0), D.v (Value.int IntKind.i64 0), D.v (Value.int IntKind.i64 0), D.v (Value.int IntKind.i64 0), D.v (Value.int IntKind.i64 0), D.s 0 3 [] [], D.s 0 3 [] [], D.v (Value.int IntKind.i64 0), D.v (Value.int IntKind.i64 0), D.v (Value.int IntKind.i64 0), D.v (Value.int IntKind.i64 0), D.v (Value.int IntKind.i64 0)]] [], D.s 0 4 [[D.v (Value.int IntKind.i64 3), D.v (Value.int IntKind.i64 0), D.v (Value.int IntKind.i64 0), D.v (Value.int IntKind.i64 5)]] []] := rfl
  rw [e]
  refine ct_m ZbG .nil (.cons ZbN (.cons Zhr .nil)) mixed Tryz.func79 rfl rfl rfl ?_
  rw [eSt3]
  exact ⟨rfl⟩
theorem eSt4 (K : DV → Prop) : (askH Tryz.prog (hkM spC [] [(58, Zd5), (128, jRun)]) Tryz.f79 [.agg [D.s 0 3 [[D.v (Value.int IntKind.i64 5), D.v (Value.int IntKind.i64 0), D.v (Value.int IntKind.i64 0)], [D.v (Value.int IntKind.i64 6), D.v (Value.int IntKind.i64 0), D.v (Value.int IntKind.i64 0)]] [], D.s 0 3 [[D.v (Value.int IntKind.i64 7), D.v (Value.int IntKind.i64 0), D.v (Value.int IntKind.i64 0)]] [], D.s 0 3 [] [], D.s 0 3 [[D.v (Value.int IntKind.i64 9), D.v (Value.int IntKind.i64 0), D.v (Value.int IntKind.i64 0)]] [], D.v (Value.int IntKind.i64 0), D.v (Value.int IntKind.i64 0), D.v (Value.int IntKind.i64 0), D.v (Value.int IntKind.i64 0), D.v (Value.int IntKind.i64 9), D.s 0 17 [[D.v (Value.int IntKind.i64 3), D.v (Value.int IntKind.i64 0), D.v (Value.int IntKind.i64 3), D.s 0 4 [[D.v (Value.int IntKind.i64 2), D.v (Value.int IntKind.i64 0), D.v (Value.int IntKind.i64 0), D.v (Value.int IntKind.i64 0)], [D.v (Value.int IntKind.i64 1), D.v (Value.int IntKind.i64 0), D.v (Value.int IntKind.i64 0), D.v (Value.int IntKind.i64 0)], [D.v (Value.int IntKind.i64 3), D.v (Value.int IntKind.i64 0), D.v (Value.int IntKind.i64 0), D.v (Value.int IntKind.i64 0)]] [], D.v (Value.int IntKind.i64 0), D.v (Value.int IntKind.i64 3), D.v (Value.int IntKind.i64 10), D.v (Value.int IntKind.i64 0), D.v (Value.int IntKind.i64 0), D.v (Value.int IntKind.i64 0), D.s 0 3 [[D.v (Value.int IntKind.i64 0), D.v (Value.int IntKind.i64 0), D.v (Value.int IntKind.i64 0)]] [], D.s 0 3 [[D.v (Value.int IntKind.i64 0), D.v (Value.int IntKind.i64 0), D.v (Value.int IntKind.i64 10)]] [], D.v (Value.int IntKind.i64 0), D.v (Value.int IntKind.i64 0), D.v (Value.int IntKind.i64 0), D.v (Value.int IntKind.i64 0), D.v (Value.int IntKind.i64 0)], [D.v (Value.int IntKind.i64 5), D.v (Value.int IntKind.i64 1), D.v (Value.int IntKind.i64 1), D.s 0 4 [[D.v (Value.int IntKind.i64 2), D.v (Value.int IntKind.i64 0), D.v (Value.int IntKind.i64 0), D.v (Value.int IntKind.i64 1)], [D.v (Value.int IntKind.i64 3), D.v (Value.int IntKind.i64 0), D.v (Value.int IntKind.i64 1), D.v (Value.int IntKind.i64 0)]] [], D.v (Value.int IntKind.i64 0), D.v (Value.int IntKind.i64 0), D.v (Value.int IntKind.i64 0), D.v (Value.int IntKind.i64 0), D.v (Value.int IntKind.i64 0), D.v (Value.int IntKind.i64 0), D.s 0 3 [] [], D.s 0 3 [] [], D.v (Value.int IntKind.i64 0), D.v (Value.int IntKind.i64 0), D.v (Value.int IntKind.i64 0), D.v (Value.int IntKind.i64 0), D.v (Value.int IntKind.i64 0)]] [], D.s 0 4 [[D.v (Value.int IntKind.i64 3), D.v (Value.int IntKind.i64 0), D.v (Value.int IntKind.i64 0), D.v (Value.int IntKind.i64 5)], [D.v (Value.int IntKind.i64 3), D.v (Value.int IntKind.i64 0), D.v (Value.int IntKind.i64 1), D.v (Value.int IntKind.i64 10)]] []], I 0] K) = (K (DV.tup [DV.agg (Zgx (1) ⟨[[vN (5), vN (0), vN (0)], [vN (6), vN (0), vN (0)]], [[vN (7), vN (0), vN (0)]], [], [[vN (9), vN (0), vN (0)]], (0), (0), (0), (0), (9), [[vN (3), vN (0), vN (0), vN (5)], [vN (3), vN (0), vN (1), vN (10)]]⟩ [(sesL (1) ⟨(3), (0), (3), [[vN (2), vN (0), vN (0), vN (0)], [vN (1), vN (0), vN (0), vN (0)], [vN (3), vN (0), vN (0), vN (0)]], (1), (3), (10), (0), (0), (0), [[vN (0), vN (0), vN (0)]], [[vN (0), vN (0), vN (10)]], (0), (0), (0), (0), (0)⟩), (sesL (1) ⟨(5), (1), (1), [[vN (2), vN (0), vN (0), vN (1)], [vN (3), vN (0), vN (1), vN (0)]], (0), (0), (0), (0), (0), (0), [], [], (0), (0), (0), (0), (0)⟩)]), I (0)])) := by kernel_rfl
theorem cSt4 : CT Tryz.prog 79 [.agg (macL 0 bH3 [bA3, bB]), I 0] (macR bH4 [bA4, bB] 0) := by
  have e : macL 0 bH3 [bA3, bB] = [D.s 0 3 [[D.v (Value.int IntKind.i64 5), D.v (Value.int IntKind.i64 0), D.v (Value.int IntKind.i64 0)], [D.v (Value.int IntKind.i64 6), D.v (Value.int IntKind.i64 0), D.v (Value.int IntKind.i64 0)]] [], D.s 0 3 [[D.v (Value.int IntKind.i64 7), D.v (Value.int IntKind.i64 0), D.v (Value.int IntKind.i64 0)]] [], D.s 0 3 [] [], D.s 0 3 [[D.v (Value.int IntKind.i64 9), D.v (Value.int IntKind.i64 0), D.v (Value.int IntKind.i64 0)]] [], D.v (Value.int IntKind.i64 0), D.v (Value.int IntKind.i64 0), D.v (Value.int IntKind.i64 0), D.v (Value.int IntKind.i64 0), D.v (Value.int IntKind.i64 9), D.s 0 17 [[D.v (Value.int IntKind.i64 3), D.v (Value.int IntKind.i64 0), D.v (Value.int IntKind.i64 3), D.s 0 4 [[D.v (Value.int IntKind.i64 2), D.v (Value.int IntKind.i64 0), D.v (Value.int IntKind.i64 0), D.v (Value.int IntKind.i64 0)], [D.v (Value.int IntKind.i64 1), D.v (Value.int IntKind.i64 0), D.v (Value.int IntKind.i64 0), D.v (Value.int IntKind.i64 0)], [D.v (Value.int IntKind.i64 3), D.v (Value.int IntKind.i64 0), D.v (Value.int IntKind.i64 0), D.v (Value.int IntKind.i64 0)]] [], D.v (Value.int IntKind.i64 0), D.v (Value.int IntKind.i64 3), D.v (Value.int IntKind.i64 10), D.v (Value.int IntKind.i64 0), D.v (Value.int IntKind.i64 0), D.v (Value.int IntKind.i64 0), D.s 0 3 [[D.v (Value.int IntKind.i64 0), D.v (Value.int IntKind.i64 0), D.v (Value.int IntKind.i64 0)]] [], D.s 0 3 [[D.v (Value.int IntKind.i64 0), D.v (Value.int IntKind.i64 0), D.v (Value.int IntKind.i64 10)]] [], D.v (Value.int IntKind.i64 0), D.v (Value.int IntKind.i64 0), D.v (Value.int IntKind.i64 0), D.v (Value.int IntKind.i64 0), D.v (Value.int IntKind.i64 0)], [D.v (Value.int IntKind.i64 5), D.v (Value.int IntKind.i64 1), D.v (Value.int IntKind.i64 1), D.s 0 4 [[D.v (Value.int IntKind.i64 2), D.v (Value.int IntKind.i64 0), D.v (Value.int IntKind.i64 0), D.v (Value.int IntKind.i64 1)], [D.v (Value.int IntKind.i64 3), D.v (Value.int IntKind.i64 0), D.v (Value.int IntKind.i64 1), D.v (Value.int IntKind.i64 0)]] [], D.v (Value.int IntKind.i64 0), D.v (Value.int IntKind.i64 0), D.v (Value.int IntKind.i64 0), D.v (Value.int IntKind.i64 0), D.v (Value.int IntKind.i64 0), D.v (Value.int IntKind.i64 0), D.s 0 3 [] [], D.s 0 3 [] [], D.v (Value.int IntKind.i64 0), D.v (Value.int IntKind.i64 0), D.v (Value.int IntKind.i64 0), D.v (Value.int IntKind.i64 0), D.v (Value.int IntKind.i64 0)]] [], D.s 0 4 [[D.v (Value.int IntKind.i64 3), D.v (Value.int IntKind.i64 0), D.v (Value.int IntKind.i64 0), D.v (Value.int IntKind.i64 5)], [D.v (Value.int IntKind.i64 3), D.v (Value.int IntKind.i64 0), D.v (Value.int IntKind.i64 1), D.v (Value.int IntKind.i64 10)]] []] := rfl
  rw [e]
  refine ct_m ZbG .nil (.cons ZbN (.cons Zhr .nil)) mixed Tryz.func79 rfl rfl rfl ?_
  rw [eSt4]
  exact ⟨rfl⟩
theorem ZpF : Zbl Tryz.prog 21 Zsg := Za9 (.cons Zs7 (.cons Zq2 (.cons oRMm .nil))) .nil .nil mixed Tryz.func21 rfl (Zax Tryz.func21 (by kernel_rfl) rfl)
theorem Ztt (K : DV → Prop) : (askH Tryz.prog (hkM [] [] [(21, Zsg)]) Tryz.f78 [] K) = (K (DV.agg [D.s (1) (3) [[vN (5), vN (0), vN (0)], [vN (6), vN (0), vN (0)]] [], D.s (1) (3) [[vN (7), vN (0), vN (0)]] [], D.s (1) (3) [] [], D.s (1) (3) [[vN (9), vN (0), vN (0)]] [], vN (0), vN (0), vN (0), vN (0), vN (9), D.s (1) (17) [[vN (3), vN (0), vN (3), D.s (1) (4) [[vN (2), vN (0), vN (0), vN (0)], [vN (1), vN (0), vN (0), vN (0)], [vN (3), vN (0), vN (0), vN (0)]] [], vN (0), vN (0), vN (0), vN (0), vN (0), vN (0), nilV, nilV, vN (0), vN (0), vN (0), vN (0), vN (0)], [vN (5), vN (1), vN (1), D.s (1) (4) [[vN (2), vN (0), vN (0), vN (1)], [vN (3), vN (0), vN (1), vN (0)]] [], vN (0), vN (0), vN (0), vN (0), vN (0), vN (0), nilV, nilV, vN (0), vN (0), vN (0), vN (0), vN (0)]] [], nilV])) := by kernel_rfl
theorem Zsm : CT Tryz.prog 78 [] (.agg (macL 1 bH0 [bA0, bB])) := by
  refine Zr2 .nil .nil (.cons ZpF .nil) mixed Tryz.func78 rfl rfl rfl ?_
  rw [Ztt]
  refine ⟨.aggO ?_⟩
  repeat (first | exact .nil | exact OL.refl _ | exact OL.nil _ | refine .cons ?_ ?_ | refine OL.rows ?_)
end

section
open Go Go.Proofs
def sStp : Spec := fun ds Q => match ds with
  | [d, _] => macA d fun _ ss => match ss with
    | [a, _] => bif a.st == 0 then (bif a.pc == 0 then sAtD [.agg (macL 0 bH0 [bA0, bB]), I 0] (macR bH1 [bA1, bB] 0) ds Q else bif a.pc == 1 then sAtD [.agg (macL 0 bH1 [bA1, bB]), I 0] (macR bH2 [bA2, bB] 0) ds Q else bif a.pc == 2 then sAtD [.agg (macL 0 bH2 [bA2, bB]), I 0] (macR bH3 [bA3, bB] 0) ds Q else sAtD [.agg (macL 0 bH3 [bA3, bB]), I 0] (macR bH4 [bA4, bB] 0) ds Q) else False
    | _ => False
  | _ => False
theorem gStp : Goes Tryz.prog 79 := Zax Tryz.func79 (by kernel_rfl) rfl
theorem oStp : Zac Tryz.prog 79 sStp := fun ds Q h => by
  unfold sStp at h; split at h
  · obtain ⟨m, ss, h, _⟩ := ZbD h
    split at h
    · rename_i a _ _
      cases h1 : a.st == 0
      · rw [h1] at h; exact h.elim
      · rw [h1] at h
        cases h2 : a.pc == 0
        · cases h3 : a.pc == 1
          · cases h4 : a.pc == 2
            · rw [h2, h3, h4] at h; exact oAtD gStp cSt4 rfl rfl _ Q h
            · rw [h2, h3, h4] at h; exact oAtD gStp cSt3 rfl rfl _ Q h
          · rw [h2, h3] at h; exact oAtD gStp cSt2 rfl rfl _ Q h
        · rw [h2] at h; exact oAtD gStp cSt1 rfl rfl _ Q h
    · exact h.elim
  · exact h.elim
def iStp : Inl := ZmE Tryz.prog [34, 3] (sF sStp)
theorem Zqx : Zbl Tryz.prog 79 iStp := ZdS (oF oStp)
def iBeg : Inl := ZmE Tryz.prog [] (sF (sAtD [] (.agg (macL 1 bH0 [bA0, bB]))))
theorem Zjq : Zbl Tryz.prog 78 iBeg := ZdS (oF (oAtD (Zax Tryz.func78 (by kernel_rfl) rfl) Zsm rfl rfl))
theorem ZpM (K : DV → Prop) : (askH Tryz.prog (hkM [] [] [(78, iBeg), (79, iStp)]) Tryz.f31 [I 0, I 2] K) = (([] : List DV) = [] ∧ [DV.agg (macL (0) bH0 [bA0, bB]), I (0)] = [DV.agg (macL (0) bH0 [bA0, bB]), I (0)] ∧ [DV.agg (macL (0) bH1 [bA1, bB]), I (0)] = [DV.agg (macL (0) bH1 [bA1, bB]), I (0)] ∧ K (DV.agg [D.s (1) (3) [[D.v (Value.int IntKind.i64 (5)), D.v (Value.int IntKind.i64 (0)), D.v (Value.int IntKind.i64 (0))], [D.v (Value.int IntKind.i64 (6)), D.v (Value.int IntKind.i64 (0)), D.v (Value.int IntKind.i64 (0))]] [], D.s (1) (3) [[D.v (Value.int IntKind.i64 (7)), D.v (Value.int IntKind.i64 (0)), D.v (Value.int IntKind.i64 (0))]] [], D.s (1) (3) [] [], D.s (1) (3) [[D.v (Value.int IntKind.i64 (9)), D.v (Value.int IntKind.i64 (0)), D.v (Value.int IntKind.i64 (0))]] [], D.v (Value.int IntKind.i64 (0)), D.v (Value.int IntKind.i64 (0)), D.v (Value.int IntKind.i64 (0)), D.v (Value.int IntKind.i64 (0)), D.v (Value.int IntKind.i64 (9)), D.s (1) (17) [[D.v (Value.int IntKind.i64 (3)), D.v (Value.int IntKind.i64 (0)), D.v (Value.int IntKind.i64 (3)), D.s (1) (4) [[D.v (Value.int IntKind.i64 (2)), D.v (Value.int IntKind.i64 (0)), D.v (Value.int IntKind.i64 (0)), D.v (Value.int IntKind.i64 (0))], [D.v (Value.int IntKind.i64 (1)), D.v (Value.int IntKind.i64 (0)), D.v (Value.int IntKind.i64 (0)), D.v (Value.int IntKind.i64 (0))], [D.v (Value.int IntKind.i64 (3)), D.v (Value.int IntKind.i64 (0)), D.v (Value.int IntKind.i64 (0)), D.v (Value.int IntKind.i64 (0))]] [], D.v (Value.int IntKind.i64 (0)), D.v (Value.int IntKind.i64 (2)), D.v (Value.int IntKind.i64 (10)), D.v (Value.int IntKind.i64 (0)), D.v (Value.int IntKind.i64 (0)), D.v (Value.int IntKind.i64 (0)), D.s (1) (3) [[D.v (Value.int IntKind.i64 (0)), D.v (Value.int IntKind.i64 (0)), D.v (Value.int IntKind.i64 (0))]] [], D.s (1) (3) [] [], D.v (Value.int IntKind.i64 (0)), D.v (Value.int IntKind.i64 (0)), D.v (Value.int IntKind.i64 (0)), D.v (Value.int IntKind.i64 (0)), D.v (Value.int IntKind.i64 (0))], [D.v (Value.int IntKind.i64 (5)), D.v (Value.int IntKind.i64 (1)), D.v (Value.int IntKind.i64 (1)), D.s (1) (4) [[D.v (Value.int IntKind.i64 (2)), D.v (Value.int IntKind.i64 (0)), D.v (Value.int IntKind.i64 (0)), D.v (Value.int IntKind.i64 (1))], [D.v (Value.int IntKind.i64 (3)), D.v (Value.int IntKind.i64 (0)), D.v (Value.int IntKind.i64 (1)), D.v (Value.int IntKind.i64 (0))]] [], D.v (Value.int IntKind.i64 (0)), D.v (Value.int IntKind.i64 (0)), D.v (Value.int IntKind.i64 (0)), D.v (Value.int IntKind.i64 (0)), D.v (Value.int IntKind.i64 (0)), D.v (Value.int IntKind.i64 (0)), D.s (1) (3) [] [], D.s (1) (3) [] [], D.v (Value.int IntKind.i64 (0)), D.v (Value.int IntKind.i64 (0)), D.v (Value.int IntKind.i64 (0)), D.v (Value.int IntKind.i64 (0)), D.v (Value.int IntKind.i64 (0))]] [], D.s (1) (4) [[D.v (Value.int IntKind.i64 (3)), D.v (Value.int IntKind.i64 (0)), D.v (Value.int IntKind.i64 (0)), D.v (Value.int IntKind.i64 (5))]] []])) := by kernel_rfl
theorem Zph : CT Tryz.prog 31 [I 0, I 2] (.agg (macL 1 bH2 [bA2, bB])) := by
  refine ct_m .nil .nil (.cons Zjq (.cons Zqx .nil)) mixed Tryz.func31 rfl rfl rfl ?_
  rw [ZpM]
  exact ⟨by repeat (first | exact rfl | refine ⟨rfl, ?_⟩)⟩
end

section
open Go Go.Proofs
theorem eSS (s s' : SesD) (K : DV → Prop) : (askW Tryz.prog (hkF [(77, ZeD), (42, Zej), (45, ZdC)] [] []) Tryz.f32 [.agg (sesL 0 s), .agg (sesL 0 s')] K) = (bif s.id == s'.id then bif s.lb == s'.lb then bif s.cl == s'.cl then bif okZ (4) s.pg && okZ (4) s'.pg then bif decide (toZ s.pg = toZ s'.pg) then bif s.st == s'.st then bif s.pc == s'.pc then bif eqI [s.r0, s.r1, s.r2, s.r3] [s'.r0, s'.r1, s'.r2, s'.r3] then bif okZ (3) s.rd && okZ (3) s'.rd then bif decide (toZ s.rd = toZ s'.rd) then bif okZ (3) s.wt && okZ (3) s'.wt then bif decide (toZ s.wt = toZ s'.wt) then bif s.at' == s'.at' then bif s.sp == s'.sp then bif s.tr == s'.tr then bif s.rs == s'.rs then K (B (s.to == s'.to)) else K (B false) else K (B false) else K (B false) else K (B false) else K (B false) else False else K (B false) else False else K (B false) else K (B false) else K (B false) else K (B false) else False else K (B false) else K (B false) else K (B false)) := by kernel_rfl
def Zi7 (s s' : SesD) : Bool := bif s.id == s'.id then bif s.lb == s'.lb then bif s.cl == s'.cl then bif decide (toZ s.pg = toZ s'.pg) then bif s.st == s'.st then bif s.pc == s'.pc then bif eqI [s.r0, s.r1, s.r2, s.r3] [s'.r0, s'.r1, s'.r2, s'.r3] then bif decide (toZ s.rd = toZ s'.rd) then bif decide (toZ s.wt = toZ s'.wt) then bif s.at' == s'.at' then bif s.sp == s'.sp then bif s.tr == s'.tr then bif s.rs == s'.rs then s.to == s'.to else false else false else false else false else false else false else false else false else false else false else false else false else false
theorem cSS (s s' : SesD) (h : ZaF s = true) (h' : ZaF s' = true) : CT Tryz.prog 32 [.agg (sesL 0 s), .agg (sesL 0 s')] (B (Zi7 s s')) := by
  refine Zpc (.cons Zma (.cons ZmA (.cons Zk5 .nil))) .nil .nil mixed Tryz.func32 rfl rfl rfl ?_
  rw [eSS]
  refine ⟨?_⟩
  obtain ⟨a1, a2, a3⟩ := Zhx h
  obtain ⟨b1, b2, b3⟩ := Zhx h'
  simp only [a1, a2, a3, b1, b2, b3, Bool.and_self, cond_true, Zus]
  exact AL.refl _
theorem eqI4 {a b c d a' b' c' d' : Int} : eqI [a, b, c, d] [a', b', c', d'] = true ↔ a = a' ∧ b = b' ∧ c = c' ∧ d = d' := by
  simp only [eqI, Bool.and_eq_true, beq_iff_eq, and_true]
theorem Zm9 {p q : Bool} : (bif p then q else false) = true ↔ p = true ∧ q = true := by cases p <;> simp
theorem Zc1 {z : Nat} {R S : List (List D)} (h : okZ z R = true) (h' : okZ z S = true) (e : toZ R = toZ S) : R = S := by
  rw [(Zah h).1, (Zah h').1, e]
theorem Zii {s s' : SesD} (h : ZaF s = true) (h' : ZaF s' = true) : Zi7 s s' = true ↔ s = s' := by
  obtain ⟨a1, a2, a3⟩ := Zhx h
  obtain ⟨b1, b2, b3⟩ := Zhx h'
  unfold Zi7
  simp only [Zm9, eqI4, beq_iff_eq, decide_eq_true_eq]
  constructor
  · rintro ⟨e0, e1, e2, e3, e4, e5, ⟨e6, e7, e8, e9⟩, e10, e11, e12, e13, e14, e15, e16⟩
    have e3 := Zc1 a1 b1 e3
    have e10 := Zc1 a2 b2 e10
    have e11 := Zc1 a3 b3 e11
    cases s; cases s'
    simp only at *
    subst e0 e1 e2 e3 e4 e5 e6 e7 e8 e9 e10 e11 e12 e13 e14 e15 e16
    rfl
  · rintro rfl; simp
def sSS : Spec := fun ds Q => match ds with
  | [d, e] => sesA d fun s => sesA e fun s' => cond (ZaF s && ZaF s') (Q (B (Zi7 s s'))) False
  | _ => False
theorem oSS : Zac Tryz.prog 32 sSS := o_al Tryz.func32 (by kernel_rfl) rfl fun ds Q h => by
  unfold sSS at h; split at h
  · obtain ⟨s, h, r1⟩ := ZbQ h
    obtain ⟨s', h, r2⟩ := ZbQ h
    obtain ⟨h1, h2⟩ := Zaf h
    rw [Bool.and_eq_true] at h1
    exact ⟨_, _, .cons r1 (.cons r2 .nil), cSS s s' h1.1 h1.2, rfl, rfl, h2⟩
  · exact h.elim
theorem eSA (R0 R1 R2 R3 S0 S1 S2 S3 : List (List D)) (K : DV → Prop) : (askW Tryz.prog (hkF [(88, Zel)] [] []) Tryz.f41 [.agg (wsL R0 R1 R2 R3), .agg (wsL S0 S1 S2 S3)] K) = (bif okZ (3) R0 && okZ (3) S0 then bif !decide (toZ R0 = toZ S0) then K (B false) else bif okZ (3) R1 && okZ (3) S1 then bif !decide (toZ R1 = toZ S1) then K (B false) else bif okZ (3) R2 && okZ (3) S2 then bif !decide (toZ R2 = toZ S2) then K (B false) else bif okZ (3) R3 && okZ (3) S3 then bif !decide (toZ R3 = toZ S3) then K (B false) else K (B true) else False else False else False else False) := by kernel_rfl
def Zku (R0 R1 R2 R3 S0 S1 S2 S3 : List (List D)) : Bool := bif decide (toZ R0 = toZ S0) then bif decide (toZ R1 = toZ S1) then bif decide (toZ R2 = toZ S2) then bif decide (toZ R3 = toZ S3) then true else false else false else false else false
theorem cSA (R0 R1 R2 R3 S0 S1 S2 S3 : List (List D)) (h : okA R0 R1 R2 R3 = true) (h' : okA S0 S1 S2 S3 = true) : CT Tryz.prog 41 [.agg (wsL R0 R1 R2 R3), .agg (wsL S0 S1 S2 S3)] (B (Zku R0 R1 R2 R3 S0 S1 S2 S3)) := by
  refine Zpc (.cons ZmI .nil) .nil .nil mixed Tryz.func41 rfl rfl rfl ?_
  rw [eSA]
  refine ⟨?_⟩
  obtain ⟨a0, a1, a2, a3⟩ := Zcl h
  obtain ⟨b0, b1, b2, b3⟩ := Zcl h'
  simp only [a0, a1, a2, a3, b0, b1, b2, b3, Bool.and_self, cond_true, Zr0]
  exact AL.refl _
theorem Zpo {R0 R1 R2 R3 S0 S1 S2 S3 : List (List D)} (h : okA R0 R1 R2 R3 = true) (h' : okA S0 S1 S2 S3 = true) : Zku R0 R1 R2 R3 S0 S1 S2 S3 = true ↔ R0 = S0 ∧ R1 = S1 ∧ R2 = S2 ∧ R3 = S3 := by
  obtain ⟨a0, a1, a2, a3⟩ := Zcl h
  obtain ⟨b0, b1, b2, b3⟩ := Zcl h'
  unfold Zku
  simp only [Zm9, decide_eq_true_eq]
  constructor
  · rintro ⟨e0, e1, e2, e3, _⟩
    exact ⟨Zc1 a0 b0 e0, Zc1 a1 b1 e1, Zc1 a2 b2 e2, Zc1 a3 b3 e3⟩
  · rintro ⟨rfl, rfl, rfl, rfl⟩; simp
def sSA : Spec := fun ds Q => match ds with
  | [.agg cs, .agg es] => cond (Zin cs && Nat.beq cs.length 4 && (Zin es && Nat.beq es.length 4)) (Zg4 cs fun R0 R1 R2 R3 => Zg4 es fun S0 S1 S2 S3 => cond (okA R0 R1 R2 R3 && okA S0 S1 S2 S3) (Q (B (Zku R0 R1 R2 R3 S0 S1 S2 S3))) False) False
  | _ => False
theorem oSA : Zac Tryz.prog 41 sSA := o_al Tryz.func41 (by kernel_rfl) rfl fun ds Q h => by
  unfold sSA at h; split at h
  · obtain ⟨h0, h⟩ := Zaf h
    simp only [Bool.and_eq_true] at h0
    obtain ⟨R0, R1, R2, R3, h, r1⟩ := ZcG h
    obtain ⟨S0, S1, S2, S3, h, r2⟩ := ZcG h
    obtain ⟨h1, h2⟩ := Zaf h
    rw [Bool.and_eq_true] at h1
    rw [List.take_of_length_le (Nat.le_of_eq (Zaa h0.1.2))] at r1
    rw [List.take_of_length_le (Nat.le_of_eq (Zaa h0.2.2))] at r2
    exact ⟨_, _, .cons (.agg r1 h0.1.1 rfl) (.cons (.agg r2 h0.2.1 rfl) .nil), cSA R0 R1 R2 R3 S0 S1 S2 S3 h1.1 h1.2, rfl, rfl, h2⟩
  · exact h.elim
def stSM (h : Mh) (ss : List SesD) (h' : Mh) (ss' : List SesD) (v : Bool) (i : Int) : X := ⟨mkT 62 [(2, .c (.rp 3 0 11 0 0)), (3, .c (.rp 4 0 11 0 0)), (4, ab v), (5, ai i)], [(3, .bx 0 11 ((macL 0 h ss).map C.d)), (4, .bx 0 11 ((macL 0 h' ss').map C.d))], [], []⟩
def Zhm (h : Mh) (ss : List SesD) (h' : Mh) (ss' : List SesD) : Vw := fun y K => wB y 4 fun v => wI y 5 fun i => K (stSM h ss h' ss' v i)
theorem Zi2 (h : Mh) (ss : List SesD) (h' : Mh) (ss' : List SesD) : VwOK (Zhm h ss h' ss') := fun y K h => by
  unfold Zhm at h
  obtain ⟨v, h⟩ := Zdf h
  obtain ⟨i, h⟩ := Zbt h
  exact ⟨_, h⟩
theorem rSM (h : Mh) (ss : List SesD) (h' : Mh) (ss' : List SesD) (v : Bool) (i : Int) (N : X → Prop) (E : Exit → X → Prop) : (Zbb Tryz.prog (hkF [(32, sSS)] [] []) Tryz.f24 0 [] [2, 3, 4, 5] [3, 4] (Zhm h ss h' ss') (fun _ => Zhm h ss h' ss') N E (stSM h ss h' ss' v i)) = (bif decide (i < @Nat.cast Int _ (List.length (List.map (sesL (0)) ss))) then bif decide (0 ≤ i) && decide (i < @Nat.cast Int _ (List.length (List.map (sesL (0)) ss))) then ∃ s, ZgC (List.map (sesL (0)) ss) (Int.toNat i) (0) s ∧ bif decide (0 ≤ i) && decide (i < @Nat.cast Int _ (List.length (List.map (sesL (0)) ss'))) then ∃ s_1, ZgC (List.map (sesL (0)) ss') (Int.toNat i) (0) s_1 ∧ bif ZaF s && ZaF s_1 then bif !Zi7 s s_1 then stSM h ss h' ss' false i = stSM h ss h' ss' false i ∧ E Exit.ret (stSM h ss h' ss' false i) else stSM h ss h' ss' v (IntKind.wrap IntKind.i64 (i + 1)) = stSM h ss h' ss' v (IntKind.wrap IntKind.i64 (i + 1)) ∧ N (stSM h ss h' ss' v (IntKind.wrap IntKind.i64 (i + 1))) else False else False else False else stSM h ss h' ss' v i = stSM h ss h' ss' v i ∧ E (Exit.exit (0)) (stSM h ss h' ss' v i)) := by kernel_rfl
def sesN (ss : List SesD) (i : Nat) : SesD := ss.getD i default
def unl (ss ss' : List SesD) (i : Nat) : Bool := !Zi7 (sesN ss i) (sesN ss' i)
def fSM (h : Mh) (ss : List SesD) (h' : Mh) (ss' : List SesD) : LSum := fun Q x => ss.length = ss'.length ∧ ZcH [2, 3, 4, 5] [3, 4] (fun i => stSM h ss h' ss' false i) (fun i => stSM h ss h' ss' false i) ss.length (unl ss ss') .ret (.exit 0) Q x
theorem eSM (h : Mh) (ss : List SesD) (h' : Mh) (ss' : List SesD) (K : DV → Prop) : (askW Tryz.prog (hkFL [(41, sSA), (59, ZcI)] [] [] [(4, fSM h ss h' ss')]) Tryz.f24 [.agg (macL 0 h ss), .agg (macL 0 h' ss')] K) = (bif okA h.w0 h.w1 h.w2 h.w3 && okA h'.w0 h'.w1 h'.w2 h'.w3 then bif !Zku h.w0 h.w1 h.w2 h.w3 h'.w0 h'.w1 h'.w2 h'.w3 then K (B false) else bif !eqI [h.c0, h.c1, h.c2, h.c3] [h'.c0, h'.c1, h'.c2, h'.c3] then K (B false) else bif h.ce != h'.ce then K (B false) else bif @Nat.cast Int _ (List.length (List.map (sesL (0)) ss)) != @Nat.cast Int _ (List.length (List.map (sesL (0)) ss')) then K (B false) else bif okZ (4) h.tr && okZ (4) h'.tr then bif !decide (toZ h.tr = toZ h'.tr) then K (B false) else List.length ss = List.length ss' ∧ stSM h ss h' ss' false (0) = stSM h ss h' ss' false (0) ∧ (∀ (i : Nat), firstAt (unl ss ss') (List.length ss) i → K (B false)) ∧ (noneTo (unl ss ss') (List.length ss) → K (B true)) else False else False) := by kernel_rfl
theorem Zos {ss : List SesD} {i t : Nat} (h : i < ss.length) : ZgC (List.map (sesL t) ss) i t (sesN ss i) := Zga (by unfold sesN; rw [List.getD_eq_getElem?_getD, List.getElem?_eq_getElem h]; rfl)
theorem Zdo {ss : List SesD} {i : Nat} (h : i < ss.length) : sesN ss i ∈ ss := by
  unfold sesN
  rw [List.getD_eq_getElem?_getD, List.getElem?_eq_getElem h]
  exact List.getElem_mem h
theorem kSM {h : Mh} {ss : List SesD} {h' : Mh} {ss' : List SesD} (hs : okSS ss = true) (hs' : okSS ss' = true) (hn : ss.length ≤ 9223372036854775806) (Q : Exit → X → Prop) (x : X) (hq : fSM h ss h' ss' Q x) : XWP Tryz.prog (.loop (Zak Tryz.f24 0)) Q x := by
  obtain ⟨hl, hq⟩ := hq
  have q1 := List.all_eq_true.1 hs
  have q2 := List.all_eq_true.1 hs'
  refine Zbj (sw := []) (V := Zhm h ss h' ss') (VE := fun _ => Zhm h ss h' ss') mixed (Zi2 h ss h' ss') (fun _ => Zi2 h ss h' ss') _ _ _ _ _ _ (fun i hi => ⟨hkF [(32, sSS)] [] [], Zfr (.cons oSS .nil) .nil .nil, Zae rfl, fun N E h1 h2 => ?_⟩) ⟨hkF [(32, sSS)] [] [], Zfr (.cons oSS .nil) .nil .nil, Zae rfl, fun N E h1 => ?_⟩ Q x hq
  · rw [rSM]
    have wi : IntKind.wrap IntKind.i64 ((i : Int) + 1) = ((i + 1 : Nat) : Int) := Zai (n := 1) (by omega)
    have hi' : i < ss'.length := by omega
    simp only [List.length_map, Int.ofNat_lt, hi, hi', decide_true, cond_true, Int.natCast_nonneg, Bool.and_self, Int.toNat_natCast, wi]
    refine ⟨sesN ss i, Zos hi, sesN ss' i, Zos hi', ?_⟩
    rw [q1 _ (Zdo hi), q2 _ (Zdo hi')]
    unfold unl at h1 h2
    generalize Zi7 (sesN ss i) (sesN ss' i) = u at h1 h2 ⊢
    cases u
    · exact ⟨trivial, h1 rfl⟩
    · exact ⟨trivial, h2 rfl⟩
  · rw [rSM]
    simp only [List.length_map, Int.ofNat_lt, Nat.lt_irrefl, decide_false, cond_false, true_and]
    exact h1
def ZnH (h : Mh) (ss : List SesD) (h' : Mh) (ss' : List SesD) : Bool := Zku h.w0 h.w1 h.w2 h.w3 h'.w0 h'.w1 h'.w2 h'.w3 && (eqI [h.c0, h.c1, h.c2, h.c3] [h'.c0, h'.c1, h'.c2, h'.c3] && (h.ce == h'.ce && (decide (ss.length = ss'.length) && (decide (toZ h.tr = toZ h'.tr) && !(List.range ss.length).any (unl ss ss')))))
theorem Zpu {ss ss' : List SesD} (hl : ss.length = ss'.length) (h : ∀ i, i < ss.length → sesN ss i = sesN ss' i) : ss = ss' := by
  apply List.ext_getElem hl
  intro i h1 h2
  have := h i h1
  unfold sesN at this
  rwa [List.getD_eq_getElem?_getD, List.getD_eq_getElem?_getD, List.getElem?_eq_getElem h1, List.getElem?_eq_getElem h2] at this
theorem Zo6 {h : Mh} {ss : List SesD} {h' : Mh} {ss' : List SesD} (ho : okM h ss = true) (ho' : okM h' ss' = true) : ZnH h ss h' ss' = true ↔ h = h' ∧ ss = ss' := by
  obtain ⟨a1, a2, a3⟩ := ZbZ ho
  obtain ⟨b1, b2, b3⟩ := ZbZ ho'
  have q1 := List.all_eq_true.1 a3
  have q2 := List.all_eq_true.1 b3
  unfold ZnH
  simp only [Bool.and_eq_true, Zpo a1 b1, eqI4, beq_iff_eq, decide_eq_true_eq, Bool.not_eq_true', List.any_eq_false, List.mem_range]
  constructor
  · rintro ⟨⟨e0, e1, e2, e3⟩, ⟨e4, e5, e6, e7⟩, e8, e9, e10, e11⟩
    have e10 := Zc1 a2 b2 e10
    refine ⟨?_, Zpu e9 fun i hi => ?_⟩
    · cases h; cases h'
      simp only at *
      subst e0 e1 e2 e3 e4 e5 e6 e7 e8 e10
      rfl
    · have := e11 i hi
      unfold unl at this
      simp only [Bool.not_eq_true, Bool.not_eq_false'] at this
      exact (Zii (q1 _ (Zdo hi)) (q2 _ (Zdo (by omega)))).1 (by simpa using this)
  · rintro ⟨rfl, rfl⟩
    refine ⟨⟨rfl, rfl, rfl, rfl⟩, ⟨rfl, rfl, rfl, rfl⟩, rfl, rfl, rfl, fun i hi => ?_⟩
    unfold unl
    rw [(Zii (q1 _ (Zdo hi)) (q1 _ (Zdo hi))).2 rfl]; simp
theorem cSM (h : Mh) (ss : List SesD) (h' : Mh) (ss' : List SesD) (ho : okM h ss = true) (ho' : okM h' ss' = true) (hn : ss.length ≤ 9223372036854775806) : CT Tryz.prog 24 [.agg (macL 0 h ss), .agg (macL 0 h' ss')] (B (ZnH h ss h' ss')) := by
  obtain ⟨a1, a2, a3⟩ := ZbZ ho
  obtain ⟨b1, b2, b3⟩ := ZbZ ho'
  refine Zsu (m := [(4, fSM h ss h' ss')]) (.cons oSA (.cons Zfu .nil)) .nil .nil mixed (Zh5 (i := 0) (fun j hj _ => by have : j < 1 := hj; omega) (kSM a3 b3 hn)) Tryz.func24 rfl rfl rfl ?_
  rw [eSM]
  refine ⟨?_⟩
  unfold ZnH
  simp only [a1, a2, b1, b2, Bool.and_self, cond_true, List.length_map]
  cases Zku h.w0 h.w1 h.w2 h.w3 h'.w0 h'.w1 h'.w2 h'.w3
  · exact AL.refl _
  · cases eqI [h.c0, h.c1, h.c2, h.c3] [h'.c0, h'.c1, h'.c2, h'.c3]
    · exact AL.refl _
    · cases hc : h.ce == h'.ce
      · have : (h.ce != h'.ce) = true := by unfold bne; rw [hc]; rfl
        rw [this]; exact AL.refl _
      · have : (h.ce != h'.ce) = false := by unfold bne; rw [hc]; rfl
        rw [this]
        by_cases hl : ss.length = ss'.length
        · have : (@Nat.cast Int _ (List.length ss) != @Nat.cast Int _ (List.length ss')) = false := by rw [hl]; simp
          rw [this, decide_eq_true hl]
          cases decide (toZ h.tr = toZ h'.tr)
          · exact AL.refl _
          · refine ⟨hl, trivial, fun i hi => ?_, fun hn => ?_⟩
            · rw [hi.b]; exact AL.refl _
            · rw [hn.b]; exact AL.refl _
        · have : (@Nat.cast Int _ (List.length ss) != @Nat.cast Int _ (List.length ss')) = true := by simp; omega
          rw [this, decide_eq_false hl]; exact AL.refl _
def sSM : Spec := fun ds Q => match ds with
  | [d, e] => macA d fun h ss => macA e fun h' ss' => cond (okM h ss && (okM h' ss' && Nat.ble ss.length 4)) (Q (B (ZnH h ss h' ss'))) False
  | _ => False
theorem oSM : Zac Tryz.prog 24 sSM := o_al Tryz.func24 (by kernel_rfl) rfl fun ds Q hq => by
  unfold sSM at hq; split at hq
  · obtain ⟨h, ss, hq, r1⟩ := ZbD hq
    obtain ⟨h', ss', hq, r2⟩ := ZbD hq
    obtain ⟨h1, h2⟩ := Zaf hq
    simp only [Bool.and_eq_true] at h1
    exact ⟨_, _, .cons r1 (.cons r2 .nil), cSM h ss h' ss' h1.1 h1.2.1 (by have := Nat.le_of_ble_eq_true h1.2.2; omega), rfl, rfl, h2⟩
  · exact hq.elim
end

section
open Go Go.Proofs
def iNew : Inl := inlM Tryz.prog [(48, Zmr), (49, ZgS), (26, ZpZ)] [] [] Tryz.f20
theorem Zq4 : Zbl Tryz.prog 20 iNew := Za9 (.cons Zt4 (.cons Zr1 (.cons Zsv .nil))) .nil .nil mixed Tryz.func20 rfl (Zax Tryz.func20 (by kernel_rfl) rfl)
def iTel : Inl := ZmE Tryz.prog [34, 3, 3, 3] (sF sTel)
theorem Zrz : Zbl Tryz.prog 22 iTel := ZdS (oF oTel)
def Ztw (k : Int) (h : Mh) (s : SesD) : Inl := ZmE Tryz.prog [3, 3] (sF (sAtD [I 0, I k] (.agg (macL 1 h [s, bB]))))
theorem Zkw : Zbl Tryz.prog 31 (Ztw 2 bH2 bA2) := ZdS (oF (oAtD (Zax Tryz.func31 (by kernel_rfl) rfl) Zph rfl rfl))
theorem Ztz (K : DV → Prop) : (askH Tryz.prog (hkM [(26, ZpZ), (24, sSM), (59, ZcI), (25, sI)] [] [(78, iBeg), (22, iTel), (20, iNew), (31, Ztw 2 bH2 bA2)]) Tryz.f30 [] K) = (([] : List DV) = [] ∧ ([] : List DV) = [] ∧ ([] : List DV) = [] ∧ [I (0), I (2)] = [I (0), I (2)] ∧ K (B true)) := by kernel_rfl
theorem ZuW : CT Tryz.prog 30 [] (B true) := by
  refine ct_m (.cons Zsv (.cons oSM (.cons Zfu (.cons oNum .nil)))) .nil (.cons Zjq (.cons Zrz (.cons Zq4 (.cons Zkw .nil)))) mixed Tryz.func30 rfl rfl rfl ?_
  rw [Ztz]
  exact ⟨by repeat (first | exact rfl | refine ⟨rfl, ?_⟩)⟩
theorem Zsx : Zac Tryz.prog 30 (sAtD [] (B true)) := oAtD (Zax Tryz.func30 (by kernel_rfl) rfl) ZuW rfl rfl
end

section
open Go Go.Proofs
theorem OD.frz {w : World} {G : Nat → Prop} {v : Value} {S G' S' : Nat → Prop} {d e : D} (h : RD d e) (he : e.isOwn = false) (hg : ∀ b, G b → G' b) (hs : ∀ b, S b → G' b) (hv : OD w G v d S) : OD w G' v e S' := by
  refine .r _ _ _ (fun z rows sp q => ?_) (h _ _ _ (hv.read hg hs))
  subst q; cases he
theorem ZtJ {d e : D} (h : RD d e) (he : e.isOwn = false) : Frz (.c d) (.c e) := fun w G v S hv => by
  cases hv with
  | c _ _ _ hx => exact .c _ _ _ (hx.frz h he (fun _ => .inl) (fun _ => .inr))
theorem ZqF {cs cs' : List D} (h : All2 RD cs cs') (he : cs'.all (fun d => !d.isOwn) = true) : Frz (.agg cs) (.agg cs') := fun w G v S hv => by
  cases hv with
  | agg vs _ _ sub h1 h2 h3 h4 =>
    refine .agg vs cs' _ (fun _ _ => False) (by rw [← h.len]; exact h1) (fun i e hi => ?_) (fun _ _ q => q) (fun _ _ _ q => q.elim)
    obtain ⟨d, g1, g2⟩ := h.get hi
    have a2 := List.all_eq_true.1 he e (List.mem_of_getElem? hi)
    exact (h2 i d g1).frz g2 (by simpa using a2) (fun _ => .inl) (fun b hb => .inr (h3 i b hb))
theorem Zrv {xs ys : List DV} (h : All2 Frz xs ys) : Frz (.tup xs) (.tup ys) := fun w G v S hv => by
  cases hv with
  | tup vs _ _ sub h1 h2 h3 h4 =>
    refine .tup vs ys _ (fun _ _ => False) (by rw [← h.len]; exact h1) (fun i e hi => ?_) (fun _ _ q => q) (fun _ _ _ q => q.elim)
    obtain ⟨d, g1, g2⟩ := h.get hi
    exact (g2 _ _ _ _ (h2 i d g1)).mono (fun b hb => hb.elim .inl fun q => .inr (h3 i b q)) (.refl _ _) (.refl _ _)
theorem ZsG {t t' : Nat} (s : SesD) : All2 RD (sesL t s) (sesL t' s) :=
  .cons (.refl _) (.cons (.refl _) (.cons (.refl _) (.cons .slice (.cons (.refl _) (.cons (.refl _) (.cons (.refl _) (.cons (.refl _) (.cons (.refl _) (.cons (.refl _) (.cons .slice (.cons .slice (.cons (.refl _) (.cons (.refl _) (.cons (.refl _) (.cons (.refl _) (.cons (.refl _) .nil))))))))))))))))
theorem ZnX {t t' : Nat} : ∀ ss : List SesD, All2 (All2 RD) (ss.map (sesL t)) (ss.map (sesL t'))
  | [] => .nil
  | s :: ss => .cons (ZsG s) (ZnX ss)
theorem Zso {t t' : Nat} (h : Mh) (ss : List SesD) : All2 RD (macL t h ss) (macL t' h ss) :=
  .cons .slice (.cons .slice (.cons .slice (.cons .slice (.cons (.refl _) (.cons (.refl _) (.cons (.refl _) (.cons (.refl _) (.cons (.refl _) (.cons (.rows (ZnX ss)) (.cons .slice .nil))))))))))
def macZ (h : Mh) (ss : List SesD) (e : Int) : DV := .tup [.agg (macL 0 h ss), I e]
theorem Zl0 (h : Mh) (ss : List SesD) (e : Int) : Frz (macR h ss e) (macZ h ss e) := Zrv (.cons (ZqF (Zso h ss) rfl) (.cons (ZtJ (.refl _) rfl) .nil))
def Zpy (ds es : List DV) : Prop := All2 AL ds es
def sAtL (es : List DV) (r : DV) : Spec := fun ds Q => Zpy ds es ∧ Q r
theorem oAtL {f : FuncId} {fn : Func} {es : List DV} {r : DV} (hf : Tryz.prog.funcs[f]? = some fn) (hn : (fn.name == "runtime.NumGoroutine") = false) (hb : fn.body.isNone = false) (hc : CT Tryz.prog f es r) (hp : r.pureOwn = true) (hfit : r.fit32 = true) : Zac Tryz.prog f (sAtL es r) :=
  o_al hf hn hb fun ds Q hq => ⟨_, _, hq.1, hc, hp, hfit, hq.2⟩
end

section
open Go Go.Proofs
theorem GoodL.i {cs : List KT} {ds : List D} (h : GoodL (.int :: cs) ds) : ∃ n ds', ds = vN n :: ds' ∧ GoodL cs ds' := by
  obtain ⟨d, ds', rfl, h1, h2⟩ := h.cons_inv
  obtain ⟨n, rfl, _⟩ := h1.int_inv
  exact ⟨n, ds', rfl, h2⟩
end

section
open Go Go.Proofs
theorem GoodL.rb {z b : Nat} {cs : List KT} {ds : List D} (h : GoodL (.sl (List.replicate z .int) b :: cs) ds) : ∃ R ds', ds = .s 0 z R [] :: ds' ∧ okZ z R = true ∧ R.length * b ≤ 140737488351232 ∧ GoodL cs ds' := by
  obtain ⟨d, ds', rfl, h1, h2⟩ := h.cons_inv
  obtain ⟨R, rfl, h3, h4⟩ := h1.rows
  exact ⟨R, ds', rfl, h3, h4, h2⟩
end

section
open Go Go.Proofs
def wCn : Nat → List C → (C → Prop) → Prop
  | 0, r, K => wC r fun c _ => K c
  | n + 1, r, K => wC r fun _ r => wCn n r K
theorem Zqb : ∀ {n : Nat} {r : List C} {K : C → Prop}, wCn n r K → ∃ c, K c
  | 0, r, K, h => by obtain ⟨c, _, h⟩ := Ztp h; exact ⟨c, h⟩
  | n + 1, r, K, h => by obtain ⟨_, r, h⟩ := Ztp h; exact Zqb h
theorem ZqP {n : Nat} {R : List (List D)} (h : smR n R = true) : allK R = true := by
  obtain ⟨_, _, h⟩ := Zab h
  exact h
theorem ZcB {i j n : Nat} : foAt i j n ↔ i = j ∧ j < n := by simp [foAt]
end

section
open Go Go.Proofs
def ZoQ (ds : List DV) : Prop := ∃ h ss, okM h ss = true ∧ ss.length ≤ 9223372036854775806 ∧ All2 AL ds [.agg (macL 0 h ss), .agg (macL 0 h ss)]
def ZsM : Spec := fun ds Q => ZoQ ds ∧ Q (B true)
theorem ZtD : Zac Tryz.prog 24 ZsM := o_al Tryz.func24 (by kernel_rfl) rfl fun ds Q q => by
  obtain ⟨⟨h, ss, ho, hl, ha⟩, q⟩ := q
  have := cSM h ss h ss ho ho hl
  rw [(Zo6 ho ho).2 ⟨rfl, rfl⟩] at this
  exact ⟨_, _, ha, this, rfl, rfl, q⟩
theorem Zsk {R : List (List D)} {n : Nat} : cut R n 0 = [] := by simp [cut]
theorem ZrY {R : List (List D)} : cut R 0 R.length = R := Zhu rfl
theorem ZnU {h : Mh} {ss : List SesD} (ho : okM h ss = true) (hl : ss.length ≤ 9223372036854775806) : ZoQ [.agg (macL 0 h ss), .agg (macL 0 h ss)] := ⟨h, ss, ho, hl, .cons (.refl _) (.cons (.refl _) .nil)⟩
end

section
open Go Go.Proofs
theorem Zmu {P : Program} {ι : Type} {fn : Func} {i : Nat} (sw : List (Nat × Nat)) {ts ks : List Nat} (hm : P.follows .mixedOrders = true) (St : ι → X) (inv : ι → Prop) (μ : ι → Nat) {Q : Exit → X → Prop} {x : X} (i0 : ι)
    (hr : ∀ p, inv p → ∃ (H : Hooks) (V : Vw) (VE : Exit → Vw), Zao P H ∧ Zau P H (Zak fn i) ∧ VwOK V ∧ (∀ e, VwOK (VE e)) ∧ Zbb P H fn i sw ts ks V VE (fun y => ∃ p', μ p' < μ p ∧ inv p' ∧ y = St p') Q (St p)) (h0 : inv i0) (hx : x.arr ts ks = St i0) : XWP P (.loop (Zak fn i)) Q x := by
  refine Zf3 ts ks (Zjz ts ks ?_)
  rw [hx]
  refine Zfa (ι := ι) (fun p y => inv p ∧ (y.rens sw).arr ts ks = St p ∨ inv p ∧ y = St p) μ i0 (.inr ⟨h0, rfl⟩) fun p y hy => ?_
  have key : XWP P (Zak fn i) (fun e y => match e with | .normal => ∃ p', μ p' < μ p ∧ (inv p' ∧ (y.rens sw).arr ts ks = St p' ∨ inv p' ∧ y = St p') | e => Q e (y.arr ts ks)) (St p) := by
    have hp : inv p := hy.elim And.left And.left
    obtain ⟨H, V, VE, hH, hl, hV, hVE, hr⟩ := hr p hp
    refine ZbV (Zbf hH hm 200 _ _ _ hl hr) fun e y he => ?_
    cases e with
    | normal => obtain ⟨p', h1, h2, h3⟩ := Zc6 hV he; exact ⟨p', h1, .inl ⟨h2, h3⟩⟩
    | _ => exact Zc6 (hVE _) he
  rcases hy with ⟨_, h⟩ | ⟨_, rfl⟩
  · exact ZlA sw (Zf3 ts ks (by rw [h]; exact key))
  · exact key
theorem Zjw {P : Program} {fn : Func} {k : Nat} {sw : List (Nat × Nat)} {ts ks : List Nat} (hm : P.follows .mixedOrders = true)
    (St Sr : Nat → X) (n : Nat) (bad : Nat → Bool) (r e : Exit)
    (hs : ∀ i, i < n → (∀ j, j < i → bad j = false) → ∃ (H : Hooks) (V : Vw) (VE : Exit → Vw), Zao P H ∧ Zau P H (Zak fn k) ∧ VwOK V ∧ (∀ e, VwOK (VE e)) ∧ ∀ (N : X → Prop) (E : Exit → X → Prop), (bad i = true → E r (Sr i)) → (bad i = false → N (St (i + 1))) → Zbb P H fn k sw ts ks V VE N E (St i))
    (he : (∀ j, j < n → bad j = false) → ∃ (H : Hooks) (V : Vw) (VE : Exit → Vw), Zao P H ∧ Zau P H (Zak fn k) ∧ VwOK V ∧ (∀ e, VwOK (VE e)) ∧ ∀ (N : X → Prop) (E : Exit → X → Prop), E e (St n) → Zbb P H fn k sw ts ks V VE N E (St n))
    (Q : Exit → X → Prop) (x : X) (h : ZcH ts ks St Sr n bad r e Q x) : XWP P (.loop (Zak fn k)) Q x := by
  obtain ⟨h1, h2, h3⟩ := h
  refine Zmu (ι := Nat) sw hm St (fun i => i ≤ n ∧ ∀ j, j < i → bad j = false) (fun i => n - i) 0 (fun i hp => ?_) ⟨Nat.zero_le _, fun j hj => by omega⟩ h1
  obtain ⟨hi, hj⟩ := hp
  by_cases hl : i < n
  · obtain ⟨H, V, VE, c1, c2, c3, c4, c5⟩ := hs i hl hj
    refine ⟨H, V, VE, c1, c2, c3, c4, c5 _ _ (fun hb => h2 i ⟨hl, hb, hj⟩) (fun hb => ⟨i + 1, by omega, ⟨hl, fun j hji => ?_⟩, rfl⟩)⟩
    rcases Nat.lt_succ_iff_lt_or_eq.1 hji with hji | rfl
    · exact hj j hji
    · exact hb
  · have e : i = n := by omega
    subst e
    obtain ⟨H, V, VE, c1, c2, c3, c4, c5⟩ := he hj
    exact ⟨H, V, VE, c1, c2, c3, c4, c5 _ _ (h3 hj)⟩
end

section
open Go Go.Proofs
def newS (s : StD) : SesD := ⟨s.id, s.lb, s.cl, s.pg, 0, 0, 0, 0, 0, 0, [], [], 0, 0, 0, 0, 0⟩
def ses0 : SesD := ⟨0, 0, 0, [], 0, 0, 0, 0, 0, 0, [], [], 0, 0, 0, 0, 0⟩
def okSt (s : StD) : Bool := okZ 4 s.pg && decide (s.pg.length ≤ 4398046510977)
def ZcZ (s : StD) : Bool := smay s.id s.lb s.cl (toZ s.pg)
def Zd9 : Spec := fun ds Q => match ds with
  | [.agg cs] => cond (Zin cs) (ZlT cs fun i g c R => cond (okSt ⟨i, g, c, R⟩) (cond (ZcZ ⟨i, g, c, R⟩) (Q (.tup [.agg (sesL 1 (newS ⟨i, g, c, R⟩)), I 0])) (Q (.tup [.agg (sesL 1 ses0), I 1100]))) False) False
  | _ => False
structure ScrD where
  (v0 v1 v2 v3 : List (List D))
  ce : Int
  sts : List StD
  sl : List (List D)
def scrL (t : Nat) (c : ScrD) : List D := [.s t 1 c.v0 [], .s t 1 c.v1 [], .s t 1 c.v2 [], .s t 1 c.v3 [], vN c.ce, .s t 4 (c.sts.map (staL t)) [], .s t 2 c.sl []]
def mhW (w0 w1 w2 w3 : List (List D)) (ce : Int) : Mh := ⟨w0, w1, w2, w3, 0, 0, 0, 0, ce, []⟩
def ZbC (c : ScrD) (w0 w1 w2 w3 : List (List D)) (r e i : Int) (W0 W1 W2 W3 : List (List D)) : X := ⟨mkT 54 [(1, .c (.rp 2 0 7 0 0)), (2, .c (.rp 3 0 11 0 0)), (3, ai r), (5, ai e), (6, .c (.rp 7 0 11 0 0)), (22, .c (.d (.s 0 4 (c.sts.map (staL 0)) []))), (23, ai (c.sts.map (staL 0)).length), (24, ai i)], [(2, .bx 0 7 ((scrL 0 c).map C.d)), (3, .bx 0 11 (mac0.map C.d)), (7, .bx 0 11 [.rs 15000 0 3 0 w0.length w0.length, .rs 15001 0 3 0 w1.length w1.length, .rs 15002 0 3 0 w2.length w2.length, .rs 15003 0 3 0 w3.length w3.length, ci 0, ci 0, ci 0, ci 0, ci c.ce, .d nilV, .d nilV]), (15000, .sl 0 3 W0), (15001, .sl 0 3 W1), (15002, .sl 0 3 W2), (15003, .sl 0 3 W3)], [], []⟩
abbrev Zh2 (c : ScrD) (w0 w1 w2 w3 : List (List D)) (r e i : Int) : X := ZbC c w0 w1 w2 w3 r e i w0 w1 w2 w3
def stNw (c : ScrD) (w0 w1 w2 w3 : List (List D)) (r e i : Int) (n m : Nat) (R : List (List D)) : X := ⟨mkT 54 [(1, .c (.rp 2 0 7 0 0)), (2, .c (.rp 3 0 11 0 0)), (3, ai r), (5, ai e), (6, .c (.rp 7 0 11 0 0)), (22, .c (.d (.s 0 4 (c.sts.map (staL 0)) []))), (23, ai (c.sts.map (staL 0)).length), (24, ai i)], [(2, .bx 0 7 ((scrL 0 c).map C.d)), (3, .bx 0 11 (mac0.map C.d)), (7, .bx 0 11 [.rs 15000 0 3 0 w0.length w0.length, .rs 15001 0 3 0 w1.length w1.length, .rs 15002 0 3 0 w2.length w2.length, .rs 15003 0 3 0 w3.length w3.length, ci 0, ci 0, ci 0, ci 0, ci c.ce, .rs 43 0 17 0 n m, .d nilV]), (15000, .sl 0 3 w0), (15001, .sl 0 3 w1), (15002, .sl 0 3 w2), (15003, .sl 0 3 w3), (43, .sl 0 17 R)], [], []⟩
def vNw (c : ScrD) (w0 w1 w2 w3 : List (List D)) : Vw := fun y K => wI y 3 fun r => wI y 5 fun e => wI y 24 fun i => wR y 7 fun b => wCn 9 b fun d => cS d fun n m => wL y 43 fun R => K (stNw c w0 w1 w2 w3 r e i n m R)
theorem Zlq (c : ScrD) (w0 w1 w2 w3 : List (List D)) : VwOK (vNw c w0 w1 w2 w3) := fun y K q => by
  unfold vNw at q
  obtain ⟨r, q⟩ := Zbt q
  obtain ⟨e, q⟩ := Zbt q
  obtain ⟨i, q⟩ := Zbt q
  obtain ⟨b, q⟩ := ZuO q
  obtain ⟨d, q⟩ := Zqb q
  obtain ⟨n, m, q⟩ := Zut q
  obtain ⟨R, q⟩ := ZhB q
  exact ⟨_, q⟩
def vNwe (c : ScrD) (w0 w1 w2 w3 : List (List D)) (n m : Nat) (R : List (List D)) : Vw := fun y K => wI y 3 fun r => wI y 5 fun e => wI y 24 fun i => K (stNw c w0 w1 w2 w3 r e i n m R)
theorem Zrt (c : ScrD) (w0 w1 w2 w3 : List (List D)) (n m : Nat) (R : List (List D)) : VwOK (vNwe c w0 w1 w2 w3 n m R) := fun y K q => by
  unfold vNwe at q
  obtain ⟨r, q⟩ := Zbt q
  obtain ⟨e, q⟩ := Zbt q
  obtain ⟨i, q⟩ := Zbt q
  exact ⟨_, q⟩
def vNwz (c : ScrD) (w0 w1 w2 w3 : List (List D)) : Vw := fun y K => wI y 3 fun r => wI y 5 fun e => wI y 24 fun i => K (Zh2 c w0 w1 w2 w3 r e i)
theorem Zks (c : ScrD) (w0 w1 w2 w3 : List (List D)) : VwOK (vNwz c w0 w1 w2 w3) := fun y K q => by
  unfold vNwz at q
  obtain ⟨r, q⟩ := Zbt q
  obtain ⟨e, q⟩ := Zbt q
  obtain ⟨i, q⟩ := Zbt q
  exact ⟨_, q⟩
theorem rNw0 (c : ScrD) (w0 w1 w2 w3 : List (List D)) (Nn : X → Prop) (E : Exit → X → Prop) : (Zbb Tryz.prog (hkC [(49, Zd9)] [] [] []) Tryz.f20 0 [] [1, 2, 3, 5, 6, 22, 23, 24] [2, 3, 7, 15000, 15001, 15002, 15003, 43] (vNw c w0 w1 w2 w3) (fun _ => vNwz c w0 w1 w2 w3) Nn E (Zh2 c w0 w1 w2 w3 0 0 0)) = (bif decide (0 < @Nat.cast Int _ (List.length (List.map (staL (0)) c.sts))) then bif true && decide (0 < @Nat.cast Int _ (List.length (List.map (staL (0)) c.sts))) then ∃ s, Zih (List.map (staL (0)) c.sts) (0) (0) s ∧ bif okSt s then bif ZcZ s then foAt (0) (0) (1) ∧ whole (List.length (newS s).pg) ((newS s).pg ++ []) ∧ foAt (0) (0) (1) ∧ whole (0) [] ∧ foAt (0) (0) (1) ∧ whole (0) [] ∧ stNw c w0 w1 w2 w3 (0) (0) (1) (1) (1) [(sesL (1) { newS s with pg := (newS s).pg ++ [], rd := [], wt := [] })] = stNw c w0 w1 w2 w3 (0) (0) (1) (1) (1) [(sesL (1) { newS s with pg := (newS s).pg ++ [], rd := [], wt := [] })] ∧ Nn (stNw c w0 w1 w2 w3 (0) (0) (1) (1) (1) [(sesL (1) { newS s with pg := (newS s).pg ++ [], rd := [], wt := [] })]) else ZbC c w0 w1 w2 w3 (0) (1100) (0) w0 w1 w2 w3 = ZbC c w0 w1 w2 w3 (0) (1100) (0) w0 w1 w2 w3 ∧ E (Exit.exit (0)) (ZbC c w0 w1 w2 w3 (0) (1100) (0) w0 w1 w2 w3) else False else False else ZbC c w0 w1 w2 w3 (0) (0) (0) w0 w1 w2 w3 = ZbC c w0 w1 w2 w3 (0) (0) (0) w0 w1 w2 w3 ∧ E (Exit.exit (0)) (ZbC c w0 w1 w2 w3 (0) (0) (0) w0 w1 w2 w3)) := by kernel_rfl
theorem rNwb (c : ScrD) (w0 w1 w2 w3 : List (List D)) (Nn : X → Prop) (E : Exit → X → Prop) : (Zbb Tryz.prog (hkC [(49, Zd9)] [] [] []) Tryz.f20 0 [] [1, 2, 3, 5, 6, 22, 23, 24] [2, 3, 7, 15000, 15001, 15002, 15003, 43] (vNw c w0 w1 w2 w3) (fun _ => vNwz c w0 w1 w2 w3) Nn E (Zh2 c w0 w1 w2 w3 0 400 0)) = (bif decide (0 < @Nat.cast Int _ (List.length (List.map (staL (0)) c.sts))) then bif true && decide (0 < @Nat.cast Int _ (List.length (List.map (staL (0)) c.sts))) then ∃ s, Zih (List.map (staL (0)) c.sts) (0) (0) s ∧ bif okSt s then bif ZcZ s then ZbC c w0 w1 w2 w3 (0) (400) (0) w0 w1 w2 w3 = ZbC c w0 w1 w2 w3 (0) (400) (0) w0 w1 w2 w3 ∧ E (Exit.exit (0)) (ZbC c w0 w1 w2 w3 (0) (400) (0) w0 w1 w2 w3) else ZbC c w0 w1 w2 w3 (0) (1100) (0) w0 w1 w2 w3 = ZbC c w0 w1 w2 w3 (0) (1100) (0) w0 w1 w2 w3 ∧ E (Exit.exit (0)) (ZbC c w0 w1 w2 w3 (0) (1100) (0) w0 w1 w2 w3) else False else False else ZbC c w0 w1 w2 w3 (0) (400) (0) w0 w1 w2 w3 = ZbC c w0 w1 w2 w3 (0) (400) (0) w0 w1 w2 w3 ∧ E (Exit.exit (0)) (ZbC c w0 w1 w2 w3 (0) (400) (0) w0 w1 w2 w3)) := by kernel_rfl
theorem rNw1 (c : ScrD) (w0 w1 w2 w3 : List (List D)) (i : Int) (n m : Nat) (R : List (List D)) (Nn : X → Prop) (E : Exit → X → Prop) : (Zbb Tryz.prog (hkC [(49, Zd9)] [] [] []) Tryz.f20 0 [] [1, 2, 3, 5, 6, 22, 23, 24] [2, 3, 7, 15000, 15001, 15002, 15003, 43] (vNw c w0 w1 w2 w3) (fun _ => vNwe c w0 w1 w2 w3 n m R) Nn E (stNw c w0 w1 w2 w3 0 0 i n m R)) = (bif decide (i < @Nat.cast Int _ (List.length (List.map (staL (0)) c.sts))) then bif decide (0 ≤ i) && decide (i < @Nat.cast Int _ (List.length (List.map (staL (0)) c.sts))) then ∃ s, Zih (List.map (staL (0)) c.sts) (Int.toNat i) (0) s ∧ bif okSt s then bif ZcZ s then n = List.length R ∧ bif decide ((n + 1) * 184 ≤ 140737488355328) && decide (n + 1 ≤ 9223372036854775807) then foAt n n (List.length (R ++ [[]])) ∧ whole (List.length (newS s).pg) ((newS s).pg ++ []) ∧ foAt n n (List.length (R ++ [[]])) ∧ whole (0) [] ∧ foAt n n (List.length (R ++ [[]])) ∧ whole (0) [] ∧ stNw c w0 w1 w2 w3 (0) (0) (IntKind.wrap IntKind.i64 (i + 1)) (n + 1) (n + 1) (List.set (R ++ [[]]) n (sesL (1) { newS s with pg := (newS s).pg ++ [], rd := [], wt := [] })) = stNw c w0 w1 w2 w3 (0) (0) (IntKind.wrap IntKind.i64 (i + 1)) (n + 1) (n + 1) (List.set (R ++ [[]]) n (sesL (1) { newS s with pg := (newS s).pg ++ [], rd := [], wt := [] })) ∧ Nn (stNw c w0 w1 w2 w3 (0) (0) (IntKind.wrap IntKind.i64 (i + 1)) (n + 1) (n + 1) (List.set (R ++ [[]]) n (sesL (1) { newS s with pg := (newS s).pg ++ [], rd := [], wt := [] }))) else False else stNw c w0 w1 w2 w3 (0) (1100) i n m R = stNw c w0 w1 w2 w3 (0) (1100) i n m R ∧ E (Exit.exit (0)) (stNw c w0 w1 w2 w3 (0) (1100) i n m R) else False else False else stNw c w0 w1 w2 w3 (0) (0) i n m R = stNw c w0 w1 w2 w3 (0) (0) i n m R ∧ E (Exit.exit (0)) (stNw c w0 w1 w2 w3 (0) (0) i n m R)) := by kernel_rfl
def fNw (c : ScrD) (w0 w1 w2 w3 : List (List D)) (e0 : Int) (z : Bool) (r1 e1 i1 : Int) (n : Nat) (R : List (List D)) : LSum := fun Q x => wL x 15000 fun W0 => wL x 15001 fun W1 => wL x 15002 fun W2 => wL x 15003 fun W3 => W0 = w0 ∧ W1 = w1 ∧ W2 = w2 ∧ W3 = w3 ∧ x.arr [1, 2, 3, 5, 6, 22, 23, 24] [2, 3, 7, 15000, 15001, 15002, 15003, 43] = ZbC c w0 w1 w2 w3 0 e0 0 W0 W1 W2 W3 ∧ ((z = true → Q (.exit 0) (Zh2 c w0 w1 w2 w3 r1 e1 i1)) ∧ (z = false → Q (.exit 0) (stNw c w0 w1 w2 w3 r1 e1 i1 n n R)))
theorem eNw (c : ScrD) (w0 w1 w2 w3 : List (List D)) (e0 : Int) (z : Bool) (r1 e1 i1 : Int) (n : Nat) (R : List (List D)) (ss : List SesD) (t : Bool) (K : DV → Prop) : (askW Tryz.prog (hkC [(48, sAtD [.agg [.s 0 1 c.v0 [], .s 0 1 c.v1 [], .s 0 1 c.v2 [], .s 0 1 c.v3 []]] (.tup [dO w0 w1 w2 w3, I e0])), (49, Zd9), (26, sAtL [.agg (macL 0 (mhW w0 w1 w2 w3 c.ce) ss)] (B t))] [] [] [(4, fNw c w0 w1 w2 w3 e0 z r1 e1 i1 n R)]) Tryz.f20 [.agg (scrL 0 c)] K) = ([DV.agg [D.s (0) (1) c.v0 [], D.s (0) (1) c.v1 [], D.s (0) (1) c.v2 [], D.s (0) (1) c.v3 []]] = [DV.agg [D.s (0) (1) c.v0 [], D.s (0) (1) c.v1 [], D.s (0) (1) c.v2 [], D.s (0) (1) c.v3 []]] ∧ w0 ++ [] = w0 ∧ w1 ++ [] = w1 ∧ w2 ++ [] = w2 ∧ w3 ++ [] = w3 ∧ ZbC c w0 w1 w2 w3 (0) e0 (0) (w0 ++ []) (w1 ++ []) (w2 ++ []) (w3 ++ []) = ZbC c w0 w1 w2 w3 (0) e0 (0) (w0 ++ []) (w1 ++ []) (w2 ++ []) (w3 ++ []) ∧ (z = true → bif e1 != 0 then K (DV.tup [DV.agg mac0, I (1200)]) else bif decide (0 + List.length w0 ≤ List.length w0) then bif decide (0 + List.length w1 ≤ List.length w1) then bif decide (0 + List.length w2 ≤ List.length w2) then bif decide (0 + List.length w3 ≤ List.length w3) then Zpy [DV.agg [D.s (0) (3) (cut w0 (0) (List.length w0)) (cut w0 (0 + List.length w0) (List.length w0 - List.length w0)), D.s (0) (3) (cut w1 (0) (List.length w1)) (cut w1 (0 + List.length w1) (List.length w1 - List.length w1)), D.s (0) (3) (cut w2 (0) (List.length w2)) (cut w2 (0 + List.length w2) (List.length w2 - List.length w2)), D.s (0) (3) (cut w3 (0) (List.length w3)) (cut w3 (0 + List.length w3) (List.length w3 - List.length w3)), vN (0), vN (0), vN (0), vN (0), vN c.ce, D.s (0) (17) [] [], D.s (0) (4) [] []]] [DV.agg (macL (0) ⟨(mhW w0 w1 w2 w3 c.ce).w0, (mhW w0 w1 w2 w3 c.ce).w1, (mhW w0 w1 w2 w3 c.ce).w2, (mhW w0 w1 w2 w3 c.ce).w3, (mhW w0 w1 w2 w3 c.ce).c0, (mhW w0 w1 w2 w3 c.ce).c1, (mhW w0 w1 w2 w3 c.ce).c2, (mhW w0 w1 w2 w3 c.ce).c3, (mhW w0 w1 w2 w3 c.ce).ce, (mhW w0 w1 w2 w3 c.ce).tr⟩ ss)] ∧ bif !t then K (DV.tup [DV.agg mac0, I (1200)]) else whole (List.length w0) w0 ∧ whole (List.length w1) w1 ∧ whole (List.length w2) w2 ∧ whole (List.length w3) w3 ∧ K (DV.tup [DV.agg [D.s (1) (3) w0 [], D.s (1) (3) w1 [], D.s (1) (3) w2 [], D.s (1) (3) w3 [], vN (0), vN (0), vN (0), vN (0), vN c.ce, nilV, nilV], I (0)]) else False else False else False else False) ∧ (z = false → bif e1 != 0 then K (DV.tup [DV.agg mac0, I (1200)]) else bif decide (0 + List.length w0 ≤ List.length w0) then bif decide (0 + List.length w1 ≤ List.length w1) then bif decide (0 + List.length w2 ≤ List.length w2) then bif decide (0 + List.length w3 ≤ List.length w3) then bif decide (0 + n ≤ List.length R) then Zpy [DV.agg [D.s (0) (3) (cut w0 (0) (List.length w0)) (cut w0 (0 + List.length w0) (List.length w0 - List.length w0)), D.s (0) (3) (cut w1 (0) (List.length w1)) (cut w1 (0 + List.length w1) (List.length w1 - List.length w1)), D.s (0) (3) (cut w2 (0) (List.length w2)) (cut w2 (0 + List.length w2) (List.length w2 - List.length w2)), D.s (0) (3) (cut w3 (0) (List.length w3)) (cut w3 (0 + List.length w3) (List.length w3 - List.length w3)), vN (0), vN (0), vN (0), vN (0), vN c.ce, D.s (0) (17) (cut R (0) n) (cut R (0 + n) (n - n)), D.s (0) (4) [] []]] [DV.agg (macL (0) ⟨(mhW w0 w1 w2 w3 c.ce).w0, (mhW w0 w1 w2 w3 c.ce).w1, (mhW w0 w1 w2 w3 c.ce).w2, (mhW w0 w1 w2 w3 c.ce).w3, (mhW w0 w1 w2 w3 c.ce).c0, (mhW w0 w1 w2 w3 c.ce).c1, (mhW w0 w1 w2 w3 c.ce).c2, (mhW w0 w1 w2 w3 c.ce).c3, (mhW w0 w1 w2 w3 c.ce).ce, (mhW w0 w1 w2 w3 c.ce).tr⟩ ss)] ∧ bif !t then K (DV.tup [DV.agg mac0, I (1200)]) else whole (List.length w0) w0 ∧ whole (List.length w1) w1 ∧ whole (List.length w2) w2 ∧ whole (List.length w3) w3 ∧ whole n R ∧ K (DV.tup [DV.agg [D.s (1) (3) w0 [], D.s (1) (3) w1 [], D.s (1) (3) w2 [], D.s (1) (3) w3 [], vN (0), vN (0), vN (0), vN (0), vN c.ce, D.s (1) (17) R [], nilV], I (0)]) else False else False else False else False else False)) := by kernel_rfl
instance : Inhabited StD := ⟨⟨0, 0, 0, []⟩⟩
theorem ZfV {s : StD} (h : okSt s = true) : okZ 4 s.pg = true ∧ s.pg.length ≤ 4398046510977 := by
  unfold okSt at h; simpa [Bool.and_eq_true] using h
theorem Zot {s : StD} (h : okSt s = true) : smS (newS s) = true := by
  obtain ⟨a, b⟩ := ZfV h
  have : smR 4398046510977 s.pg = true := Zef a b (Nat.le_refl _)
  unfold smS
  show (smR 4398046510977 s.pg && _) = true
  rw [this]; rfl
theorem ZqT {s : SesD} (h : smS s = true) (e : Int) : (DV.tup [.agg (sesL 1 s), I e]).pureOwn = true := by
  have := Zfj h
  simp only [DV.pureOwn, DV.pureOwn.go, this]
  rfl
theorem ZtA {f : FuncId} (hs : Zac Tryz.prog f ZmR) : Zac Tryz.prog f Zd9 := fun ds Q h => by
  unfold Zd9 at h; split at h
  · rename_i cs
    obtain ⟨h0, h⟩ := Zaf h
    obtain ⟨a, b, c, d, h, r⟩ := ZfS h
    obtain ⟨h1, h⟩ := Zaf h
    have hal : All2 AL [.agg cs] [.agg [vN a, vN b, vN c, .s 0 4 d []]] := .cons (.agg r h0 rfl) .nil
    have h1' : (okZ 4 d && decide (d.length ≤ 4398046510977)) = true := h1
    cases hm : ZcZ ⟨a, b, c, d⟩ with
    | true =>
      rw [hm] at h
      have hm' : smay a b c (toZ d) = true := hm
      obtain ⟨hg, r0, hc, hp, hf, rfl⟩ := hs [.agg [vN a, vN b, vN c, .s 0 4 d []]] (fun r => r = .tup [Zla a b c (.s 1 4 d []), I 0]) (by
        show cond _ (cond _ _ _) _
        rw [h1', hm']; rfl)
      exact ⟨hg, _, (hc.args hal).res (.tup (.cons (.aggO (.cons (.refl _) (.cons (.refl _) (.cons (.refl _) (.cons (.refl _) (.cons (.refl _) (.cons (.refl _) (.cons (.refl _) (.cons (.refl _) (.cons (.refl _) (.cons (.refl _) (.cons (.nil 3) (.cons (.nil 3) (.cons (.refl _) (.cons (.refl _) (.cons (.refl _) (.cons (.refl _) (.cons (.refl _) .nil)))))))))))))))))) (.cons (.refl _) .nil))), .inl (ZqT (Zot h1) 0), rfl, h⟩
    | false =>
      rw [hm] at h
      have hm' : smay a b c (toZ d) = false := hm
      obtain ⟨hg, r0, hc, hp, hf, rfl⟩ := hs [.agg [vN a, vN b, vN c, .s 0 4 d []]] (fun r => r = .tup [Zla 0 0 0 nilD, I 1100]) (by
        show cond _ (cond _ _ _) _
        rw [h1', hm']; rfl)
      exact ⟨hg, _, (hc.args hal).res (.tup (.cons (.aggO (.cons (.refl _) (.cons (.refl _) (.cons (.refl _) (.cons (.nil 4) (.cons (.refl _) (.cons (.refl _) (.cons (.refl _) (.cons (.refl _) (.cons (.refl _) (.cons (.refl _) (.cons (.nil 3) (.cons (.nil 3) (.cons (.refl _) (.cons (.refl _) (.cons (.refl _) (.cons (.refl _) (.cons (.refl _) .nil)))))))))))))))))) (.cons (.refl _) .nil))), .inl rfl, rfl, h⟩
  · exact h.elim
theorem oSNw : Zac Tryz.prog 49 Zd9 := ZtA Zsr
def aOK (c : ScrD) : Bool := amay (toZ (mW c.v0)) (toZ (mW c.v1)) (toZ (mW c.v2)) (toZ (mW c.v3))
def wN (c : ScrD) (v : List (List D)) : List (List D) := bif aOK c then mW v else []
def eA (c : ScrD) : Int := bif aOK c then 0 else 400
theorem oAr {f : FuncId} (hs : Zac Tryz.prog f sNew) (c : ScrD) (hv : okV4 c.v0 c.v1 c.v2 c.v3 = true) : Zac Tryz.prog f (sAtD [.agg [.s 0 1 c.v0 [], .s 0 1 c.v1 [], .s 0 1 c.v2 [], .s 0 1 c.v3 []]] (.tup [dO (wN c c.v0) (wN c c.v1) (wN c c.v2) (wN c c.v3), I (eA c)])) := fun ds Q q => by
  obtain ⟨rfl, q⟩ := q
  unfold wN eA at q
  cases ha : aOK c with
  | true =>
    rw [ha] at q
    have ha' : amay (toZ (mW c.v0)) (toZ (mW c.v1)) (toZ (mW c.v2)) (toZ (mW c.v3)) = true := ha
    exact hs _ Q (by
      show cond _ (cond _ _ _) _
      rw [hv, ha']; exact q)
  | false =>
    rw [ha] at q
    have ha' : amay (toZ (mW c.v0)) (toZ (mW c.v1)) (toZ (mW c.v2)) (toZ (mW c.v3)) = false := ha
    obtain ⟨hg, r0, hc, hp, hf, rfl⟩ := hs [.agg [.s 0 1 c.v0 [], .s 0 1 c.v1 [], .s 0 1 c.v2 [], .s 0 1 c.v3 []]] (fun r => r = .tup [dNil, I 400]) (by
      show cond _ (cond _ _ _) _
      rw [hv, ha']; rfl)
    exact ⟨hg, _, hc.res (.tup (.cons (.aggO (.cons (.nil 3) (.cons (.nil 3) (.cons (.nil 3) (.cons (.nil 3) .nil))))) (.cons (.refl _) .nil))), .inl rfl, rfl, q⟩
def stN (sts : List StD) (i : Nat) : StD := sts.getD i default
theorem ZoG {sts : List StD} {i t : Nat} (h : i < sts.length) : Zih (List.map (staL t) sts) i t (stN sts i) := by
  unfold Zih stN
  rw [List.getElem?_map, List.getD_eq_getElem?_getD, List.getElem?_eq_getElem h]; rfl
theorem ZhY {sts : List StD} {i : Nat} (h : i < sts.length) : stN sts i ∈ sts := by
  unfold stN
  rw [List.getD_eq_getElem?_getD, List.getElem?_eq_getElem h]
  exact List.getElem_mem h
def ZbB (sts : List StD) : List (List D) := sts.map fun s => sesL 1 (newS s)
theorem Zi8 (sts : List StD) : (ZbB sts).length = sts.length := List.length_map _
theorem Zhk {sts : List StD} {k : Nat} (h : k < sts.length) : ZbB (sts.take (k + 1)) = ZbB (sts.take k) ++ [sesL 1 (newS (stN sts k))] := by
  unfold ZbB
  rw [List.take_add_one, List.map_append]
  congr 1
  unfold stN
  rw [List.getD_eq_getElem?_getD, List.getElem?_eq_getElem h]
  rfl
theorem Zqi (bad : Nat → Bool) : ∀ n, (∃ j, firstAt bad n j) ∨ noneTo bad n
  | 0 => .inr fun i h => by omega
  | n + 1 => by
    rcases Zqi bad n with ⟨j, h1, h2, h3⟩ | h
    · exact .inl ⟨j, by omega, h2, h3⟩
    · cases hb : bad n with
      | true => exact .inl ⟨n, by omega, hb, fun i hi => h i hi⟩
      | false =>
        refine .inr fun i hi => ?_
        rcases Nat.lt_succ_iff_lt_or_eq.1 hi with q | rfl
        · exact h i q
        · exact hb
theorem Zo1 {bad : Nat → Bool} {n i j : Nat} (h : firstAt bad n i) (h' : firstAt bad n j) : i = j := by
  obtain ⟨a1, a2, a3⟩ := h
  obtain ⟨b1, b2, b3⟩ := h'
  rcases Nat.lt_trichotomy i j with q | q | q
  · rw [b3 i q] at a2; cases a2
  · exact q
  · rw [a3 j q] at b2; cases b2
def badS (sts : List StD) (i : Nat) : Bool := !ZcZ (stN sts i)
theorem Zo3 {sts : List StD} (h : noneTo (badS sts) sts.length) : sts.all ZcZ = true := by
  rw [List.all_eq_true]
  intro s hs
  obtain ⟨i, hi, rfl⟩ := List.mem_iff_getElem.1 hs
  have := h i hi
  unfold badS stN at this
  rw [List.getD_eq_getElem?_getD, List.getElem?_eq_getElem hi] at this
  simpa using this
theorem Zou {sts : List StD} {j : Nat} (h : firstAt (badS sts) sts.length j) : sts.all ZcZ = false := by
  obtain ⟨h1, h2, _⟩ := h
  rw [List.all_eq_false]
  refine ⟨stN sts j, ZhY h1, ?_⟩
  unfold badS at h2
  simpa using h2
def St1 (c : ScrD) (w0 w1 w2 w3 : List (List D)) (e : Int) : Nat → X
  | 0 => Zh2 c w0 w1 w2 w3 0 e 0
  | k + 1 => stNw c w0 w1 w2 w3 0 e ((k + 1 : Nat) : Int) (k + 1) (k + 1) (ZbB (c.sts.take (k + 1)))
def VE1 (c : ScrD) (w0 w1 w2 w3 : List (List D)) : Nat → Vw
  | 0 => vNwz c w0 w1 w2 w3
  | k + 1 => vNwe c w0 w1 w2 w3 (k + 1) (k + 1) (ZbB (c.sts.take (k + 1)))
theorem Zqv (c : ScrD) (w0 w1 w2 w3 : List (List D)) : ∀ k, VwOK (VE1 c w0 w1 w2 w3 k)
  | 0 => Zks c w0 w1 w2 w3
  | k + 1 => Zrt c w0 w1 w2 w3 _ _ _
theorem kNg {c : ScrD} {w0 w1 w2 w3 : List (List D)} (hs : c.sts.all okSt = true) (hb : c.sts.length * 184 ≤ 140737488351232) {z : Bool} {r1 e1 i1 : Int} {n : Nat} {R : List (List D)}
    (ho : ∀ j (e : Int), (firstAt (badS c.sts) c.sts.length j ∧ e = 1100) ∨ (j = c.sts.length ∧ noneTo (badS c.sts) c.sts.length ∧ e = 0) → r1 = 0 ∧ e1 = e ∧ i1 = j ∧ n = j ∧ z = Nat.beq j 0 ∧ R = ZbB (c.sts.take j))
    (Q : Exit → X → Prop) (x : X) (hq : fNw c w0 w1 w2 w3 0 z r1 e1 i1 n R Q x) : XWP Tryz.prog (.loop (Zak Tryz.f20 0)) Q x := by
  unfold fNw at hq
  obtain ⟨W0, hq⟩ := ZhB hq
  obtain ⟨W1, hq⟩ := ZhB hq
  obtain ⟨W2, hq⟩ := ZhB hq
  obtain ⟨W3, rfl, rfl, rfl, rfl, hx, hq1, hq2⟩ := ZhB hq
  have q1 := List.all_eq_true.1 hs
  have hH : Zao Tryz.prog (hkC [(49, Zd9)] [] [] []) := Zov (.cons oSNw .nil) .nil .nil
  have fin : ∀ j (e : Int), (firstAt (badS c.sts) c.sts.length j ∧ e = 1100) ∨ (j = c.sts.length ∧ noneTo (badS c.sts) c.sts.length ∧ e = 0) → Q (.exit 0) (St1 c W0 W1 W2 W3 e j) := fun j e h => by
    obtain ⟨rfl, rfl, rfl, rfl, rfl, rfl⟩ := ho j e h
    cases n with
    | zero => exact hq1 rfl
    | succ k => exact hq2 rfl
  refine Zjw (sw := []) mixed (St1 c W0 W1 W2 W3 0) (St1 c W0 W1 W2 W3 1100) c.sts.length (badS c.sts) (.exit 0) (.exit 0) (fun i hi _ => ⟨_, vNw c W0 W1 W2 W3, fun _ => VE1 c W0 W1 W2 W3 i, hH, Zae rfl, Zlq _ _ _ _ _, fun _ => Zqv _ _ _ _ _ i, fun N E p q => ?_⟩) (fun _ => ⟨_, vNw c W0 W1 W2 W3, fun _ => VE1 c W0 W1 W2 W3 c.sts.length, hH, Zae rfl, Zlq _ _ _ _ _, fun _ => Zqv _ _ _ _ _ _, fun N E q => ?_⟩) Q x ⟨hx, fun i hf => fin i 1100 (.inl ⟨hf, rfl⟩), fun hn => fin _ 0 (.inr ⟨rfl, hn, rfl⟩)⟩
  · have hat : Zih (List.map (staL 0) c.sts) i 0 (stN c.sts i) := ZoG hi
    have hok : okSt (stN c.sts i) = true := q1 _ (ZhY hi)
    have w1' := Zb4 (ZqP (ZaD (Zot hok)).1)
    have e0 : whole 0 [] := ⟨rfl, rfl⟩
    unfold badS at p q
    cases i with
    | zero =>
      show Zbb Tryz.prog _ _ _ _ _ _ _ (fun _ => vNwz c W0 W1 W2 W3) _ _ (Zh2 c W0 W1 W2 W3 0 0 0)
      rw [rNw0]
      have c0 : decide (0 < @Nat.cast Int _ (List.length (List.map (staL 0) c.sts))) = true := by rw [List.length_map]; simp; omega
      simp only [c0, cond_true, Bool.and_self]
      refine ⟨_, hat, ?_⟩
      rw [hok]
      cases hm : ZcZ (stN c.sts 0) with
      | true =>
        rw [hm] at q
        have q := q rfl
        have q3 : N (stNw c W0 W1 W2 W3 0 0 ((0 + 1 : Nat) : Int) (0 + 1) (0 + 1) (ZbB (c.sts.take (0 + 1)))) := q
        rw [Zhk hi] at q3
        simp only [cond_true, List.append_nil]
        refine ⟨ZcB.2 ⟨rfl, by decide⟩, w1', ZcB.2 ⟨rfl, by decide⟩, e0, ZcB.2 ⟨rfl, by decide⟩, e0, trivial, ?_⟩
        exact q3
      | false =>
        rw [hm] at p
        have p := p rfl
        simp only [cond_true, cond_false]
        exact ⟨trivial, p⟩
    | succ k =>
      show Zbb Tryz.prog _ _ _ _ _ _ _ (fun _ => vNwe c W0 W1 W2 W3 (k + 1) (k + 1) (ZbB (c.sts.take (k + 1)))) _ _ (stNw c W0 W1 W2 W3 0 0 ((k + 1 : Nat) : Int) (k + 1) (k + 1) (ZbB (c.sts.take (k + 1))))
      rw [rNw1]
      have wi : IntKind.wrap IntKind.i64 (((k + 1 : Nat) : Int) + 1) = ((k + 1 + 1 : Nat) : Int) := Zai (n := 1) (by omega)
      have c0 : decide (((k + 1 : Nat) : Int) < @Nat.cast Int _ (List.length (List.map (staL 0) c.sts))) = true := by rw [List.length_map]; simp; omega
      have c1 : decide (0 ≤ ((k + 1 : Nat) : Int)) = true := by simp; omega
      have el : (ZbB (c.sts.take (k + 1))).length = k + 1 := by rw [Zi8, List.length_take]; omega
      have c2 : (decide ((k + 1 + 1) * 184 ≤ 140737488355328) && decide (k + 1 + 1 ≤ 9223372036854775807)) = true := by simp; omega
      simp only [c0, c1, cond_true, Bool.and_self]
      refine ⟨_, hat, ?_⟩
      rw [hok]
      cases hm : ZcZ (stN c.sts (k + 1)) with
      | true =>
        rw [hm] at q
        have q := q rfl
        simp only [cond_true, List.append_nil]
        refine ⟨el.symm, ?_⟩
        rw [c2]
        have hl : k + 1 < (ZbB (c.sts.take (k + 1)) ++ [[]]).length := by rw [List.length_append, el]; simp
        refine ⟨ZcB.2 ⟨rfl, hl⟩, w1', ZcB.2 ⟨rfl, hl⟩, e0, ZcB.2 ⟨rfl, hl⟩, e0, trivial, ?_⟩
        have es : List.set (ZbB (c.sts.take (k + 1)) ++ [[]]) (k + 1) (sesL 1 (newS (stN c.sts (k + 1)))) = ZbB (c.sts.take (k + 1 + 1)) := by
          rw [Zhk hi, List.set_append_right _ _ (by omega), el, Nat.sub_self]; rfl
        show N (stNw c W0 W1 W2 W3 0 0 (IntKind.wrap IntKind.i64 (((k + 1 : Nat) : Int) + 1)) (k + 1 + 1) (k + 1 + 1) (List.set (ZbB (c.sts.take (k + 1)) ++ [[]]) (k + 1) (sesL 1 (newS (stN c.sts (k + 1))))))
        rw [wi, es]
        exact q
      | false =>
        rw [hm] at p
        have p := p rfl
        simp only [cond_true, cond_false]
        exact ⟨trivial, p⟩
  · cases hn : c.sts.length with
    | zero =>
      rw [hn] at q
      show Zbb Tryz.prog _ _ _ _ _ _ _ (fun _ => vNwz c W0 W1 W2 W3) _ _ (Zh2 c W0 W1 W2 W3 0 0 0)
      rw [rNw0]
      have c0 : decide (0 < @Nat.cast Int _ (List.length (List.map (staL 0) c.sts))) = false := by rw [List.length_map, hn]; rfl
      simp only [c0, cond_false, true_and]
      exact q
    | succ k =>
      rw [hn] at q
      show Zbb Tryz.prog _ _ _ _ _ _ _ (fun _ => vNwe c W0 W1 W2 W3 (k + 1) (k + 1) (ZbB (c.sts.take (k + 1)))) _ _ (stNw c W0 W1 W2 W3 0 0 ((k + 1 : Nat) : Int) (k + 1) (k + 1) (ZbB (c.sts.take (k + 1))))
      rw [rNw1]
      have c0 : decide (((k + 1 : Nat) : Int) < @Nat.cast Int _ (List.length (List.map (staL 0) c.sts))) = false := by rw [List.length_map, hn]; simp
      simp only [c0, cond_false, true_and]
      exact q
theorem kNb {c : ScrD} {w0 w1 w2 w3 : List (List D)} (hs : c.sts.all okSt = true) {e1 : Int} {n : Nat} {R : List (List D)} (he : e1 = (match c.sts with | [] => 400 | s :: _ => bif ZcZ s then 400 else 1100))
    (Q : Exit → X → Prop) (x : X) (hq : fNw c w0 w1 w2 w3 400 true 0 e1 0 n R Q x) : XWP Tryz.prog (.loop (Zak Tryz.f20 0)) Q x := by
  unfold fNw at hq
  obtain ⟨W0, hq⟩ := ZhB hq
  obtain ⟨W1, hq⟩ := ZhB hq
  obtain ⟨W2, hq⟩ := ZhB hq
  obtain ⟨W3, rfl, rfl, rfl, rfl, hx, hq1, _⟩ := ZhB hq
  have hq1 := hq1 rfl
  have q1 := List.all_eq_true.1 hs
  have hH : Zao Tryz.prog (hkC [(49, Zd9)] [] [] []) := Zov (.cons oSNw .nil) .nil .nil
  have hz : ∀ (h : ∀ j, j < min c.sts.length 1 → true = false), c.sts = [] := fun h => by
    cases hc : c.sts with
    | nil => rfl
    | cons s l => exact Bool.noConfusion (h 0 (by rw [hc]; simp))
  refine Zjw (sw := []) mixed (fun _ => Zh2 c W0 W1 W2 W3 0 400 0) (fun _ => Zh2 c W0 W1 W2 W3 0 e1 0) (min c.sts.length 1) (fun _ => true) (.exit 0) (.exit 0) (fun i hi _ => ⟨_, vNw c W0 W1 W2 W3, fun _ => vNwz c W0 W1 W2 W3, hH, Zae rfl, Zlq _ _ _ _ _, fun _ => Zks _ _ _ _ _, fun N E p _ => ?_⟩) (fun h => ⟨_, vNw c W0 W1 W2 W3, fun _ => vNwz c W0 W1 W2 W3, hH, Zae rfl, Zlq _ _ _ _ _, fun _ => Zks _ _ _ _ _, fun N E q => ?_⟩) Q x ⟨hx, fun i hf => hq1, fun hn => ?_⟩
  · have hi : 0 < c.sts.length := by omega
    have hat : Zih (List.map (staL 0) c.sts) 0 0 (stN c.sts 0) := ZoG hi
    have hok : okSt (stN c.sts 0) = true := q1 _ (ZhY hi)
    have p := p rfl
    rw [rNwb]
    have c0 : decide (0 < @Nat.cast Int _ (List.length (List.map (staL 0) c.sts))) = true := by rw [List.length_map]; simp; omega
    simp only [c0, cond_true, Bool.and_self]
    refine ⟨_, hat, ?_⟩
    rw [hok]
    have e2 : e1 = bif ZcZ (stN c.sts 0) then 400 else 1100 := by
      rw [he]
      cases hc : c.sts with
      | nil => rw [hc] at hi; cases hi
      | cons s l => rfl
    rw [e2] at p
    cases hm : ZcZ (stN c.sts 0) with
    | true => rw [hm] at p; exact ⟨trivial, p⟩
    | false => rw [hm] at p; exact ⟨trivial, p⟩
  · rw [rNwb]
    have c0 : decide (0 < @Nat.cast Int _ (List.length (List.map (staL 0) c.sts))) = false := by rw [hz h]; rfl
    simp only [c0, cond_false, true_and]
    exact q
  · have hc := hz hn
    have e2 : e1 = 400 := by rw [he, hc]
    rw [e2] at hq1
    exact hq1
def newM (c : ScrD) : Mh := mhW (mW c.v0) (mW c.v1) (mW c.v2) (mW c.v3) c.ce
def Zhv (c : ScrD) : Bool := aOK c && (c.sts.all ZcZ && mmay (newM c) (c.sts.map newS))
theorem Zfq (sts : List StD) : ZbB sts = (sts.map newS).map (sesL 1) := by unfold ZbB; rw [List.map_map]; rfl
theorem wN_w (c : ScrD) (v : List (List D)) (hv : okZ 1 v = true) : whole (List.length (wN c v)) (wN c v) := by
  refine ⟨rfl, ?_⟩
  unfold wN
  cases aOK c with
  | true => exact ZaE (ZaR (ZcA hv))
  | false => rfl
theorem Zs9 (w0 w1 w2 w3 : List (List D)) (ce : Int) : AL (.tup [.agg [.s 1 3 w0 [], .s 1 3 w1 [], .s 1 3 w2 [], .s 1 3 w3 [], vN 0, vN 0, vN 0, vN 0, vN ce, nilV, nilV], I 0]) (macR (mhW w0 w1 w2 w3 ce) [] 0) :=
  .tup (.cons (.aggO (.cons (.refl _) (.cons (.refl _) (.cons (.refl _) (.cons (.refl _) (.cons (.refl _) (.cons (.refl _) (.cons (.refl _) (.cons (.refl _) (.cons (.refl _) (.cons (.nil 17) (.cons (.nil 4) .nil)))))))))))) (.cons (.refl _) .nil))
theorem Zq1 (w0 w1 w2 w3 : List (List D)) (ce : Int) (sts : List StD) : AL (.tup [.agg [.s 1 3 w0 [], .s 1 3 w1 [], .s 1 3 w2 [], .s 1 3 w3 [], vN 0, vN 0, vN 0, vN 0, vN ce, .s 1 17 (ZbB sts) [], nilV], I 0]) (macR (mhW w0 w1 w2 w3 ce) (sts.map newS) 0) := by
  rw [Zfq]
  exact .tup (.cons (.aggO (.cons (.refl _) (.cons (.refl _) (.cons (.refl _) (.cons (.refl _) (.cons (.refl _) (.cons (.refl _) (.cons (.refl _) (.cons (.refl _) (.cons (.refl _) (.cons (.refl _) (.cons (.nil 4) .nil)))))))))))) (.cons (.refl _) .nil))
theorem Ztc (w0 w1 w2 w3 : List (List D)) (ce : Int) (sts : List StD) : Zpy [.agg [.s 0 3 w0 [], .s 0 3 w1 [], .s 0 3 w2 [], .s 0 3 w3 [], vN 0, vN 0, vN 0, vN 0, vN ce, .s 0 17 (ZbB sts) [], .s 0 4 [] []]] [.agg (macL 0 (mhW w0 w1 w2 w3 ce) (sts.map newS))] := by
  rw [Zfq]
  exact .cons (.agg (.cons (.refl _) (.cons (.refl _) (.cons (.refl _) (.cons (.refl _) (.cons (.refl _) (.cons (.refl _) (.cons (.refl _) (.cons (.refl _) (.cons (.refl _) (.cons (.rows (ZnX _)) (.cons (.refl _) .nil))))))))))) rfl rfl) .nil
theorem ZkK (sts : List StD) : whole sts.length (ZbB sts) := by
  have := ZlB (sts.map newS)
  rw [Zfq]
  exact ⟨by simp, this⟩
theorem okN {c : ScrD} (hv : okV4 c.v0 c.v1 c.v2 c.v3 = true) (hs : c.sts.all okSt = true) : okM (newM c) (c.sts.map newS) = true := by
  obtain ⟨⟨a, _⟩, ⟨b, _⟩, ⟨d, _⟩, e, _⟩ := Zc5 hv
  have h1 : okA (mW c.v0) (mW c.v1) (mW c.v2) (mW c.v3) = true := by
    unfold okA
    rw [ZcA a, ZcA b, ZcA d, ZcA e]; rfl
  have h2 : okSS (c.sts.map newS) = true := by
    unfold okSS
    rw [List.all_map, List.all_eq_true]
    intro s h
    have := (ZfV (List.all_eq_true.1 hs s h)).1
    show (okZ 4 s.pg && _) = true
    rw [this]; rfl
  have e : okM (newM c) (c.sts.map newS) = (okA (mW c.v0) (mW c.v1) (mW c.v2) (mW c.v3) && (okZ 4 [] && okSS (c.sts.map newS))) := rfl
  rw [e, h1, h2]; rfl
theorem cNew (c : ScrD) (hv : okV4 c.v0 c.v1 c.v2 c.v3 = true) (hs : c.sts.all okSt = true) (hb : c.sts.length * 184 ≤ 140737488351232) : CT Tryz.prog 20 [.agg (scrL 0 c)] (bif Zhv c then macR (newM c) (c.sts.map newS) 0 else macE 1200) := by
  obtain ⟨⟨z0, _⟩, ⟨z1, _⟩, ⟨z2, _⟩, z3, _⟩ := Zc5 hv
  have k0 := wN_w c c.v0 z0
  have k1 := wN_w c c.v1 z1
  have k2 := wN_w c c.v2 z2
  have k3 := wN_w c c.v3 z3
  have hok := okN hv hs
  have hMay : Zac Tryz.prog 26 (sAtL [.agg (macL 0 (newM c) (c.sts.map newS))] (B (mmay (newM c) (c.sts.map newS)))) := oAtL Tryz.func26 (by kernel_rfl) rfl (Znp _ _ hok) rfl rfl
  have hz : Zac Tryz.prog 26 (sAtL [.agg (macL 0 (mhW (wN c c.v0) (wN c c.v1) (wN c c.v2) (wN c c.v3) c.ce) (c.sts.map newS))] (B (mmay (mhW (wN c c.v0) (wN c c.v1) (wN c c.v2) (wN c c.v3) c.ce) (c.sts.map newS)))) := by
    refine oAtL Tryz.func26 (by kernel_rfl) rfl (Znp _ _ ?_) rfl rfl
    unfold wN
    cases aOK c with
    | true => exact hok
    | false =>
      obtain ⟨_, _, q⟩ := ZbZ hok
      show (okA [] [] [] [] && (okZ 4 [] && okSS (c.sts.map newS))) = true
      rw [q]; rfl
  cases ha : aOK c with
  | false =>
    have er : Zhv c = false := by unfold Zhv; rw [ha]; rfl
    have e4 : eA c = 400 := by unfold eA; rw [ha]; rfl
    have hlp : ZeZ Tryz.prog Tryz.f20 [(4, fNw c (wN c c.v0) (wN c c.v1) (wN c c.v2) (wN c c.v3) (eA c) true 0 (match c.sts with | [] => 400 | s :: _ => bif ZcZ s then 400 else 1100) 0 0 [])] := Zh5 (i := 0) (fun j hj _ => by have : j < 1 := hj; omega) (fun Q x hq => by rw [e4] at hq; exact kNb hs rfl Q x hq)
    refine ZrL (.cons (oAr oNew c hv) (.cons oSNw (.cons hz .nil))) .nil .nil mixed hlp Tryz.func20 rfl rfl rfl ?_
    rw [eNw, er]
    have ne : ((match c.sts with | [] => (400 : Int) | s :: _ => bif ZcZ s then 400 else 1100) != 0) = true := by
      cases c.sts with
      | nil => rfl
      | cons s l => show ((bif ZcZ s then (400 : Int) else 1100) != 0) = true; cases ZcZ s <;> rfl
    refine ⟨⟨rfl, List.append_nil _, List.append_nil _, List.append_nil _, List.append_nil _, rfl, fun _ => ?_, fun h => by cases h⟩⟩
    rw [ne]
    exact Zjv 1200
  | true =>
    have e4 : eA c = 0 := by unfold eA; rw [ha]; rfl
    have wn : ∀ v, wN c v = mW v := fun v => by unfold wN; rw [ha]; rfl
    rcases Zqi (badS c.sts) c.sts.length with ⟨j, hj⟩ | hn
    · have er : Zhv c = false := by unfold Zhv; rw [Zou hj]; simp
      have hlp : ZeZ Tryz.prog Tryz.f20 [(4, fNw c (wN c c.v0) (wN c c.v1) (wN c c.v2) (wN c c.v3) (eA c) (Nat.beq j 0) 0 1100 j j (ZbB (c.sts.take j)))] := Zh5 (i := 0) (fun j hj _ => by have : j < 1 := hj; omega) (fun Q x hq => by
        rw [e4] at hq
        refine kNg hs hb (fun j' e h => ?_) Q x hq
        rcases h with ⟨h, rfl⟩ | ⟨_, h, _⟩
        · obtain rfl := Zo1 hj h
          exact ⟨rfl, rfl, rfl, rfl, rfl, rfl⟩
        · have := h j hj.1
          rw [hj.2.1] at this
          cases this)
      refine ZrL (.cons (oAr oNew c hv) (.cons oSNw (.cons hz .nil))) .nil .nil mixed hlp Tryz.func20 rfl rfl rfl ?_
      rw [eNw, er]
      exact ⟨⟨rfl, List.append_nil _, List.append_nil _, List.append_nil _, List.append_nil _, rfl, fun _ => Zjv 1200, fun _ => Zjv 1200⟩⟩
    · have hall := Zo3 hn
      have hlp : ZeZ Tryz.prog Tryz.f20 [(4, fNw c (wN c c.v0) (wN c c.v1) (wN c c.v2) (wN c c.v3) (eA c) (Nat.beq c.sts.length 0) 0 0 c.sts.length c.sts.length (ZbB c.sts))] := Zh5 (i := 0) (fun j hj _ => by have : j < 1 := hj; omega) (fun Q x hq => by
        rw [e4] at hq
        refine kNg hs hb (fun j' e h => ?_) Q x hq
        rcases h with ⟨h, rfl⟩ | ⟨rfl, _, rfl⟩
        · have := hn j' h.1
          rw [h.2.1] at this
          cases this
        · exact ⟨rfl, rfl, rfl, rfl, rfl, by rw [List.take_length]⟩)
      refine ZrL (.cons (oAr oNew c hv) (.cons oSNw (.cons hz .nil))) .nil .nil mixed hlp Tryz.func20 rfl rfl rfl ?_
      rw [eNw]
      rw [wn] at k0 k1 k2 k3
      rw [wn c.v0, wn c.v1, wn c.v2, wn c.v3]
      have er : Zhv c = mmay (newM c) (c.sts.map newS) := by unfold Zhv; rw [ha, hall]; rfl
      have em : mhW (mW c.v0) (mW c.v1) (mW c.v2) (mW c.v3) c.ce = newM c := rfl
      rw [er, em]
      have le : ZbB c.sts = ZbB c.sts := rfl
      refine ⟨⟨rfl, List.append_nil _, List.append_nil _, List.append_nil _, List.append_nil _, rfl, fun hz => ?_, fun hz => ?_⟩⟩
      · have hnil : c.sts = [] := List.length_eq_zero_iff.1 (Zaa hz)
        have a := Ztc (mW c.v0) (mW c.v1) (mW c.v2) (mW c.v3) c.ce c.sts
        rw [hnil] at a ⊢
        simp only [Nat.zero_add, Nat.le_refl, decide_true, cond_true, Nat.sub_self, Zsk, ZrY, List.map_nil]
        refine ⟨a, ?_⟩
        cases mmay (newM c) [] with
        | false => exact Zjv 1200
        | true => exact ⟨k0, k1, k2, k3, Zs9 _ _ _ _ _⟩
      · have a := Ztc (mW c.v0) (mW c.v1) (mW c.v2) (mW c.v3) c.ce c.sts
        have el := Zi8 c.sts
        have ec : cut (ZbB c.sts) 0 c.sts.length = ZbB c.sts := Zhu el
        have el2 : c.sts.length ≤ (ZbB c.sts).length := by rw [el]; exact Nat.le_refl _
        simp only [Nat.zero_add, Nat.le_refl, decide_true, cond_true, Nat.sub_self, Zsk, ZrY, ec, el2]
        refine ⟨a, ?_⟩
        cases mmay (newM c) (c.sts.map newS) with
        | false => exact Zjv 1200
        | true => exact ⟨k0, k1, k2, k3, ZkK _, Zq1 _ _ _ _ _ _⟩
end

section
open Go Go.Proofs
def stMW (c : ScrD) (h : Mh) (ss : List SesD) (g i : Int) : X := ⟨mkT 121 [(1, .c (.rp 2 0 7 0 0)), (2, ab false), (3, .c (.rp 4 0 11 0 0)), (5, ai g), (6, ai i)], [(2, .bx 0 7 ((scrL 0 c).map C.d)), (4, .bx 0 11 ((macL 0 h ss).map C.d))], [], []⟩
def ZbF (c : ScrD) (h : Mh) (ss : List SesD) (g : Int) : Vw := fun y K => wI y 6 fun i => K (stMW c h ss g i)
theorem ZbP (c : ScrD) (h : Mh) (ss : List SesD) (g : Int) : VwOK (ZbF c h ss g) := fun y K q => by
  unfold ZbF at q
  obtain ⟨i, q⟩ := Zbt q
  exact ⟨_, q⟩
def stMS (c : ScrD) (h : Mh) (ss : List SesD) (i : Int) : X := ⟨mkT 121 [(1, .c (.rp 2 0 7 0 0)), (2, ab false), (3, .c (.rp 4 0 11 0 0)), (7, ai i)], [(2, .bx 0 7 ((scrL 0 c).map C.d)), (4, .bx 0 11 ((macL 0 h ss).map C.d))], [], []⟩
def Zg0 (c : ScrD) (h : Mh) (ss : List SesD) : Vw := fun y K => wI y 7 fun i => K (stMS c h ss i)
theorem Ziz (c : ScrD) (h : Mh) (ss : List SesD) : VwOK (Zg0 c h ss) := fun y K q => by
  unfold Zg0 at q
  obtain ⟨i, q⟩ := Zbt q
  exact ⟨_, q⟩
theorem rMW0 (c : ScrD) (h : Mh) (ss : List SesD) (i : Int) (N : X → Prop) (E : Exit → X → Prop) : (Zbb Tryz.prog (hkF [] [] []) Tryz.f8 1 [] [1, 2, 3, 5, 6] [2, 4] (ZbF c h ss 0) (fun _ => ZbF c h ss 0) N E (stMW c h ss 0 i)) = (bif decide (i < @Nat.cast Int _ (List.length h.w0)) then bif decide (0 ≤ i) && decide (i < @Nat.cast Int _ (List.length h.w0)) then bif isJ [IntKind.i64, IntKind.i64, IntKind.i64] (List.drop (0) (List.getD h.w0 (Int.toNat i) [])) then bif decide (0 ≤ i) && decide (i < @Nat.cast Int _ (List.length c.v0)) then bif isJ [IntKind.i64] (List.drop (0) (List.getD c.v0 (Int.toNat i) [])) then bif !eqI [hdJ (List.drop (0) (List.getD h.w0 (Int.toNat i) [])), hdJ (List.tail (List.drop (0) (List.getD h.w0 (Int.toNat i) []))), hdJ (List.tail (List.tail (List.drop (0) (List.getD h.w0 (Int.toNat i) []))))] [hdJ (List.drop (0) (List.getD c.v0 (Int.toNat i) [])), 0, 0] then stMW c h ss (0) i = stMW c h ss (0) i ∧ E Exit.ret (stMW c h ss (0) i) else stMW c h ss (0) (IntKind.wrap IntKind.i64 (i + 1)) = stMW c h ss (0) (IntKind.wrap IntKind.i64 (i + 1)) ∧ N (stMW c h ss (0) (IntKind.wrap IntKind.i64 (i + 1))) else False else False else False else False else stMW c h ss (0) i = stMW c h ss (0) i ∧ E (Exit.exit (2)) (stMW c h ss (0) i)) := by kernel_rfl
theorem rMW1 (c : ScrD) (h : Mh) (ss : List SesD) (i : Int) (N : X → Prop) (E : Exit → X → Prop) : (Zbb Tryz.prog (hkF [] [] []) Tryz.f8 1 [] [1, 2, 3, 5, 6] [2, 4] (ZbF c h ss 1) (fun _ => ZbF c h ss 1) N E (stMW c h ss 1 i)) = (bif decide (i < @Nat.cast Int _ (List.length h.w1)) then bif decide (0 ≤ i) && decide (i < @Nat.cast Int _ (List.length h.w1)) then bif isJ [IntKind.i64, IntKind.i64, IntKind.i64] (List.drop (0) (List.getD h.w1 (Int.toNat i) [])) then bif decide (0 ≤ i) && decide (i < @Nat.cast Int _ (List.length c.v1)) then bif isJ [IntKind.i64] (List.drop (0) (List.getD c.v1 (Int.toNat i) [])) then bif !eqI [hdJ (List.drop (0) (List.getD h.w1 (Int.toNat i) [])), hdJ (List.tail (List.drop (0) (List.getD h.w1 (Int.toNat i) []))), hdJ (List.tail (List.tail (List.drop (0) (List.getD h.w1 (Int.toNat i) []))))] [hdJ (List.drop (0) (List.getD c.v1 (Int.toNat i) [])), 0, 0] then stMW c h ss (1) i = stMW c h ss (1) i ∧ E Exit.ret (stMW c h ss (1) i) else stMW c h ss (1) (IntKind.wrap IntKind.i64 (i + 1)) = stMW c h ss (1) (IntKind.wrap IntKind.i64 (i + 1)) ∧ N (stMW c h ss (1) (IntKind.wrap IntKind.i64 (i + 1))) else False else False else False else False else stMW c h ss (1) i = stMW c h ss (1) i ∧ E (Exit.exit (2)) (stMW c h ss (1) i)) := by kernel_rfl
theorem rMW2 (c : ScrD) (h : Mh) (ss : List SesD) (i : Int) (N : X → Prop) (E : Exit → X → Prop) : (Zbb Tryz.prog (hkF [] [] []) Tryz.f8 1 [] [1, 2, 3, 5, 6] [2, 4] (ZbF c h ss 2) (fun _ => ZbF c h ss 2) N E (stMW c h ss 2 i)) = (bif decide (i < @Nat.cast Int _ (List.length h.w2)) then bif decide (0 ≤ i) && decide (i < @Nat.cast Int _ (List.length h.w2)) then bif isJ [IntKind.i64, IntKind.i64, IntKind.i64] (List.drop (0) (List.getD h.w2 (Int.toNat i) [])) then bif decide (0 ≤ i) && decide (i < @Nat.cast Int _ (List.length c.v2)) then bif isJ [IntKind.i64] (List.drop (0) (List.getD c.v2 (Int.toNat i) [])) then bif !eqI [hdJ (List.drop (0) (List.getD h.w2 (Int.toNat i) [])), hdJ (List.tail (List.drop (0) (List.getD h.w2 (Int.toNat i) []))), hdJ (List.tail (List.tail (List.drop (0) (List.getD h.w2 (Int.toNat i) []))))] [hdJ (List.drop (0) (List.getD c.v2 (Int.toNat i) [])), 0, 0] then stMW c h ss (2) i = stMW c h ss (2) i ∧ E Exit.ret (stMW c h ss (2) i) else stMW c h ss (2) (IntKind.wrap IntKind.i64 (i + 1)) = stMW c h ss (2) (IntKind.wrap IntKind.i64 (i + 1)) ∧ N (stMW c h ss (2) (IntKind.wrap IntKind.i64 (i + 1))) else False else False else False else False else stMW c h ss (2) i = stMW c h ss (2) i ∧ E (Exit.exit (2)) (stMW c h ss (2) i)) := by kernel_rfl
theorem rMW3 (c : ScrD) (h : Mh) (ss : List SesD) (i : Int) (N : X → Prop) (E : Exit → X → Prop) : (Zbb Tryz.prog (hkF [] [] []) Tryz.f8 1 [] [1, 2, 3, 5, 6] [2, 4] (ZbF c h ss 3) (fun _ => ZbF c h ss 3) N E (stMW c h ss 3 i)) = (bif decide (i < @Nat.cast Int _ (List.length h.w3)) then bif decide (0 ≤ i) && decide (i < @Nat.cast Int _ (List.length h.w3)) then bif isJ [IntKind.i64, IntKind.i64, IntKind.i64] (List.drop (0) (List.getD h.w3 (Int.toNat i) [])) then bif decide (0 ≤ i) && decide (i < @Nat.cast Int _ (List.length c.v3)) then bif isJ [IntKind.i64] (List.drop (0) (List.getD c.v3 (Int.toNat i) [])) then bif !eqI [hdJ (List.drop (0) (List.getD h.w3 (Int.toNat i) [])), hdJ (List.tail (List.drop (0) (List.getD h.w3 (Int.toNat i) []))), hdJ (List.tail (List.tail (List.drop (0) (List.getD h.w3 (Int.toNat i) []))))] [hdJ (List.drop (0) (List.getD c.v3 (Int.toNat i) [])), 0, 0] then stMW c h ss (3) i = stMW c h ss (3) i ∧ E Exit.ret (stMW c h ss (3) i) else stMW c h ss (3) (IntKind.wrap IntKind.i64 (i + 1)) = stMW c h ss (3) (IntKind.wrap IntKind.i64 (i + 1)) ∧ N (stMW c h ss (3) (IntKind.wrap IntKind.i64 (i + 1))) else False else False else False else False else stMW c h ss (3) i = stMW c h ss (3) i ∧ E (Exit.exit (2)) (stMW c h ss (3) i)) := by kernel_rfl
theorem rMS (c : ScrD) (h : Mh) (ss : List SesD) (i : Int) (N : X → Prop) (E : Exit → X → Prop) : (Zbb Tryz.prog (hkF [(32, sSS)] [] []) Tryz.f8 2 [] [1, 2, 3, 7] [2, 4] (Zg0 c h ss) (fun _ => Zg0 c h ss) N E (stMS c h ss i)) = (bif decide (i < @Nat.cast Int _ (List.length (List.map (staL (0)) c.sts))) then bif decide (0 ≤ i) && decide (i < @Nat.cast Int _ (List.length (List.map (staL (0)) c.sts))) then ∃ s, Zih (List.map (staL (0)) c.sts) (Int.toNat i) (0) s ∧ bif decide (0 ≤ i) && decide (i < @Nat.cast Int _ (List.length (List.map (sesL (0)) ss))) then ∃ s_1, ZgC (List.map (sesL (0)) ss) (Int.toNat i) (0) s_1 ∧ bif ZaF s_1 && ZaF (newS s) then bif !Zi7 s_1 (newS s) then stMS c h ss i = stMS c h ss i ∧ E Exit.ret (stMS c h ss i) else stMS c h ss (IntKind.wrap IntKind.i64 (i + 1)) = stMS c h ss (IntKind.wrap IntKind.i64 (i + 1)) ∧ N (stMS c h ss (IntKind.wrap IntKind.i64 (i + 1))) else False else False else False else stMS c h ss i = stMS c h ss i ∧ E (Exit.exit (4)) (stMS c h ss i)) := by kernel_rfl
def lenW (h : Mh) (g : Int) : Int := bif g == 0 then (h.w0.length : Int) else bif g == 1 then (h.w1.length : Int) else bif g == 2 then (h.w2.length : Int) else (h.w3.length : Int)
def fMW (c : ScrD) (h : Mh) (ss : List SesD) : LSum := fun Q x => wI x 5 fun g => lab g = true ∧ x.arr [1, 2, 3, 5, 6] [2, 4] = stMW c h ss g 0 ∧ Q (.exit 2) (stMW c h ss g (lenW h g))
def fMS (c : ScrD) (h : Mh) (ss : List SesD) : LSum := fun Q x => x.arr [1, 2, 3, 7] [2, 4] = stMS c h ss 0 ∧ Q (.exit 4) (stMS c h ss c.sts.length)
theorem eMN0 (c : ScrD) (K : DV → Prop) : (askW Tryz.prog (hkF [(30, sAtD [] (B true)), (20, sAtD [.agg (scrL 0 c)] (.tup [.agg (macL 0 h0 []), I 1200])), (25, sI), (24, ZsM)] [] []) Tryz.f8 [.agg (scrL 0 c)] K) = (([] : List DV) = [] ∧ [DV.agg (scrL (0) c)] = [DV.agg (scrL (0) c)] ∧ ZoQ [DV.agg (Zgx (0) ⟨[], [], [], [], (0), (0), (0), (0), (0), []⟩ []), DV.agg (Zgx (0) ⟨[], [], [], [], (0), (0), (0), (0), (0), []⟩ [])] ∧ K (B true)) := by kernel_rfl
theorem eMN1 (c : ScrD) (h : Mh) (ss : List SesD) (K : DV → Prop) : (askW Tryz.prog (hkFL [(30, sAtD [] (B true)), (20, sAtD [.agg (scrL 0 c)] (.tup [.agg (macL 0 h ss), I 0])), (25, sI), (26, sAtD [.agg (macL 0 h ss)] (B true))] [] [] [(14, fMW c h ss), (19, fMS c h ss)]) Tryz.f8 [.agg (scrL 0 c)] K) = (([] : List DV) = [] ∧ [DV.agg (scrL (0) c)] = [DV.agg (scrL (0) c)] ∧ bif !eqI [h.c0, h.c1, h.c2, h.c3] [0, 0, 0, 0] then K (B false) else bif h.ce != c.ce then K (B false) else bif @Nat.cast Int _ (List.length h.tr) != 0 then K (B false) else bif @Nat.cast Int _ (List.length (List.map (sesL (0)) ss)) != @Nat.cast Int _ (List.length (List.map (staL (0)) c.sts)) then K (B false) else [DV.agg (macL (0) h ss)] = [DV.agg (macL (0) h ss)] ∧ bif @Nat.cast Int _ (List.length h.w0) != @Nat.cast Int _ (List.length c.v0) then K (B false) else true = true ∧ stMW c h ss (0) (0) = stMW c h ss (0) (0) ∧ bif @Nat.cast Int _ (List.length h.w1) != @Nat.cast Int _ (List.length c.v1) then K (B false) else true = true ∧ stMW c h ss (1) (0) = stMW c h ss (1) (0) ∧ bif @Nat.cast Int _ (List.length h.w2) != @Nat.cast Int _ (List.length c.v2) then K (B false) else true = true ∧ stMW c h ss (2) (0) = stMW c h ss (2) (0) ∧ bif @Nat.cast Int _ (List.length h.w3) != @Nat.cast Int _ (List.length c.v3) then K (B false) else true = true ∧ stMW c h ss (3) (0) = stMW c h ss (3) (0) ∧ stMS c h ss (0) = stMS c h ss (0) ∧ K (B true)) := by kernel_rfl
theorem oneZ {R : List (List D)} (h : okZ 1 R = true) {i : Nat} (hi : i < R.length) : ∃ x, List.getD R i [] = [vI x] ∧ List.getD (mW R) i [] = [vI x, vI 0, vI 0] := by
  obtain ⟨e, w, _⟩ := Zah h
  have hl : i < (toZ R).length := by rw [Zat]; exact hi
  have h1 := w _ (List.getElem_mem hl)
  have hg : (toZ R).getD i [] = (toZ R)[i] := by rw [List.getD_eq_getElem?_getD, List.getElem?_eq_getElem hl]; rfl
  obtain ⟨x, hx⟩ : ∃ x, (toZ R)[i] = [x] := by
    match (toZ R)[i], h1 with
    | [x], _ => exact ⟨x, rfl⟩
  refine ⟨x, ?_, ?_⟩
  · rw [e, ZhR, hg, hx]; rfl
  · unfold mW
    rw [ZhR]
    have : (mL (toZ R)).getD i [] = [x, 0, 0] := by
      unfold mL
      rw [List.getD_eq_getElem?_getD, List.getElem?_map, List.getElem?_eq_getElem hl, hx]; rfl
    rw [this]; rfl
theorem kMW {c : ScrD} {ss : List SesD} (hv : okV4 c.v0 c.v1 c.v2 c.v3 = true) (Q : Exit → X → Prop) (x : X) (hq : fMW c (newM c) ss Q x) : XWP Tryz.prog (.loop (Zak Tryz.f8 1)) Q x := by
  unfold fMW at hq
  obtain ⟨g, hg, hx, hq⟩ := Zbt hq
  obtain ⟨⟨z0, l0⟩, ⟨z1, l1⟩, ⟨z2, l2⟩, z3, l3⟩ := Zc5 hv
  have hH : Zao Tryz.prog (hkF [] [] []) := Zfr .nil .nil .nil
  rcases Zi9 hg with rfl | rfl | rfl | rfl
  · have hq : Q (.exit 2) (stMW c (newM c) ss 0 (c.v0.length : Nat)) := by
      have e : lenW (newM c) 0 = ((mW c.v0).length : Nat) := rfl
      rw [e, Zbe] at hq
      exact hq
    refine Zbj (sw := []) (V := ZbF c (newM c) ss 0) (VE := fun _ => ZbF c (newM c) ss 0) mixed (ZbP _ _ _ _) (fun _ => ZbP _ _ _ _) (fun i => stMW c (newM c) ss 0 i) (fun i => stMW c (newM c) ss 0 i) c.v0.length (fun _ => false) .ret (.exit 2) (fun i hi => ⟨_, hH, Zae rfl, fun N E _ q => ?_⟩) ⟨_, hH, Zae rfl, fun N E q => ?_⟩ Q x ⟨hx, fun i hf => by have := hf.2.1; simp at this, fun _ => hq⟩
    · have q := q rfl
      rw [rMW0]
      obtain ⟨y, y1, y2⟩ := oneZ z0 hi
      have ew : (newM c).w0 = mW c.v0 := rfl
      have wi : IntKind.wrap IntKind.i64 ((i : Int) + 1) = ((i + 1 : Nat) : Int) := Zai (n := 1) (by omega)
      have d0 : decide ((i : Int) < @Nat.cast Int _ (List.length c.v0)) = true := by simp; omega
      have d1 : decide (0 ≤ (i : Int)) = true := by simp
      rw [ew, Zbe, Int.toNat_natCast, y1, y2, d0, d1, wi]
      have e2 : eqI [hdJ (List.drop 0 [vI y, vI 0, vI 0]), hdJ (List.tail (List.drop 0 [vI y, vI 0, vI 0])), hdJ (List.tail (List.tail (List.drop 0 [vI y, vI 0, vI 0])))] [hdJ (List.drop 0 [vI y]), 0, 0] = true := by simp [eqI, hdJ]
      rw [e2]
      exact ⟨rfl, q⟩
    · rw [rMW0]
      have ew : (newM c).w0 = mW c.v0 := rfl
      have d0 : decide (@Nat.cast Int _ (List.length c.v0) < @Nat.cast Int _ (List.length c.v0)) = false := by simp
      rw [ew, Zbe, d0]
      exact ⟨rfl, q⟩
  · have hq : Q (.exit 2) (stMW c (newM c) ss 1 (c.v1.length : Nat)) := by
      have e : lenW (newM c) 1 = ((mW c.v1).length : Nat) := rfl
      rw [e, Zbe] at hq
      exact hq
    refine Zbj (sw := []) (V := ZbF c (newM c) ss 1) (VE := fun _ => ZbF c (newM c) ss 1) mixed (ZbP _ _ _ _) (fun _ => ZbP _ _ _ _) (fun i => stMW c (newM c) ss 1 i) (fun i => stMW c (newM c) ss 1 i) c.v1.length (fun _ => false) .ret (.exit 2) (fun i hi => ⟨_, hH, Zae rfl, fun N E _ q => ?_⟩) ⟨_, hH, Zae rfl, fun N E q => ?_⟩ Q x ⟨hx, fun i hf => by have := hf.2.1; simp at this, fun _ => hq⟩
    · have q := q rfl
      rw [rMW1]
      obtain ⟨y, y1, y2⟩ := oneZ z1 hi
      have ew : (newM c).w1 = mW c.v1 := rfl
      have wi : IntKind.wrap IntKind.i64 ((i : Int) + 1) = ((i + 1 : Nat) : Int) := Zai (n := 1) (by omega)
      have d0 : decide ((i : Int) < @Nat.cast Int _ (List.length c.v1)) = true := by simp; omega
      have d1 : decide (0 ≤ (i : Int)) = true := by simp
      rw [ew, Zbe, Int.toNat_natCast, y1, y2, d0, d1, wi]
      have e2 : eqI [hdJ (List.drop 0 [vI y, vI 0, vI 0]), hdJ (List.tail (List.drop 0 [vI y, vI 0, vI 0])), hdJ (List.tail (List.tail (List.drop 0 [vI y, vI 0, vI 0])))] [hdJ (List.drop 0 [vI y]), 0, 0] = true := by simp [eqI, hdJ]
      rw [e2]
      exact ⟨rfl, q⟩
    · rw [rMW1]
      have ew : (newM c).w1 = mW c.v1 := rfl
      have d0 : decide (@Nat.cast Int _ (List.length c.v1) < @Nat.cast Int _ (List.length c.v1)) = false := by simp
      rw [ew, Zbe, d0]
      exact ⟨rfl, q⟩
  · have hq : Q (.exit 2) (stMW c (newM c) ss 2 (c.v2.length : Nat)) := by
      have e : lenW (newM c) 2 = ((mW c.v2).length : Nat) := rfl
      rw [e, Zbe] at hq
      exact hq
    refine Zbj (sw := []) (V := ZbF c (newM c) ss 2) (VE := fun _ => ZbF c (newM c) ss 2) mixed (ZbP _ _ _ _) (fun _ => ZbP _ _ _ _) (fun i => stMW c (newM c) ss 2 i) (fun i => stMW c (newM c) ss 2 i) c.v2.length (fun _ => false) .ret (.exit 2) (fun i hi => ⟨_, hH, Zae rfl, fun N E _ q => ?_⟩) ⟨_, hH, Zae rfl, fun N E q => ?_⟩ Q x ⟨hx, fun i hf => by have := hf.2.1; simp at this, fun _ => hq⟩
    · have q := q rfl
      rw [rMW2]
      obtain ⟨y, y1, y2⟩ := oneZ z2 hi
      have ew : (newM c).w2 = mW c.v2 := rfl
      have wi : IntKind.wrap IntKind.i64 ((i : Int) + 1) = ((i + 1 : Nat) : Int) := Zai (n := 1) (by omega)
      have d0 : decide ((i : Int) < @Nat.cast Int _ (List.length c.v2)) = true := by simp; omega
      have d1 : decide (0 ≤ (i : Int)) = true := by simp
      rw [ew, Zbe, Int.toNat_natCast, y1, y2, d0, d1, wi]
      have e2 : eqI [hdJ (List.drop 0 [vI y, vI 0, vI 0]), hdJ (List.tail (List.drop 0 [vI y, vI 0, vI 0])), hdJ (List.tail (List.tail (List.drop 0 [vI y, vI 0, vI 0])))] [hdJ (List.drop 0 [vI y]), 0, 0] = true := by simp [eqI, hdJ]
      rw [e2]
      exact ⟨rfl, q⟩
    · rw [rMW2]
      have ew : (newM c).w2 = mW c.v2 := rfl
      have d0 : decide (@Nat.cast Int _ (List.length c.v2) < @Nat.cast Int _ (List.length c.v2)) = false := by simp
      rw [ew, Zbe, d0]
      exact ⟨rfl, q⟩
  · have hq : Q (.exit 2) (stMW c (newM c) ss 3 (c.v3.length : Nat)) := by
      have e : lenW (newM c) 3 = ((mW c.v3).length : Nat) := rfl
      rw [e, Zbe] at hq
      exact hq
    refine Zbj (sw := []) (V := ZbF c (newM c) ss 3) (VE := fun _ => ZbF c (newM c) ss 3) mixed (ZbP _ _ _ _) (fun _ => ZbP _ _ _ _) (fun i => stMW c (newM c) ss 3 i) (fun i => stMW c (newM c) ss 3 i) c.v3.length (fun _ => false) .ret (.exit 2) (fun i hi => ⟨_, hH, Zae rfl, fun N E _ q => ?_⟩) ⟨_, hH, Zae rfl, fun N E q => ?_⟩ Q x ⟨hx, fun i hf => by have := hf.2.1; simp at this, fun _ => hq⟩
    · have q := q rfl
      rw [rMW3]
      obtain ⟨y, y1, y2⟩ := oneZ z3 hi
      have ew : (newM c).w3 = mW c.v3 := rfl
      have wi : IntKind.wrap IntKind.i64 ((i : Int) + 1) = ((i + 1 : Nat) : Int) := Zai (n := 1) (by omega)
      have d0 : decide ((i : Int) < @Nat.cast Int _ (List.length c.v3)) = true := by simp; omega
      have d1 : decide (0 ≤ (i : Int)) = true := by simp
      rw [ew, Zbe, Int.toNat_natCast, y1, y2, d0, d1, wi]
      have e2 : eqI [hdJ (List.drop 0 [vI y, vI 0, vI 0]), hdJ (List.tail (List.drop 0 [vI y, vI 0, vI 0])), hdJ (List.tail (List.tail (List.drop 0 [vI y, vI 0, vI 0])))] [hdJ (List.drop 0 [vI y]), 0, 0] = true := by simp [eqI, hdJ]
      rw [e2]
      exact ⟨rfl, q⟩
    · rw [rMW3]
      have ew : (newM c).w3 = mW c.v3 := rfl
      have d0 : decide (@Nat.cast Int _ (List.length c.v3) < @Nat.cast Int _ (List.length c.v3)) = false := by simp
      rw [ew, Zbe, d0]
      exact ⟨rfl, q⟩
theorem kMS {c : ScrD} (hs : c.sts.all okSt = true) (hb : c.sts.length * 184 ≤ 140737488351232) (h : Mh) (Q : Exit → X → Prop) (x : X) (hq : fMS c h (c.sts.map newS) Q x) : XWP Tryz.prog (.loop (Zak Tryz.f8 2)) Q x := by
  obtain ⟨hx, hq⟩ := hq
  have q1 := List.all_eq_true.1 hs
  have hH : Zao Tryz.prog (hkF [(32, sSS)] [] []) := Zfr (.cons oSS .nil) .nil .nil
  refine Zbj (sw := []) (V := Zg0 c h (c.sts.map newS)) (VE := fun _ => Zg0 c h (c.sts.map newS)) mixed (Ziz _ _ _) (fun _ => Ziz _ _ _) (fun i => stMS c h (c.sts.map newS) i) (fun i => stMS c h (c.sts.map newS) i) c.sts.length (fun _ => false) .ret (.exit 4) (fun i hi => ⟨_, hH, Zae rfl, fun N E _ q => ?_⟩) ⟨_, hH, Zae rfl, fun N E q => ?_⟩ Q x ⟨hx, fun i hf => by have := hf.2.1; simp at this, fun _ => hq⟩
  · have q := q rfl
    rw [rMS]
    have wi : IntKind.wrap IntKind.i64 ((i : Int) + 1) = ((i + 1 : Nat) : Int) := Zai (n := 1) (by omega)
    have d0 : decide ((i : Int) < @Nat.cast Int _ (List.length (List.map (staL 0) c.sts))) = true := by rw [List.length_map]; simp; omega
    have d2 : decide ((i : Int) < @Nat.cast Int _ (List.length (List.map (sesL 0) (c.sts.map newS)))) = true := by rw [List.length_map, List.length_map]; simp; omega
    have d1 : decide (0 ≤ (i : Int)) = true := by simp
    rw [d0, d1, d2, wi]
    have ok := q1 _ (ZhY hi)
    have okn : ZaF (newS (stN c.sts i)) = true := by
      unfold ZaF
      show (okZ 4 (stN c.sts i).pg && _) = true
      rw [(ZfV ok).1]; rfl
    refine ⟨stN c.sts i, by rw [Int.toNat_natCast]; exact ZoG hi, newS (stN c.sts i), ?_, ?_⟩
    · rw [Int.toNat_natCast]
      refine Zga ?_
      rw [List.getElem?_map]
      unfold stN
      rw [List.getD_eq_getElem?_getD, List.getElem?_eq_getElem hi]; rfl
    · rw [okn, (Zii okn okn).2 rfl]
      exact ⟨rfl, q⟩
  · rw [rMS]
    have d0 : decide (@Nat.cast Int _ c.sts.length < @Nat.cast Int _ (List.length (List.map (staL 0) c.sts))) = false := by rw [List.length_map]; simp
    rw [d0]
    exact ⟨rfl, q⟩
theorem cMNw (c : ScrD) (hv : okV4 c.v0 c.v1 c.v2 c.v3 = true) (hs : c.sts.all okSt = true) (hb : c.sts.length * 184 ≤ 140737488351232) : CT Tryz.prog 8 [.agg (scrL 0 c)] (B true) := by
  have hN := cNew c hv hs hb
  have hok := okN hv hs
  have gN : Goes Tryz.prog 20 := Zax Tryz.func20 (by kernel_rfl) rfl
  cases ho : Zhv c with
  | false =>
    rw [ho] at hN
    have hz : Zac Tryz.prog 20 (sAtD [.agg (scrL 0 c)] (.tup [.agg (macL 0 h0 []), I 1200])) := oAtZ gN hN rfl (Zl0 h0 [] 1200) rfl
    refine Zpc (.cons Zsx (.cons hz (.cons oNum (.cons ZtD .nil)))) .nil .nil mixed Tryz.func8 rfl rfl rfl ?_
    rw [eMN0]
    exact ⟨⟨rfl, rfl, ZnU (h := h0) (ss := []) rfl (by simp), AL.refl _⟩⟩
  | true =>
    rw [ho] at hN
    have hm : mmay (newM c) (c.sts.map newS) = true := by
      unfold Zhv at ho
      simp only [Bool.and_eq_true] at ho
      exact ho.2.2
    have hz : Zac Tryz.prog 20 (sAtD [.agg (scrL 0 c)] (.tup [.agg (macL 0 (newM c) (c.sts.map newS)), I 0])) := oAtZ gN hN (ZlY (ZhQ hok hm) 0) (Zl0 _ _ _) rfl
    have hMay := Znp (newM c) (c.sts.map newS) hok
    rw [hm] at hMay
    have hL : ZeZ Tryz.prog Tryz.f8 [(14, fMW c (newM c) (c.sts.map newS)), (19, fMS c (newM c) (c.sts.map newS))] := fun j hj s' hs' Q x hq => by
      have hj2 : j < 3 := hj
      have : j = 0 ∨ j = 1 ∨ j = 2 := by omega
      rcases this with rfl | rfl | rfl
      · cases hs'
      · cases hs'; exact kMW hv Q x hq
      · cases hs'; exact kMS hs hb _ Q x hq
    refine Zsu (.cons Zsx (.cons hz (.cons oNum (.cons (oAtD Ztu hMay rfl rfl) .nil)))) .nil .nil mixed hL Tryz.func8 rfl rfl rfl ?_
    rw [eMN1]
    have e0 : (@Nat.cast Int _ (List.length (newM c).w0) != @Nat.cast Int _ (List.length c.v0)) = false := by
      have e : (newM c).w0 = mW c.v0 := rfl
      rw [e, Zbe]; simp
    have e1 : (@Nat.cast Int _ (List.length (newM c).w1) != @Nat.cast Int _ (List.length c.v1)) = false := by
      have e : (newM c).w1 = mW c.v1 := rfl
      rw [e, Zbe]; simp
    have e2 : (@Nat.cast Int _ (List.length (newM c).w2) != @Nat.cast Int _ (List.length c.v2)) = false := by
      have e : (newM c).w2 = mW c.v2 := rfl
      rw [e, Zbe]; simp
    have e3 : (@Nat.cast Int _ (List.length (newM c).w3) != @Nat.cast Int _ (List.length c.v3)) = false := by
      have e : (newM c).w3 = mW c.v3 := rfl
      rw [e, Zbe]; simp
    have e4 : (@Nat.cast Int _ (List.length (List.map (sesL 0) (c.sts.map newS))) != @Nat.cast Int _ (List.length (List.map (staL 0) c.sts))) = false := by rw [List.length_map, List.length_map, List.length_map]; simp
    have e5 : ((newM c).ce != c.ce) = false := by show (c.ce != c.ce) = false; simp
    refine ⟨⟨rfl, rfl, ?_⟩⟩
    rw [e0, e1, e2, e3, e4, e5]
    exact ⟨rfl, rfl, rfl, rfl, rfl, rfl, rfl, rfl, rfl, rfl, AL.refl _⟩
def kSta : List KT := [.int, .int, .int, .sl (List.replicate 4 .int) 32]
def kScr : List KT := [.sl (List.replicate 1 .int) 8, .sl (List.replicate 1 .int) 8, .sl (List.replicate 1 .int) 8, .sl (List.replicate 1 .int) 8, .int, .sl kSta 48, .sl (List.replicate 2 .int) 16]
theorem gSta {r : List D} (h : GoodL kSta r) : ∃ s, r = staL 0 s ∧ okSt s = true := by
  unfold kSta at h
  obtain ⟨x0, r0, rfl, g0⟩ := h.i
  obtain ⟨x1, r1, rfl, g1⟩ := g0.i
  obtain ⟨x2, r2, rfl, g2⟩ := g1.i
  obtain ⟨x3, r3, rfl, o3, bo3, g3⟩ := g2.rb
  obtain rfl := g3.nil_inv
  refine ⟨⟨x0, x1, x2, x3⟩, rfl, ?_⟩
  show (okZ 4 x3 && decide (x3.length ≤ 4398046510977)) = true
  rw [o3, decide_eq_true (by omega : x3.length ≤ 4398046510977)]; rfl
theorem ZsK : ∀ rows : List (List D), (∀ r ∈ rows, GoodL kSta r) → ∃ ss : List StD, rows = ss.map (staL 0) ∧ ss.all okSt = true
  | [], _ => ⟨[], rfl, rfl⟩
  | r :: rows, h => by
    obtain ⟨s, rfl, hs⟩ := gSta (h r (by simp))
    obtain ⟨ss, rfl, hss⟩ := ZsK rows fun r hr => h r (by simp [hr])
    exact ⟨s :: ss, rfl, by rw [List.all_cons, hs, hss]; rfl⟩
theorem ZiR {N t z : Nat} {rows sp : List (List D)} (h : Sh N (.s t z rows sp)) : rows.length ≤ N := by cases h with | s _ _ _ _ h _ => exact h
theorem ZlI {R : List (List D)} (h : okZ 1 R = true) (hl : R.length ≤ 1048576) : okV R = true := by
  unfold okV
  rw [h, decide_eq_true (by omega : R.length ≤ 5864062014635)]; rfl
theorem gScr {r : List D} (h : GoodL kScr r) (hN : ShL 1048576 r) : ∃ c, r = scrL 0 c ∧ okV4 c.v0 c.v1 c.v2 c.v3 = true ∧ c.sts.all okSt = true ∧ c.sts.length * 184 ≤ 140737488351232 ∧ okZ 2 c.sl = true ∧ c.sl.length * 16 ≤ 140737488351232 := by
  unfold kScr at h
  obtain ⟨x0, r0, rfl, o0, bo0, g0⟩ := h.rb
  obtain ⟨x1, r1, rfl, o1, bo1, g1⟩ := g0.rb
  obtain ⟨x2, r2, rfl, o2, bo2, g2⟩ := g1.rb
  obtain ⟨x3, r3, rfl, o3, bo3, g3⟩ := g2.rb
  obtain ⟨x4, r4, rfl, g4⟩ := g3.i
  obtain ⟨d, r9, rfl, h9, g9⟩ := g4.cons_inv
  obtain ⟨rows, rfl, hb, _, hr⟩ := h9.sl_inv
  obtain ⟨ss, rfl, hss⟩ := ZsK rows hr
  obtain ⟨x10, r10, rfl, o10, bo10, g10⟩ := g9.rb
  obtain rfl := g10.nil_inv
  obtain ⟨n0, hN⟩ := hN.cons_inv
  obtain ⟨n1, hN⟩ := hN.cons_inv
  obtain ⟨n2, hN⟩ := hN.cons_inv
  obtain ⟨n3, hN⟩ := hN.cons_inv
  obtain ⟨_, hN⟩ := hN.cons_inv
  obtain ⟨n5, hN⟩ := hN.cons_inv
  have n5 := ZiR n5
  rw [List.length_map] at n5
  refine ⟨⟨x0, x1, x2, x3, x4, ss, x10⟩, rfl, ?_, hss, by show ss.length * 184 ≤ _; omega, o10, bo10⟩
  show (okV x0 && (okV x1 && (okV x2 && okV x3))) = true
  rw [ZlI o0 (ZiR n0), ZlI o1 (ZiR n1), ZlI o2 (ZiR n2), ZlI o3 (ZiR n3)]; rfl
theorem cMNg (xs : List D) (h : GoodL kScr xs ∧ ShL 1048576 xs) : CT Tryz.prog 8 [.agg xs] (B true) := by
  obtain ⟨c, rfl, hv, hs, hb, _⟩ := gScr h.1 h.2
  exact cMNw c hv hs hb
end

end Vm
