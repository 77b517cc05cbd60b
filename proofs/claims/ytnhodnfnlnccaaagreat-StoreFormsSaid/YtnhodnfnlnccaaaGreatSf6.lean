/- An interpreter for Go's texts over plain data, its proof, and what it says of the functions that the law reaches. My own work. -/
import Derived.Test.YtnhodnfnlnccaaaGreatSf5
namespace Vm
section
set_option maxHeartbeats 2000000
open Go Go.Proofs
set_option linter.unusedSimpArgs false
set_option linter.unusedVariables false
set_option maxRecDepth 100000
theorem eSS (s s' : SesD) (K : DV → Prop) : (askW Tryz.prog (hkF [(77, sSameInsts), (42, sSameReads), (45, sSameWrites)] [] []) Tryz.f32 [.agg (sesL 0 s), .agg (sesL 0 s')] K) = (bif s.id == s'.id then bif s.lb == s'.lb then bif s.cl == s'.cl then bif okZ (4) s.pg && okZ (4) s'.pg then bif decide (toZ s.pg = toZ s'.pg) then bif s.st == s'.st then bif s.pc == s'.pc then bif eqI [s.r0, s.r1, s.r2, s.r3] [s'.r0, s'.r1, s'.r2, s'.r3] then bif okZ (3) s.rd && okZ (3) s'.rd then bif decide (toZ s.rd = toZ s'.rd) then bif okZ (3) s.wt && okZ (3) s'.wt then bif decide (toZ s.wt = toZ s'.wt) then bif s.at' == s'.at' then bif s.sp == s'.sp then bif s.tr == s'.tr then bif s.rs == s'.rs then K (B (s.to == s'.to)) else K (B false) else K (B false) else K (B false) else K (B false) else K (B false) else False else K (B false) else False else K (B false) else K (B false) else K (B false) else K (B false) else False else K (B false) else K (B false) else K (B false)) := by kernel_rfl
def sameS (s s' : SesD) : Bool := bif s.id == s'.id then bif s.lb == s'.lb then bif s.cl == s'.cl then bif decide (toZ s.pg = toZ s'.pg) then bif s.st == s'.st then bif s.pc == s'.pc then bif eqI [s.r0, s.r1, s.r2, s.r3] [s'.r0, s'.r1, s'.r2, s'.r3] then bif decide (toZ s.rd = toZ s'.rd) then bif decide (toZ s.wt = toZ s'.wt) then bif s.at' == s'.at' then bif s.sp == s'.sp then bif s.tr == s'.tr then bif s.rs == s'.rs then s.to == s'.to else false else false else false else false else false else false else false else false else false else false else false else false else false
theorem cSS (s s' : SesD) (h : okSes s = true) (h' : okSes s' = true) : CT Tryz.prog 32 [.agg (sesL 0 s), .agg (sesL 0 s')] (B (sameS s s')) := by
  refine ct_wF (.cons oSameInsts (.cons oSameReads (.cons oSameWrites .nil))) .nil .nil mixed Tryz.func32 rfl rfl rfl ?_
  rw [eSS]
  refine ⟨?_⟩
  obtain ⟨a1, a2, a3⟩ := okSes_z h
  obtain ⟨b1, b2, b3⟩ := okSes_z h'
  simp only [a1, a2, a3, b1, b2, b3, Bool.and_self, cond_true, bifAL]
  exact AL.refl _
def sSS : Spec := fun ds Q => match ds with
  | [d, e] => sesA d fun s => sesA e fun s' => cond (okSes s && okSes s') (Q (B (sameS s s'))) False
  | _ => False
theorem oSS : SpecOK Tryz.prog 32 sSS := o_al Tryz.func32 (by kernel_rfl) rfl fun ds Q h => by
  unfold sSS at h; split at h
  · obtain ⟨s, h, r1⟩ := sesA_spec h
    obtain ⟨s', h, r2⟩ := sesA_spec h
    obtain ⟨h1, h2⟩ := cond_P h
    rw [Bool.and_eq_true] at h1
    exact ⟨_, _, .cons r1 (.cons r2 .nil), cSS s s' h1.1 h1.2, rfl, rfl, h2⟩
  · exact h.elim
theorem eSA (R0 R1 R2 R3 S0 S1 S2 S3 : List (List D)) (K : DV → Prop) : (askW Tryz.prog (hkF [(88, sSameWords)] [] []) Tryz.f41 [.agg (wsL R0 R1 R2 R3), .agg (wsL S0 S1 S2 S3)] K) = (bif okZ (3) R0 && okZ (3) S0 then bif !decide (toZ R0 = toZ S0) then K (B false) else bif okZ (3) R1 && okZ (3) S1 then bif !decide (toZ R1 = toZ S1) then K (B false) else bif okZ (3) R2 && okZ (3) S2 then bif !decide (toZ R2 = toZ S2) then K (B false) else bif okZ (3) R3 && okZ (3) S3 then bif !decide (toZ R3 = toZ S3) then K (B false) else K (B true) else False else False else False else False) := by kernel_rfl
def sameA (R0 R1 R2 R3 S0 S1 S2 S3 : List (List D)) : Bool := bif decide (toZ R0 = toZ S0) then bif decide (toZ R1 = toZ S1) then bif decide (toZ R2 = toZ S2) then bif decide (toZ R3 = toZ S3) then true else false else false else false else false
theorem cSA (R0 R1 R2 R3 S0 S1 S2 S3 : List (List D)) (h : okA R0 R1 R2 R3 = true) (h' : okA S0 S1 S2 S3 = true) : CT Tryz.prog 41 [.agg (wsL R0 R1 R2 R3), .agg (wsL S0 S1 S2 S3)] (B (sameA R0 R1 R2 R3 S0 S1 S2 S3)) := by
  refine ct_wF (.cons oSameWords .nil) .nil .nil mixed Tryz.func41 rfl rfl rfl ?_
  rw [eSA]
  refine ⟨?_⟩
  obtain ⟨a0, a1, a2, a3⟩ := okA_spec h
  obtain ⟨b0, b1, b2, b3⟩ := okA_spec h'
  simp only [a0, a1, a2, a3, b0, b1, b2, b3, Bool.and_self, cond_true, bifALN]
  exact AL.refl _
def sSA : Spec := fun ds Q => match ds with
  | [.agg cs, .agg es] => cond (noOwn cs && Nat.beq cs.length 4 && (noOwn es && Nat.beq es.length 4)) (takeW4 cs fun R0 R1 R2 R3 => takeW4 es fun S0 S1 S2 S3 => cond (okA R0 R1 R2 R3 && okA S0 S1 S2 S3) (Q (B (sameA R0 R1 R2 R3 S0 S1 S2 S3))) False) False
  | _ => False
theorem oSA : SpecOK Tryz.prog 41 sSA := o_al Tryz.func41 (by kernel_rfl) rfl fun ds Q h => by
  unfold sSA at h; split at h
  · obtain ⟨h0, h⟩ := cond_P h
    simp only [Bool.and_eq_true] at h0
    obtain ⟨R0, R1, R2, R3, h, r1⟩ := takeW4_spec h
    obtain ⟨S0, S1, S2, S3, h, r2⟩ := takeW4_spec h
    obtain ⟨h1, h2⟩ := cond_P h
    rw [Bool.and_eq_true] at h1
    rw [List.take_of_length_le (Nat.le_of_eq (beq_true h0.1.2))] at r1
    rw [List.take_of_length_le (Nat.le_of_eq (beq_true h0.2.2))] at r2
    exact ⟨_, _, .cons (.agg r1 h0.1.1 rfl) (.cons (.agg r2 h0.2.1 rfl) .nil), cSA R0 R1 R2 R3 S0 S1 S2 S3 h1.1 h1.2, rfl, rfl, h2⟩
  · exact h.elim
def stSM (h : Mh) (ss : List SesD) (h' : Mh) (ss' : List SesD) (v : Bool) (i : Int) : X := ⟨mkT 62 [(2, .c (.rp 3 0 11 0 0)), (3, .c (.rp 4 0 11 0 0)), (4, ab v), (5, ai i)], [(3, .bx 0 11 ((macL 0 h ss).map C.d)), (4, .bx 0 11 ((macL 0 h' ss').map C.d))], [], []⟩
def v_stSM (h : Mh) (ss : List SesD) (h' : Mh) (ss' : List SesD) : Vw := fun y K => wB y 4 fun v => wI y 5 fun i => K (stSM h ss h' ss' v i)
theorem v_stSM_ok (h : Mh) (ss : List SesD) (h' : Mh) (ss' : List SesD) : VwOK (v_stSM h ss h' ss') := fun y K h => by
  unfold v_stSM at h
  obtain ⟨v, h⟩ := wB_ex h
  obtain ⟨i, h⟩ := wI_ex h
  exact ⟨_, h⟩
theorem rSM (h : Mh) (ss : List SesD) (h' : Mh) (ss' : List SesD) (v : Bool) (i : Int) (N : X → Prop) (E : Exit → X → Prop) : (roundV Tryz.prog (hkF [(32, sSS)] [] []) Tryz.f24 0 [] [2, 3, 4, 5] [3, 4] (v_stSM h ss h' ss') (fun _ => v_stSM h ss h' ss') N E (stSM h ss h' ss' v i)) = (bif decide (i < @Nat.cast Int _ (List.length (List.map (sesL (0)) ss))) then bif decide (0 ≤ i) && decide (i < @Nat.cast Int _ (List.length (List.map (sesL (0)) ss))) then ∃ s, sesAt (List.map (sesL (0)) ss) (Int.toNat i) (0) s ∧ bif decide (0 ≤ i) && decide (i < @Nat.cast Int _ (List.length (List.map (sesL (0)) ss'))) then ∃ s_1, sesAt (List.map (sesL (0)) ss') (Int.toNat i) (0) s_1 ∧ bif okSes s && okSes s_1 then bif !sameS s s_1 then stSM h ss h' ss' false i = stSM h ss h' ss' false i ∧ E Exit.ret (stSM h ss h' ss' false i) else stSM h ss h' ss' v (IntKind.wrap IntKind.i64 (i + 1)) = stSM h ss h' ss' v (IntKind.wrap IntKind.i64 (i + 1)) ∧ N (stSM h ss h' ss' v (IntKind.wrap IntKind.i64 (i + 1))) else False else False else False else stSM h ss h' ss' v i = stSM h ss h' ss' v i ∧ E (Exit.exit (0)) (stSM h ss h' ss' v i)) := by kernel_rfl
def sesN (ss : List SesD) (i : Nat) : SesD := ss.getD i default
def unl (ss ss' : List SesD) (i : Nat) : Bool := !sameS (sesN ss i) (sesN ss' i)
def fSM (h : Mh) (ss : List SesD) (h' : Mh) (ss' : List SesD) : LSum := fun Q x => ss.length = ss'.length ∧ findS [2, 3, 4, 5] [3, 4] (fun i => stSM h ss h' ss' false i) (fun i => stSM h ss h' ss' false i) ss.length (unl ss ss') .ret (.exit 0) Q x
theorem eSM (h : Mh) (ss : List SesD) (h' : Mh) (ss' : List SesD) (K : DV → Prop) : (askW Tryz.prog (hkFL [(41, sSA), (59, sSameEvents)] [] [] [(4, fSM h ss h' ss')]) Tryz.f24 [.agg (macL 0 h ss), .agg (macL 0 h' ss')] K) = (bif okA h.w0 h.w1 h.w2 h.w3 && okA h'.w0 h'.w1 h'.w2 h'.w3 then bif !sameA h.w0 h.w1 h.w2 h.w3 h'.w0 h'.w1 h'.w2 h'.w3 then K (B false) else bif !eqI [h.c0, h.c1, h.c2, h.c3] [h'.c0, h'.c1, h'.c2, h'.c3] then K (B false) else bif h.ce != h'.ce then K (B false) else bif @Nat.cast Int _ (List.length (List.map (sesL (0)) ss)) != @Nat.cast Int _ (List.length (List.map (sesL (0)) ss')) then K (B false) else bif okZ (4) h.tr && okZ (4) h'.tr then bif !decide (toZ h.tr = toZ h'.tr) then K (B false) else List.length ss = List.length ss' ∧ stSM h ss h' ss' false (0) = stSM h ss h' ss' false (0) ∧ (∀ (i : Nat), firstAt (unl ss ss') (List.length ss) i → K (B false)) ∧ (noneTo (unl ss ss') (List.length ss) → K (B true)) else False else False) := by kernel_rfl
theorem sesN_at {ss : List SesD} {i t : Nat} (h : i < ss.length) : sesAt (List.map (sesL t) ss) i t (sesN ss i) := sesAt_map (by unfold sesN; rw [List.getD_eq_getElem?_getD, List.getElem?_eq_getElem h]; rfl)
theorem sesN_mem {ss : List SesD} {i : Nat} (h : i < ss.length) : sesN ss i ∈ ss := by
  unfold sesN
  rw [List.getD_eq_getElem?_getD, List.getElem?_eq_getElem h]
  exact List.getElem_mem h
theorem kSM {h : Mh} {ss : List SesD} {h' : Mh} {ss' : List SesD} (hs : okSS ss = true) (hs' : okSS ss' = true) (hn : ss.length ≤ 9223372036854775806) (Q : Exit → X → Prop) (x : X) (hq : fSM h ss h' ss' Q x) : XWP Tryz.prog (.loop (bodyL Tryz.f24 0)) Q x := by
  obtain ⟨hl, hq⟩ := hq
  have q1 := List.all_eq_true.1 hs
  have q2 := List.all_eq_true.1 hs'
  refine xwp_findV (sw := []) (V := v_stSM h ss h' ss') (VE := fun _ => v_stSM h ss h' ss') mixed (v_stSM_ok h ss h' ss') (fun _ => v_stSM_ok h ss h' ss') _ _ _ _ _ _ (fun i hi => ⟨hkF [(32, sSS)] [] [], hkF_ok (.cons oSS .nil) .nil .nil, loops_nil rfl, fun N E h1 h2 => ?_⟩) ⟨hkF [(32, sSS)] [] [], hkF_ok (.cons oSS .nil) .nil .nil, loops_nil rfl, fun N E h1 => ?_⟩ Q x hq
  · rw [rSM]
    have wi : IntKind.wrap IntKind.i64 ((i : Int) + 1) = ((i + 1 : Nat) : Int) := wrap_nat (n := 1) (by omega)
    have hi' : i < ss'.length := by omega
    simp only [List.length_map, Int.ofNat_lt, hi, hi', decide_true, cond_true, Int.natCast_nonneg, Bool.and_self, Int.toNat_natCast, wi]
    refine ⟨sesN ss i, sesN_at hi, sesN ss' i, sesN_at hi', ?_⟩
    rw [q1 _ (sesN_mem hi), q2 _ (sesN_mem hi')]
    unfold unl at h1 h2
    generalize sameS (sesN ss i) (sesN ss' i) = u at h1 h2 ⊢
    cases u
    · exact ⟨trivial, h1 rfl⟩
    · exact ⟨trivial, h2 rfl⟩
  · rw [rSM]
    simp only [List.length_map, Int.ofNat_lt, Nat.lt_irrefl, decide_false, cond_false, true_and]
    exact h1
def sameM (h : Mh) (ss : List SesD) (h' : Mh) (ss' : List SesD) : Bool := sameA h.w0 h.w1 h.w2 h.w3 h'.w0 h'.w1 h'.w2 h'.w3 && (eqI [h.c0, h.c1, h.c2, h.c3] [h'.c0, h'.c1, h'.c2, h'.c3] && (h.ce == h'.ce && (decide (ss.length = ss'.length) && (decide (toZ h.tr = toZ h'.tr) && !(List.range ss.length).any (unl ss ss')))))
theorem cSM (h : Mh) (ss : List SesD) (h' : Mh) (ss' : List SesD) (ho : okM h ss = true) (ho' : okM h' ss' = true) (hn : ss.length ≤ 9223372036854775806) : CT Tryz.prog 24 [.agg (macL 0 h ss), .agg (macL 0 h' ss')] (B (sameM h ss h' ss')) := by
  obtain ⟨a1, a2, a3⟩ := okM_spec ho
  obtain ⟨b1, b2, b3⟩ := okM_spec ho'
  refine ct_wL (m := [(4, fSM h ss h' ss')]) (.cons oSA (.cons oSameEvents .nil)) .nil .nil mixed (loopsL1 (i := 0) (fun j hj _ => by have : j < 1 := hj; omega) (kSM a3 b3 hn)) Tryz.func24 rfl rfl rfl ?_
  rw [eSM]
  refine ⟨?_⟩
  unfold sameM
  simp only [a1, a2, b1, b2, Bool.and_self, cond_true, List.length_map]
  cases sameA h.w0 h.w1 h.w2 h.w3 h'.w0 h'.w1 h'.w2 h'.w3
  · exact AL.refl _
  · cases eqI [h.c0, h.c1, h.c2, h.c3] [h'.c0, h'.c1, h'.c2, h'.c3]
    · exact AL.refl _
    · cases hc : h.ce == h'.ce
      · have : (h.ce != h'.ce) = true := by unfold bne; rw [hc]; rfl
        rw [this]; exact AL.refl _
      · have : (h.ce != h'.ce) = false := by unfold bne; rw [hc]; rfl
        rw [this]
        by_cases hl : ss.length = ss'.length
        · have : (@Nat.cast Int _ (List.length ss) != @Nat.cast Int _ (List.length ss')) = false := by rw [hl]; simp
          rw [this, decide_eq_true hl]
          cases decide (toZ h.tr = toZ h'.tr)
          · exact AL.refl _
          · refine ⟨hl, trivial, fun i hi => ?_, fun hn => ?_⟩
            · rw [hi.b]; exact AL.refl _
            · rw [hn.b]; exact AL.refl _
        · have : (@Nat.cast Int _ (List.length ss) != @Nat.cast Int _ (List.length ss')) = true := by simp; omega
          rw [this, decide_eq_false hl]; exact AL.refl _
def sSM : Spec := fun ds Q => match ds with
  | [d, e] => macA d fun h ss => macA e fun h' ss' => cond (okM h ss && (okM h' ss' && Nat.ble ss.length 4)) (Q (B (sameM h ss h' ss'))) False
  | _ => False
theorem oSM : SpecOK Tryz.prog 24 sSM := o_al Tryz.func24 (by kernel_rfl) rfl fun ds Q hq => by
  unfold sSM at hq; split at hq
  · obtain ⟨h, ss, hq, r1⟩ := macA_spec hq
    obtain ⟨h', ss', hq, r2⟩ := macA_spec hq
    obtain ⟨h1, h2⟩ := cond_P hq
    simp only [Bool.and_eq_true] at h1
    exact ⟨_, _, .cons r1 (.cons r2 .nil), cSM h ss h' ss' h1.1 h1.2.1 (by have := Nat.le_of_ble_eq_true h1.2.2; omega), rfl, rfl, h2⟩
  · exact hq.elim
end

section
set_option maxHeartbeats 2000000
open Go Go.Proofs
set_option linter.unusedSimpArgs false
set_option linter.unusedVariables false
set_option maxRecDepth 100000
def iStdK (k : Int) (h : Mh) (s : SesD) : Inl := callB Tryz.prog [3, 3] (sF (sAtD [I 0, I k] (.agg (macL 1 h [s, bB]))))
def hkN (an : Int → Int → Int) (l lf : List (FuncId × Spec)) (li : List (FuncId × Inl)) : Hooks := { hkX an bor l lf li with spl := true }
theorem hkN_ok {l lf : List (FuncId × Spec)} {li : List (FuncId × Inl)} (h : SpecsOK Tryz.prog l) (hf : SpecsFOK Tryz.prog lf) (hi : InlsLOK Tryz.prog li) : CallsOK Tryz.prog (hkN band l lf li) := hkM_ok h hf hi
theorem hkN_loops {l lf : List (FuncId × Spec)} {li : List (FuncId × Inl)} {c : Code} : LoopsOK Tryz.prog (hkN band l lf li) c := hkM_loops
theorem mm_ck {h : Mh} {ss : List SesD} (e : clkB h = false) : mmay h ss = false := by unfold mmay; rw [e]; simp
theorem upto_f {x lo hi : Int} (h : x < lo ∨ hi < x) : upto x lo hi = false := by
  cases e : upto x lo hi
  · rfl
  · unfold upto at e; simp only [Bool.and_eq_true, decide_eq_true_eq] at e; omega
theorem d1023 (x : Int) : ∃ d : Int, IntKind.wrap IntKind.i64 (1 + band x 1023) = d ∧ 1 ≤ d ∧ d ≤ 1024 := by
  have h := mask10 x
  refine ⟨1 + band x 1023, ?_, by omega, by omega⟩
  rw [wrap_id (by omega) (by omega)]
theorem umod {w : Int} {n : Int} (hn : 0 < n) : 0 ≤ Int.tmod (IntKind.wrap IntKind.u64 w) n ∧ Int.tmod (IntKind.wrap IntKind.u64 w) n < n := by
  have hu : 0 ≤ IntKind.wrap .u64 w := by
    simp [IntKind.wrap, IntKind.signed, IntKind.bits]; omega
  exact ⟨Int.tmod_nonneg _ hu, Int.tmod_lt_of_pos _ hn⟩
end

section
set_option maxHeartbeats 2000000
open Go Go.Proofs
set_option linter.unusedSimpArgs false
set_option linter.unusedVariables false
set_option maxRecDepth 100000
theorem smM_set {h : Mh} {ss : List SesD} (hm : smM h ss = true) (j : Nat) {s : SesD} (hs : smS s = true) : smM h (ss.set j s) = true := by
  unfold smM at hm ⊢
  simp only [Bool.and_eq_true] at hm ⊢
  refine ⟨hm.1, hm.2.1, ?_⟩
  rw [List.all_eq_true] at hm ⊢
  intro x hx
  rcases List.mem_or_eq_of_mem_set hx with hx | rfl
  · exact hm.2.2 x hx
  · exact hs
theorem smM_tr {h h' : Mh} {ss : List SesD} (hm : smM h ss = true) (e0 : h'.w0 = h.w0) (e1 : h'.w1 = h.w1) (e2 : h'.w2 = h.w2) (e3 : h'.w3 = h.w3) (ht : smR 4398046510977 h'.tr = true) : smM h' ss = true := by
  unfold smM at hm ⊢
  rw [e0, e1, e2, e3, ht]
  simp only [Bool.and_eq_true] at hm ⊢
  exact ⟨hm.1, trivial, hm.2.2⟩
end

section
set_option maxHeartbeats 2000000
open Go Go.Proofs
set_option linter.unusedSimpArgs false
set_option linter.unusedVariables false
set_option maxRecDepth 100000
def noAt (p : Int → Bool) (h : Mh) (ss : List SesD) (i : Int) : Prop := mAt p h ss i = false
theorem noAt_m {p : Int → Bool} {h : Mh} {ss : List SesD} {i : Int} (hm : mmay h ss = false) : noAt p h ss i := by unfold noAt mAt mthere; rw [hm]; rfl
theorem noAt_i {p : Int → Bool} {h : Mh} {ss : List SesD} {i : Int} (hi : i < 0 ∨ (ss.length : Int) ≤ i) : noAt p h ss i := by
  unfold noAt mAt mthere
  rcases hi with hi | hi
  · rw [decide_eq_false (show ¬ i ≥ 0 by omega)]; simp
  · rw [decide_eq_false (show ¬ i < ss.length by omega)]; simp
theorem noAt_s {p : Int → Bool} {h : Mh} {s : SesD} {ss : List SesD} (hs : atS p s = false) : noAt p h (s :: ss) 0 := by
  unfold noAt mAt
  show (_ && atS p s) = false
  rw [hs]; simp
end

section
set_option maxHeartbeats 2000000
open Go Go.Proofs
set_option linter.unusedSimpArgs false
set_option linter.unusedVariables false
set_option maxRecDepth 100000
theorem ses_wr' {R0 R1 R2 R3 : List (List D)} {s : SesD} (h : sesMay R0 R1 R2 R3 s = true) : wrmay (toZ s.wt) = true := by
  unfold sesMay setsB at h
  simp only [Bool.and_eq_true] at h
  exact h.2.1.2.1
theorem withW_len (l : List (List Int)) (r : List Int) : (withW l r).length ≤ l.length + 1 := by
  unfold withW
  cases wrmay l && okw r
  · simp
  · simp only [cond_true]
    unfold putW
    cases hasW l (key r) <;> simp <;> omega
theorem storeS_sm {s : SesD} (hs : smS s = true) (hw : s.wt.length ≤ 16) : smS (storeS s) = true := by
  obtain ⟨h1, h2, h3⟩ := smS_spec hs
  unfold smS
  show (smR 4398046510977 s.pg && (smR 5864062014635 s.rd && smR 5864062014635 (mZ (withW (toZ s.wt) [iB s, iD s, regAt s (iA s)])))) = true
  have hl := withW_len (toZ s.wt) [iB s, iD s, regAt s (iA s)]
  rw [toZ_len] at hl
  rw [h1, h2]
  unfold smR
  rw [allV_mZ, mZ_len, decide_eq_true (by omega)]; rfl
theorem tellE_tr {h : Mh} (ht : smR 4398046510977 h.tr = true) (hl : h.tr.length ≤ 512) (a b k v : Int) : smR 4398046510977 (tellE h a b k v).tr = true := by
  unfold tellE
  cases decide ((h.tr.length : Int) < 512)
  · exact ht
  · unfold smR
    show (allV (h.tr ++ [[vN a, vN b, vN k, vN v]]) && decide ((h.tr ++ [[vN a, vN b, vN k, vN v]]).length ≤ 4398046510977)) = true
    rw [allV_add (smR_spec ht).1 rfl, List.length_append, decide_eq_true (by simp; omega)]; rfl
theorem Foc.smS {h : Mh} {ss : List SesD} {i : Int} {s : SesD} (f : Foc h ss i s) : Vm.smS s = true :=
  List.all_eq_true.1 (by have := f.sm; unfold smM at this; simp only [Bool.and_eq_true] at this; exact this.2.2) s (List.mem_of_getElem? f.at')
theorem Foc.wtl {h : Mh} {ss : List SesD} {i : Int} {s : SesD} (f : Foc h ss i s) : s.wt.length ≤ 16 := by
  have := wrmay_len (ses_wr' f.may)
  rwa [toZ_len] at this
theorem Foc.smtr {h : Mh} {ss : List SesD} {i : Int} {s : SesD} (f : Foc h ss i s) : smR 4398046510977 h.tr = true := (smM_spec f.sm).2.1
theorem sto_w (h : Mh) (s : SesD) : (storeM h s).w0 = h.w0 ∧ (storeM h s).w1 = h.w1 ∧ (storeM h s).w2 = h.w2 ∧ (storeM h s).w3 = h.w3 := by
  unfold storeM tellE
  first | exact ⟨rfl, rfl, rfl, rfl⟩ | (split <;> exact ⟨rfl, rfl, rfl, rfl⟩) | (cases decide ((h.tr.length : Int) < 512) <;> exact ⟨rfl, rfl, rfl, rfl⟩)
def sSto : Spec := fun ds Q => match ds with
  | [d, e] => macA d fun h ss => inA e fun i => cond (okM h ss) (bif mAt (has1 3) h ss i then Q (macR (storeM h (ss.getD i.toNat default)) (ss.set i.toNat (storeS (ss.getD i.toNat default))) 0) else Q (macE 1600)) False
  | _ => False
theorem oSto : SpecOK Tryz.prog 38 sSto := o_al Tryz.func38 (by kernel_rfl) rfl fun ds Q hq => by
  unfold sSto at hq; split at hq
  · obtain ⟨h, ss, hq, r1⟩ := macA_spec hq
    obtain ⟨i, hq, rfl⟩ := inA_spec hq
    obtain ⟨ho, hq⟩ := cond_P hq
    have hct := cSto h ss i ho
    cases hm : mAt (has1 3) h ss i with
    | false =>
      rw [hm] at hq hct
      exact ⟨_, _, .cons r1 (.cons (.refl _) .nil), hct, rfl, rfl, hq⟩
    | true =>
      rw [hm] at hq hct
      obtain ⟨s, f, _⟩ := mAt_spec ho hm
      refine ⟨_, macR (storeM h (ss.getD i.toNat default)) (ss.set i.toNat (storeS (ss.getD i.toNat default))) 0, .cons r1 (.cons (.refl _) .nil), hct, own_macR (h := storeM h (ss.getD i.toNat default)) (smM_set (smM_tr (h' := storeM h (ss.getD i.toNat default)) f.sm (sto_w _ _).1 (sto_w _ _).2.1 (sto_w _ _).2.2.1 (sto_w _ _).2.2.2 ?_) _ ?_) 0, rfl, hq⟩
      · rw [f.getD]; exact tellE_tr f.smtr f.tl _ _ _ _
      · rw [f.getD]; exact storeS_sm f.smS f.wtl
  · exact hq.elim
def iSto : Inl := callB Tryz.prog [34, 3] (sF sSto)
theorem iSto_ok : InlOK Tryz.prog 38 iSto := callB_ok (oF oSto)
def sStoE : Spec := fun ds Q => match ds with
  | [d, e] => macA d fun h ss => inA e fun i => cond (okM h ss) (noAt (has1 3) h ss i ∧ Q (macE 1600)) False
  | _ => False
theorem oStoE : SpecOK Tryz.prog 38 sStoE := o_al Tryz.func38 (by kernel_rfl) rfl fun ds Q hq => by
  unfold sStoE at hq; split at hq
  · obtain ⟨h, ss, hq, r1⟩ := macA_spec hq
    obtain ⟨i, hq, rfl⟩ := inA_spec hq
    obtain ⟨ho, hn, hq⟩ := cond_P hq
    have hct := cSto h ss i ho
    have hn' : mAt (has1 3) h ss i = false := hn
    rw [hn'] at hct
    exact ⟨_, _, .cons r1 (.cons (.refl _) .nil), hct, rfl, rfl, hq⟩
  · exact hq.elim
def iStoE : Inl := callB Tryz.prog [34, 3] (sF sStoE)
theorem iStoE_ok : InlOK Tryz.prog 38 iStoE := callB_ok (oF oStoE)
theorem iStd16_2_ok : InlOK Tryz.prog 43 (iStdK 2 bH2 bA2) := callB_ok (oF (oAtD (goes_of Tryz.func43 (by kernel_rfl) rfl) cStd16_2 rfl rfl))
theorem oBeg16 : SpecOK Tryz.prog 44 (sAtD [] (.agg (macL 1 bH0 [bA0, bB]))) := oAtD (goes_of Tryz.func44 (by kernel_rfl) rfl) cBeg16 rfl rfl
theorem eAw16 (K : DV → Prop) : (askH Tryz.prog (hkM [(25, sI), (45, sSameWrites), (41, sSA), (44, sAtD [] (.agg (macL 1 bH0 [bA0, bB])))] [] [(38, iSto), (43, iStdK 2 bH2 bA2)]) Tryz.f40 [] K) = ([I (0), I (2)] = [I (0), I (2)] ∧ ([] : List DV) = [] ∧ ([] : List DV) = [] ∧ K (B true)) := by kernel_rfl
theorem cAw16 : CT Tryz.prog 40 [] (B true) := by
  refine ct_m (.cons oNum (.cons oSameWrites (.cons oSA (.cons oBeg16 .nil)))) .nil (.cons iSto_ok (.cons iStd16_2_ok .nil)) mixed Tryz.func40 rfl rfl rfl ?_
  rw [eAw16]
  exact ⟨by repeat (first | exact rfl | refine ⟨rfl, ?_⟩)⟩
theorem oAw16 : SpecOK Tryz.prog 40 (sAtD [] (B true)) := oAtD (goes_of Tryz.func40 (by kernel_rfl) rfl) cAw16 rfl rfl
theorem eSF (an : Int → Int → Int) (w x : Int) (K : DV → Prop) : (askH Tryz.prog (hkN an [(40, sAtD [] (B true)), (24, sSM), (25, sI)] [] [(38, iStoE), (43, iStdK 2 bH2 bA2)]) Tryz.f16 [I w, I x] K) = (([] : List DV) = [] ∧ [I (0), I (2)] = [I (0), I (2)] ∧ bif Int.tmod (IntKind.wrap IntKind.u64 w) (6) == 0 then bif decide (0 ≤ an (Int.fdiv w (8)) (1)) && decide (an (Int.fdiv w (8)) (1) < 2) then bif decide (addN (0) (Int.toNat (an (Int.fdiv w (8)) (1))) < 2) then bif isJ [IntKind.i64] (List.drop (0) (List.getD [[vN (IntKind.wrap IntKind.i64 (0 - IntKind.wrap IntKind.i64 (1 + an x (1023))))], [vN (IntKind.wrap IntKind.i64 (1 + IntKind.wrap IntKind.i64 (1 + an x (1023))))]] (addN (0) (Int.toNat (an (Int.fdiv w (8)) (1)))) [])) then noAt (has1 (3)) { w0 := [[vN (5), vN (0), vN (0)], [vN (6), vN (0), vN (0)]], w1 := [[vN (7), vN (0), vN (0)]], w2 := [], w3 := [[vN (9), vN (0), vN (0)]], c0 := 0, c1 := 0, c2 := 0, c3 := 0, ce := 9, tr := [[vN (3), vN (0), vN (0), vN (5)]] } [{ id := 3, lb := 0, cl := 3, pg := [[vN (2), vN (0), vN (0), vN (0)], [vN (1), vN (0), vN (0), vN (0)], [vN (3), vN (0), vN (0), vN (0)]], st := 0, pc := 2, r0 := 10, r1 := 0, r2 := 0, r3 := 0, rd := [[vN (0), vN (0), vN (0)]], wt := [], at' := 0, sp := 0, tr := 0, rs := 0, to := 0 }, { id := 5, lb := 1, cl := 1, pg := [[vN (2), vN (0), vN (0), vN (1)], [vN (3), vN (0), vN (1), vN (0)]], st := 0, pc := 0, r0 := 0, r1 := 0, r2 := 0, r3 := 0, rd := [], wt := [], at' := 0, sp := 0, tr := 0, rs := 0, to := 0 }] (hdJ (List.drop (0) (List.getD [[vN (IntKind.wrap IntKind.i64 (0 - IntKind.wrap IntKind.i64 (1 + an x (1023))))], [vN (IntKind.wrap IntKind.i64 (1 + IntKind.wrap IntKind.i64 (1 + an x (1023))))]] (addN (0) (Int.toNat (an (Int.fdiv w (8)) (1)))) []))) ∧ K (B true) else False else False else False else bif Int.tmod (IntKind.wrap IntKind.u64 w) (6) == 1 then noAt (has1 (3)) { w0 := [[vN (5), vN (0), vN (0)], [vN (6), vN (0), vN (0)]], w1 := [[vN (7), vN (0), vN (0)]], w2 := [], w3 := [[vN (9), vN (0), vN (0)]], c0 := 0, c1 := 0, c2 := 0, c3 := 0, ce := IntKind.wrap IntKind.i64 (0 - IntKind.wrap IntKind.i64 (1 + an x (1023))), tr := [[vN (3), vN (0), vN (0), vN (5)]] } [{ id := 3, lb := 0, cl := 3, pg := [[vN (2), vN (0), vN (0), vN (0)], [vN (1), vN (0), vN (0), vN (0)], [vN (3), vN (0), vN (0), vN (0)]], st := 0, pc := 2, r0 := 10, r1 := 0, r2 := 0, r3 := 0, rd := [[vN (0), vN (0), vN (0)]], wt := [], at' := 0, sp := 0, tr := 0, rs := 0, to := 0 }, { id := 5, lb := 1, cl := 1, pg := [[vN (2), vN (0), vN (0), vN (1)], [vN (3), vN (0), vN (1), vN (0)]], st := 0, pc := 0, r0 := 0, r1 := 0, r2 := 0, r3 := 0, rd := [], wt := [], at' := 0, sp := 0, tr := 0, rs := 0, to := 0 }] (0) ∧ K (B true) else bif Int.tmod (IntKind.wrap IntKind.u64 w) (6) == 2 then noAt (has1 (3)) { w0 := [[vN (5), vN (0), vN (0)], [vN (6), vN (0), vN (0)]], w1 := [[vN (7), vN (0), vN (0)]], w2 := [], w3 := [[vN (9), vN (0), vN (0)]], c0 := 0, c1 := 0, c2 := 0, c3 := 0, ce := 9, tr := [[vN (3), vN (0), vN (0), vN (5)]] } [{ id := 3, lb := 0, cl := 3, pg := [[vN (2), vN (0), vN (0), vN (0)], [vN (1), vN (0), vN (0), vN (0)], [vN (3), vN (0), vN (0), vN (0)]], st := 5, pc := 2, r0 := 10, r1 := 0, r2 := 0, r3 := 0, rd := [[vN (0), vN (0), vN (0)]], wt := [], at' := 0, sp := 0, tr := 0, rs := 0, to := 0 }, { id := 5, lb := 1, cl := 1, pg := [[vN (2), vN (0), vN (0), vN (1)], [vN (3), vN (0), vN (1), vN (0)]], st := 0, pc := 0, r0 := 0, r1 := 0, r2 := 0, r3 := 0, rd := [], wt := [], at' := 0, sp := 0, tr := 0, rs := 0, to := 0 }] (0) ∧ K (B true) else bif Int.tmod (IntKind.wrap IntKind.u64 w) (6) == 3 then noAt (has1 (3)) { w0 := [[vN (5), vN (0), vN (0)], [vN (6), vN (0), vN (0)]], w1 := [[vN (7), vN (0), vN (0)]], w2 := [], w3 := [[vN (9), vN (0), vN (0)]], c0 := 0, c1 := 0, c2 := 0, c3 := 0, ce := 9, tr := [[vN (3), vN (0), vN (0), vN (5)]] } [{ id := 3, lb := 0, cl := 3, pg := [[vN (2), vN (0), vN (0), vN (0)], [vN (1), vN (0), vN (0), vN (0)], [vN (3), vN (0), vN (0), vN (0)]], st := 0, pc := 3, r0 := 10, r1 := 0, r2 := 0, r3 := 0, rd := [[vN (0), vN (0), vN (0)]], wt := [], at' := 0, sp := 0, tr := 0, rs := 0, to := 0 }, { id := 5, lb := 1, cl := 1, pg := [[vN (2), vN (0), vN (0), vN (1)], [vN (3), vN (0), vN (1), vN (0)]], st := 0, pc := 0, r0 := 0, r1 := 0, r2 := 0, r3 := 0, rd := [], wt := [], at' := 0, sp := 0, tr := 0, rs := 0, to := 0 }] (0) ∧ K (B true) else bif Int.tmod (IntKind.wrap IntKind.u64 w) (6) == 4 then noAt (has1 (3)) { w0 := [[vN (5), vN (0), vN (0)], [vN (6), vN (0), vN (0)]], w1 := [[vN (7), vN (0), vN (0)]], w2 := [], w3 := [[vN (9), vN (0), vN (0)]], c0 := 0, c1 := 0, c2 := 0, c3 := 0, ce := 9, tr := [[vN (3), vN (0), vN (0), vN (5)]] } [{ id := 3, lb := 0, cl := 3, pg := [[vN (2), vN (0), vN (0), vN (0)], [vN (1), vN (0), vN (0), vN (0)], [vN (3), vN (0), vN (0), vN (0)]], st := 0, pc := an (Int.fdiv w (8)) (1), r0 := 10, r1 := 0, r2 := 0, r3 := 0, rd := [[vN (0), vN (0), vN (0)]], wt := [], at' := 0, sp := 0, tr := 0, rs := 0, to := 0 }, { id := 5, lb := 1, cl := 1, pg := [[vN (2), vN (0), vN (0), vN (1)], [vN (3), vN (0), vN (1), vN (0)]], st := 0, pc := 0, r0 := 0, r1 := 0, r2 := 0, r3 := 0, rd := [], wt := [], at' := 0, sp := 0, tr := 0, rs := 0, to := 0 }] (0) ∧ K (B true) else noAt (has1 (3)) { w0 := [[vN (5), vN (0), vN (0)], [vN (6), vN (0), vN (0)]], w1 := [[vN (7), vN (0), vN (0)]], w2 := [], w3 := [[vN (9), vN (0), vN (0)]], c0 := 0, c1 := 0, c2 := 0, c3 := 0, ce := 9, tr := [[vN (3), vN (0), vN (0), vN (5)]] } [{ id := 3, lb := 0, cl := 3, pg := [[vN (2), vN (0), vN (0), vN (0)], [vN (1), vN (0), vN (0), vN (0)], [vN (3), vN (0), vN (0), vN (0)]], st := 3, pc := 2, r0 := 10, r1 := 0, r2 := 0, r3 := 0, rd := [[vN (0), vN (0), vN (0)]], wt := [], at' := 0, sp := 0, tr := 0, rs := 0, to := 0 }, { id := 5, lb := 1, cl := 1, pg := [[vN (2), vN (0), vN (0), vN (1)], [vN (3), vN (0), vN (1), vN (0)]], st := 0, pc := 0, r0 := 0, r1 := 0, r2 := 0, r3 := 0, rd := [], wt := [], at' := 0, sp := 0, tr := 0, rs := 0, to := 0 }] (0) ∧ K (B true)) := by kernel_rfl
theorem cSF (w x : Int) : CT Tryz.prog 16 [I w, I x] (B true) := by
  refine ct_h (hkN_ok (.cons oAw16 (.cons oSM (.cons oNum .nil))) .nil (.cons iStoE_ok (.cons iStd16_2_ok .nil))) mixed hkN_loops Tryz.func16 rfl rfl rfl ?_
  rw [eSF]
  refine ⟨⟨rfl, rfl, ?_⟩⟩
  obtain ⟨d, hd, d1, d2⟩ := d1023 x
  obtain ⟨u0, u1⟩ := umod (w := w) (n := 6) (by omega)
  have hb : band (Int.fdiv w 8) 1 = 0 ∨ band (Int.fdiv w 8) 1 = 1 := by have := mask1 (Int.fdiv w 8); omega
  simp only [hd, wrap_id (x := 0 - d) (by omega) (by omega), wrap_id (x := 1 + d) (by omega) (by omega)]
  generalize Int.tmod (IntKind.wrap IntKind.u64 w) 6 = u at u0 u1 ⊢
  have hu : u = 0 ∨ u = 1 ∨ u = 2 ∨ u = 3 ∨ u = 4 ∨ u = 5 := by omega
  rcases hu with rfl | rfl | rfl | rfl | rfl | rfl <;> simp only [Int.reduceBEq, cond_true, cond_false]
  · rcases hb with e | e <;> rw [e]
    · exact ⟨noAt_i (.inl (show 0 - d < 0 by omega)), trivial⟩
    · exact ⟨noAt_i (.inr (show (2 : Int) ≤ 1 + d by omega)), trivial⟩
  · exact ⟨noAt_m (mm_ck (by simp [clkB, clk, upto_f (x := -d) (lo := 0) (hi := 65535) (by omega)])), trivial⟩
  · exact ⟨noAt_s rfl, trivial⟩
  · exact ⟨noAt_s rfl, trivial⟩
  · rcases hb with e | e <;> rw [e]
    · exact ⟨noAt_s rfl, trivial⟩
    · exact ⟨noAt_s rfl, trivial⟩
  · exact ⟨noAt_s rfl, trivial⟩
end

end Vm
