/- What the functions of this text do, told by an interpreter that is proved right (YtdfehiebnempaaaVA to VD). My own work. -/
import Derived.Test.YtdfehiebnempaaaVRdK
namespace Vm
open Go Go.Proofs
set_option linter.unusedSimpArgs false
set_option linter.unusedVariables false
set_option maxRecDepth 100000

theorem eT_12t (an : Int → Int → Int) (R : List (List D)) (sp : List (List D)) (at' : Int) (id : Int) (K : DV → Prop) : (askKm an [(67, 12), (83, 0), (93, 0)] [(21, sNewB), (35, sGdC), (37, sCvC), (27, sI), (44, sT)] [(7, sTl R sp at' id true)] Try.f12 [dS 1 R sp, I at', I id, B true] K) = (sfT R sp at' id true [] (fun x => false) (0) = sfT R sp at' id true [] (fun x => false) (0) ∧ ∀ (l : List (List Int)) (f : Nat → Bool) (i : Int), InvT l f → an at' (15) = 12 ∧ bif decide (0 + List.length l ≤ List.length (mZ l)) then bif okZ (3) (cut (mZ l) (0) (List.length l)) then ∀ (g : Bool) (e : Int), gdR (rowT 12 0 0 0) (rowT 12 0 0 4) (rowT 12 0 0 8) (rowT 12 0 0 12) (toZ (cut (mZ l) (0) (List.length l))) (an id (127)) g e → an (12) (3) = 0 ∧ bif decide (0 + List.length l ≤ List.length (mZ l)) then bif okZ (3) (cut (mZ l) (0) (List.length l)) then ∀ (g_1 : Bool) (e_1 : Int), gdR (rowT 12 0 (IntKind.wrap IntKind.i64 (an id (127) + 2)) 0) (rowT 12 0 (IntKind.wrap IntKind.i64 (an id (127) + 2)) 4) (rowT 12 0 (IntKind.wrap IntKind.i64 (an id (127) + 2)) 8) (rowT 12 0 (IntKind.wrap IntKind.i64 (an id (127) + 2)) 12) (toZ (cut (mZ l) (0) (List.length l))) (an id (127)) g_1 e_1 → bif decide (0 + List.length l ≤ List.length (mZ l)) then bif okZ (3) (cut (mZ l) (0) (List.length l)) then ∀ (g_2 : Bool) (e_2 : Int), gdR (rowT 12 0 (IntKind.wrap IntKind.i64 (an id (127) + 2)) 0) (rowT 12 0 (IntKind.wrap IntKind.i64 (an id (127) + 2)) 4) (rowT 12 0 (IntKind.wrap IntKind.i64 (an id (127) + 2)) 8) (rowT 12 0 (IntKind.wrap IntKind.i64 (an id (127) + 2)) 12) (toZ (cut (mZ l) (0) (List.length l))) (IntKind.wrap IntKind.i64 (an id (127) + 1)) g_2 e_2 → bif decide (0 + List.length l ≤ List.length (mZ l)) then bif okZ (3) (cut (mZ l) (0) (List.length l)) then ∀ (g_3 : Bool) (e_3 : Int), cvR (rowT 12 0 (IntKind.wrap IntKind.i64 (an id (127) + 2)) 0) (rowT 12 0 (IntKind.wrap IntKind.i64 (an id (127) + 2)) 4) (rowT 12 0 (IntKind.wrap IntKind.i64 (an id (127) + 2)) 8) (rowT 12 0 (IntKind.wrap IntKind.i64 (an id (127) + 2)) 12) (toZ (cut (mZ l) (0) (List.length l))) g_3 e_3 → bif g then bif e == 0 then bif g_1 == !f (12) then bif e_1 == 0 then bif !f (12) then bif g_2 == true then bif e_2 == 0 then bif f (12) then bif g_3 == false then K (DV.c (D.v (Value.bool (e_3 == 0)))) else K (DV.c (D.v (Value.bool false))) else bif g_3 == false then K (DV.c (D.v (Value.bool (e_3 == 0)))) else K (DV.c (D.v (Value.bool false))) else K (DV.c (D.v (Value.bool false))) else K (DV.c (D.v (Value.bool false))) else bif g_2 == true then bif e_2 == 0 then bif f (12) then bif g_3 == false then K (DV.c (D.v (Value.bool (e_3 == 0)))) else K (DV.c (D.v (Value.bool false))) else bif g_3 == false then K (DV.c (D.v (Value.bool (e_3 == 0)))) else K (DV.c (D.v (Value.bool false))) else K (DV.c (D.v (Value.bool false))) else K (DV.c (D.v (Value.bool false))) else K (DV.c (D.v (Value.bool false))) else K (DV.c (D.v (Value.bool false))) else K (DV.c (D.v (Value.bool false))) else K (DV.c (D.v (Value.bool false))) else False else False else False else False else False else False else False else False) := by kernel_rfl
theorem c12_12t {R : List (List D)} (sp : List (List D)) (at' id : Int) (hR : okZ 1 R = true) (hk : band at' 15 = 12) : CT Try.prog 12 [dS 1 R sp, I at', I id, B true] (B true) := by
  have hH : CallsOK Try.prog (gKm band [(67, 12), (83, 0), (93, 0)] [(21, sNewB), (35, sGdC), (37, sCvC), (27, sI), (44, sT)] [(7, sTl R sp at' id true)]) := gKm_ok _ (.cons oRNewB (.cons oGoC (.cons oChC (.cons oNum (.cons oAw9 .nil)))))
  have hL : LoopsOK Try.prog (gKm band [(67, 12), (83, 0), (93, 0)] [(21, sNewB), (35, sGdC), (37, sCvC), (27, sI), (44, sT)] [(7, sTl R sp at' id true)]) (bodyOf Try.f12) := loops1 (l := []) (k := 7) (s := sTl R sp at' id true) rfl (by kernel_rfl) (okT hR)
  refine ct_of_evp hH mixed 200 Try.func12 rfl hL (Nat.le_of_ble_eq_true rfl) rfl ?_
  show askKm band _ _ _ Try.f12 _ _
  rw [eT_12t]
  refine ⟨by trivial, fun l f i hv => ⟨hk, ?_⟩⟩
  have h16 := rmay16 hv.inv.may
  have o1 : okZ 3 (mZ l) = true := okZ_mZ hv.inv.wid (by omega)
  have hme : 0 ≤ band id 127 ∧ band id 127 ≤ 127 := by rw [mask7]; omega
  generalize band id 127 = me at *
  have w1 : IntKind.wrap .i64 (me + 1) = me + 1 := wrap_id (by omega) (by omega)
  have w2 : IntKind.wrap .i64 (me + 2) = me + 2 := wrap_id (by omega) (by omega)
  have w3 : IntKind.wrap .i64 (me + 1 + 1) = me + 2 := by rw [wrap_id (by omega) (by omega)]; omega
  have hb3 : band 12 3 = 0 := by rw [mask2]; rfl
  have d1 : idm me = true := by unfold idm upto; simp; omega
  have d2 : idm (me + 1) = true := by unfold idm upto; simp; omega
  have u0 : upto 0 0 255 = true := rfl
  have u1 : upto (me + 2) 0 255 = true := by unfold upto; simp; omega
  have k0 : clk 0 = true := rfl
  have k3 : clk 3 = true := rfl
  simp only [Nat.zero_add, mZ_len, Nat.le_refl, decide_true, cond_true, cutm, o1, toZ_mZ, w1, w2, hb3, true_and]
  intro g e h1
  have h1 : gdR (rowT 12 0 0 0) (rowT 12 0 0 4) (rowT 12 0 0 8) (rowT 12 0 0 12) l me g e := h1
  obtain ⟨p1, p2⟩ := gd_T hv (k := 12) (by omega) (x := 0) (y := 0) k0 u0 d1
  obtain ⟨rfl, rfl⟩ := h1
  rw [p1, p2]
  intro g e h1
  have h1 : gdR (rowT 12 0 (me + 2) 0) (rowT 12 0 (me + 2) 4) (rowT 12 0 (me + 2) 8) (rowT 12 0 (me + 2) 12) l me g e := h1
  obtain ⟨p3, p4⟩ := gd_T hv (k := 12) (by omega) (x := 0) (y := me + 2) k0 u1 d1
  obtain ⟨rfl, rfl⟩ := h1
  rw [p3, p4]
  intro g e h1
  have h1 : gdR (rowT 12 0 (me + 2) 0) (rowT 12 0 (me + 2) 4) (rowT 12 0 (me + 2) 8) (rowT 12 0 (me + 2) 12) l (me + 1) g e := h1
  obtain ⟨p5, p6⟩ := gd_T hv (k := 12) (by omega) (x := 0) (y := me + 2) k0 u1 d2
  obtain ⟨rfl, rfl⟩ := h1
  rw [p5, p6]
  intro g e h1
  have h1 : cvR (rowT 12 0 (me + 2) 0) (rowT 12 0 (me + 2) 4) (rowT 12 0 (me + 2) 8) (rowT 12 0 (me + 2) 12) l g e := h1
  have p7 := cv_T hv (k := 12) (by omega) (x := 0) (y := me + 2) k0 u1
  have p8 := gets_T hv (k := 12) (x := 0) (y := me + 2) k0 u1
  obtain ⟨rfl, rfl⟩ := h1
  rw [p7, p8]
  have n1 : (me + 2 != 0) = true := by
    have : me + 2 ≠ 0 := by omega
    simpa using this
  have n2 : (me + 2 != me + 1) = true := by simp
  have n3 : ((3 : Int) != 0) = true := rfl
  simp only [w1, w3, n1, n2, n3, pe9]
  cases f 12 <;> simp
theorem eT_13t (an : Int → Int → Int) (R : List (List D)) (sp : List (List D)) (at' : Int) (id : Int) (K : DV → Prop) : (askKm an [(67, 13), (83, 1), (93, 1)] [(21, sNewB), (35, sGdC), (37, sCvC), (27, sI), (44, sT)] [(7, sTl R sp at' id true)] Try.f12 [dS 1 R sp, I at', I id, B true] K) = (sfT R sp at' id true [] (fun x => false) (0) = sfT R sp at' id true [] (fun x => false) (0) ∧ ∀ (l : List (List Int)) (f : Nat → Bool) (i : Int), InvT l f → an at' (15) = 13 ∧ bif decide (0 + List.length l ≤ List.length (mZ l)) then bif okZ (3) (cut (mZ l) (0) (List.length l)) then ∀ (g : Bool) (e : Int), gdR (rowT 13 0 0 0) (rowT 13 0 0 4) (rowT 13 0 0 8) (rowT 13 0 0 12) (toZ (cut (mZ l) (0) (List.length l))) (an id (127)) g e → an (13) (3) = 1 ∧ bif decide (0 + List.length l ≤ List.length (mZ l)) then bif okZ (3) (cut (mZ l) (0) (List.length l)) then ∀ (g_1 : Bool) (e_1 : Int), gdR (rowT 13 0 (IntKind.wrap IntKind.i64 (an id (127) + 2)) 0) (rowT 13 0 (IntKind.wrap IntKind.i64 (an id (127) + 2)) 4) (rowT 13 0 (IntKind.wrap IntKind.i64 (an id (127) + 2)) 8) (rowT 13 0 (IntKind.wrap IntKind.i64 (an id (127) + 2)) 12) (toZ (cut (mZ l) (0) (List.length l))) (an id (127)) g_1 e_1 → bif decide (0 + List.length l ≤ List.length (mZ l)) then bif okZ (3) (cut (mZ l) (0) (List.length l)) then ∀ (g_2 : Bool) (e_2 : Int), gdR (rowT 13 0 (IntKind.wrap IntKind.i64 (an id (127) + 2)) 0) (rowT 13 0 (IntKind.wrap IntKind.i64 (an id (127) + 2)) 4) (rowT 13 0 (IntKind.wrap IntKind.i64 (an id (127) + 2)) 8) (rowT 13 0 (IntKind.wrap IntKind.i64 (an id (127) + 2)) 12) (toZ (cut (mZ l) (0) (List.length l))) (IntKind.wrap IntKind.i64 (an id (127) + 1)) g_2 e_2 → bif decide (0 + List.length l ≤ List.length (mZ l)) then bif okZ (3) (cut (mZ l) (0) (List.length l)) then ∀ (g_3 : Bool) (e_3 : Int), cvR (rowT 13 0 (IntKind.wrap IntKind.i64 (an id (127) + 2)) 0) (rowT 13 0 (IntKind.wrap IntKind.i64 (an id (127) + 2)) 4) (rowT 13 0 (IntKind.wrap IntKind.i64 (an id (127) + 2)) 8) (rowT 13 0 (IntKind.wrap IntKind.i64 (an id (127) + 2)) 12) (toZ (cut (mZ l) (0) (List.length l))) g_3 e_3 → bif g then bif e == 0 then bif g_1 == !f (13) then bif e_1 == 0 then bif !f (13) then bif g_2 == true then bif e_2 == 0 then bif f (13) then bif g_3 == false then K (DV.c (D.v (Value.bool (e_3 == 0)))) else K (DV.c (D.v (Value.bool false))) else bif g_3 == false then K (DV.c (D.v (Value.bool (e_3 == 0)))) else K (DV.c (D.v (Value.bool false))) else K (DV.c (D.v (Value.bool false))) else K (DV.c (D.v (Value.bool false))) else bif g_2 == true then bif e_2 == 0 then bif f (13) then bif g_3 == false then K (DV.c (D.v (Value.bool (e_3 == 0)))) else K (DV.c (D.v (Value.bool false))) else bif g_3 == false then K (DV.c (D.v (Value.bool (e_3 == 0)))) else K (DV.c (D.v (Value.bool false))) else K (DV.c (D.v (Value.bool false))) else K (DV.c (D.v (Value.bool false))) else K (DV.c (D.v (Value.bool false))) else K (DV.c (D.v (Value.bool false))) else K (DV.c (D.v (Value.bool false))) else K (DV.c (D.v (Value.bool false))) else False else False else False else False else False else False else False else False) := by kernel_rfl
theorem c12_13t {R : List (List D)} (sp : List (List D)) (at' id : Int) (hR : okZ 1 R = true) (hk : band at' 15 = 13) : CT Try.prog 12 [dS 1 R sp, I at', I id, B true] (B true) := by
  have hH : CallsOK Try.prog (gKm band [(67, 13), (83, 1), (93, 1)] [(21, sNewB), (35, sGdC), (37, sCvC), (27, sI), (44, sT)] [(7, sTl R sp at' id true)]) := gKm_ok _ (.cons oRNewB (.cons oGoC (.cons oChC (.cons oNum (.cons oAw9 .nil)))))
  have hL : LoopsOK Try.prog (gKm band [(67, 13), (83, 1), (93, 1)] [(21, sNewB), (35, sGdC), (37, sCvC), (27, sI), (44, sT)] [(7, sTl R sp at' id true)]) (bodyOf Try.f12) := loops1 (l := []) (k := 7) (s := sTl R sp at' id true) rfl (by kernel_rfl) (okT hR)
  refine ct_of_evp hH mixed 200 Try.func12 rfl hL (Nat.le_of_ble_eq_true rfl) rfl ?_
  show askKm band _ _ _ Try.f12 _ _
  rw [eT_13t]
  refine ⟨by trivial, fun l f i hv => ⟨hk, ?_⟩⟩
  have h16 := rmay16 hv.inv.may
  have o1 : okZ 3 (mZ l) = true := okZ_mZ hv.inv.wid (by omega)
  have hme : 0 ≤ band id 127 ∧ band id 127 ≤ 127 := by rw [mask7]; omega
  generalize band id 127 = me at *
  have w1 : IntKind.wrap .i64 (me + 1) = me + 1 := wrap_id (by omega) (by omega)
  have w2 : IntKind.wrap .i64 (me + 2) = me + 2 := wrap_id (by omega) (by omega)
  have w3 : IntKind.wrap .i64 (me + 1 + 1) = me + 2 := by rw [wrap_id (by omega) (by omega)]; omega
  have hb3 : band 13 3 = 1 := by rw [mask2]; rfl
  have d1 : idm me = true := by unfold idm upto; simp; omega
  have d2 : idm (me + 1) = true := by unfold idm upto; simp; omega
  have u0 : upto 0 0 255 = true := rfl
  have u1 : upto (me + 2) 0 255 = true := by unfold upto; simp; omega
  have k0 : clk 0 = true := rfl
  have k3 : clk 3 = true := rfl
  simp only [Nat.zero_add, mZ_len, Nat.le_refl, decide_true, cond_true, cutm, o1, toZ_mZ, w1, w2, hb3, true_and]
  intro g e h1
  have h1 : gdR (rowT 13 0 0 0) (rowT 13 0 0 4) (rowT 13 0 0 8) (rowT 13 0 0 12) l me g e := h1
  obtain ⟨p1, p2⟩ := gd_T hv (k := 13) (by omega) (x := 0) (y := 0) k0 u0 d1
  obtain ⟨rfl, rfl⟩ := h1
  rw [p1, p2]
  intro g e h1
  have h1 : gdR (rowT 13 0 (me + 2) 0) (rowT 13 0 (me + 2) 4) (rowT 13 0 (me + 2) 8) (rowT 13 0 (me + 2) 12) l me g e := h1
  obtain ⟨p3, p4⟩ := gd_T hv (k := 13) (by omega) (x := 0) (y := me + 2) k0 u1 d1
  obtain ⟨rfl, rfl⟩ := h1
  rw [p3, p4]
  intro g e h1
  have h1 : gdR (rowT 13 0 (me + 2) 0) (rowT 13 0 (me + 2) 4) (rowT 13 0 (me + 2) 8) (rowT 13 0 (me + 2) 12) l (me + 1) g e := h1
  obtain ⟨p5, p6⟩ := gd_T hv (k := 13) (by omega) (x := 0) (y := me + 2) k0 u1 d2
  obtain ⟨rfl, rfl⟩ := h1
  rw [p5, p6]
  intro g e h1
  have h1 : cvR (rowT 13 0 (me + 2) 0) (rowT 13 0 (me + 2) 4) (rowT 13 0 (me + 2) 8) (rowT 13 0 (me + 2) 12) l g e := h1
  have p7 := cv_T hv (k := 13) (by omega) (x := 0) (y := me + 2) k0 u1
  have p8 := gets_T hv (k := 13) (x := 0) (y := me + 2) k0 u1
  obtain ⟨rfl, rfl⟩ := h1
  rw [p7, p8]
  have n1 : (me + 2 != 0) = true := by
    have : me + 2 ≠ 0 := by omega
    simpa using this
  have n2 : (me + 2 != me + 1) = true := by simp
  have n3 : ((3 : Int) != 0) = true := rfl
  simp only [w1, w3, n1, n2, n3, pe9]
  cases f 13 <;> simp
theorem eT_14t (an : Int → Int → Int) (R : List (List D)) (sp : List (List D)) (at' : Int) (id : Int) (K : DV → Prop) : (askKm an [(67, 14), (83, 2), (93, 2)] [(21, sNewB), (35, sGdC), (37, sCvC), (27, sI), (44, sT)] [(7, sTl R sp at' id true)] Try.f12 [dS 1 R sp, I at', I id, B true] K) = (sfT R sp at' id true [] (fun x => false) (0) = sfT R sp at' id true [] (fun x => false) (0) ∧ ∀ (l : List (List Int)) (f : Nat → Bool) (i : Int), InvT l f → an at' (15) = 14 ∧ bif decide (0 + List.length l ≤ List.length (mZ l)) then bif okZ (3) (cut (mZ l) (0) (List.length l)) then ∀ (g : Bool) (e : Int), gdR (rowT 14 0 0 0) (rowT 14 0 0 4) (rowT 14 0 0 8) (rowT 14 0 0 12) (toZ (cut (mZ l) (0) (List.length l))) (an id (127)) g e → an (14) (3) = 2 ∧ bif decide (0 + List.length l ≤ List.length (mZ l)) then bif okZ (3) (cut (mZ l) (0) (List.length l)) then ∀ (g_1 : Bool) (e_1 : Int), gdR (rowT 14 0 (IntKind.wrap IntKind.i64 (an id (127) + 2)) 0) (rowT 14 0 (IntKind.wrap IntKind.i64 (an id (127) + 2)) 4) (rowT 14 0 (IntKind.wrap IntKind.i64 (an id (127) + 2)) 8) (rowT 14 0 (IntKind.wrap IntKind.i64 (an id (127) + 2)) 12) (toZ (cut (mZ l) (0) (List.length l))) (an id (127)) g_1 e_1 → bif decide (0 + List.length l ≤ List.length (mZ l)) then bif okZ (3) (cut (mZ l) (0) (List.length l)) then ∀ (g_2 : Bool) (e_2 : Int), gdR (rowT 14 0 (IntKind.wrap IntKind.i64 (an id (127) + 2)) 0) (rowT 14 0 (IntKind.wrap IntKind.i64 (an id (127) + 2)) 4) (rowT 14 0 (IntKind.wrap IntKind.i64 (an id (127) + 2)) 8) (rowT 14 0 (IntKind.wrap IntKind.i64 (an id (127) + 2)) 12) (toZ (cut (mZ l) (0) (List.length l))) (IntKind.wrap IntKind.i64 (an id (127) + 1)) g_2 e_2 → bif decide (0 + List.length l ≤ List.length (mZ l)) then bif okZ (3) (cut (mZ l) (0) (List.length l)) then ∀ (g_3 : Bool) (e_3 : Int), cvR (rowT 14 0 (IntKind.wrap IntKind.i64 (an id (127) + 2)) 0) (rowT 14 0 (IntKind.wrap IntKind.i64 (an id (127) + 2)) 4) (rowT 14 0 (IntKind.wrap IntKind.i64 (an id (127) + 2)) 8) (rowT 14 0 (IntKind.wrap IntKind.i64 (an id (127) + 2)) 12) (toZ (cut (mZ l) (0) (List.length l))) g_3 e_3 → bif g then bif e == 0 then bif g_1 == !f (14) then bif e_1 == 0 then bif !f (14) then bif g_2 == true then bif e_2 == 0 then bif f (14) then bif g_3 == false then K (DV.c (D.v (Value.bool (e_3 == 0)))) else K (DV.c (D.v (Value.bool false))) else bif g_3 == false then K (DV.c (D.v (Value.bool (e_3 == 0)))) else K (DV.c (D.v (Value.bool false))) else K (DV.c (D.v (Value.bool false))) else K (DV.c (D.v (Value.bool false))) else bif g_2 == true then bif e_2 == 0 then bif f (14) then bif g_3 == false then K (DV.c (D.v (Value.bool (e_3 == 0)))) else K (DV.c (D.v (Value.bool false))) else bif g_3 == false then K (DV.c (D.v (Value.bool (e_3 == 0)))) else K (DV.c (D.v (Value.bool false))) else K (DV.c (D.v (Value.bool false))) else K (DV.c (D.v (Value.bool false))) else K (DV.c (D.v (Value.bool false))) else K (DV.c (D.v (Value.bool false))) else K (DV.c (D.v (Value.bool false))) else K (DV.c (D.v (Value.bool false))) else False else False else False else False else False else False else False else False) := by kernel_rfl
theorem c12_14t {R : List (List D)} (sp : List (List D)) (at' id : Int) (hR : okZ 1 R = true) (hk : band at' 15 = 14) : CT Try.prog 12 [dS 1 R sp, I at', I id, B true] (B true) := by
  have hH : CallsOK Try.prog (gKm band [(67, 14), (83, 2), (93, 2)] [(21, sNewB), (35, sGdC), (37, sCvC), (27, sI), (44, sT)] [(7, sTl R sp at' id true)]) := gKm_ok _ (.cons oRNewB (.cons oGoC (.cons oChC (.cons oNum (.cons oAw9 .nil)))))
  have hL : LoopsOK Try.prog (gKm band [(67, 14), (83, 2), (93, 2)] [(21, sNewB), (35, sGdC), (37, sCvC), (27, sI), (44, sT)] [(7, sTl R sp at' id true)]) (bodyOf Try.f12) := loops1 (l := []) (k := 7) (s := sTl R sp at' id true) rfl (by kernel_rfl) (okT hR)
  refine ct_of_evp hH mixed 200 Try.func12 rfl hL (Nat.le_of_ble_eq_true rfl) rfl ?_
  show askKm band _ _ _ Try.f12 _ _
  rw [eT_14t]
  refine ⟨by trivial, fun l f i hv => ⟨hk, ?_⟩⟩
  have h16 := rmay16 hv.inv.may
  have o1 : okZ 3 (mZ l) = true := okZ_mZ hv.inv.wid (by omega)
  have hme : 0 ≤ band id 127 ∧ band id 127 ≤ 127 := by rw [mask7]; omega
  generalize band id 127 = me at *
  have w1 : IntKind.wrap .i64 (me + 1) = me + 1 := wrap_id (by omega) (by omega)
  have w2 : IntKind.wrap .i64 (me + 2) = me + 2 := wrap_id (by omega) (by omega)
  have w3 : IntKind.wrap .i64 (me + 1 + 1) = me + 2 := by rw [wrap_id (by omega) (by omega)]; omega
  have hb3 : band 14 3 = 2 := by rw [mask2]; rfl
  have d1 : idm me = true := by unfold idm upto; simp; omega
  have d2 : idm (me + 1) = true := by unfold idm upto; simp; omega
  have u0 : upto 0 0 255 = true := rfl
  have u1 : upto (me + 2) 0 255 = true := by unfold upto; simp; omega
  have k0 : clk 0 = true := rfl
  have k3 : clk 3 = true := rfl
  simp only [Nat.zero_add, mZ_len, Nat.le_refl, decide_true, cond_true, cutm, o1, toZ_mZ, w1, w2, hb3, true_and]
  intro g e h1
  have h1 : gdR (rowT 14 0 0 0) (rowT 14 0 0 4) (rowT 14 0 0 8) (rowT 14 0 0 12) l me g e := h1
  obtain ⟨p1, p2⟩ := gd_T hv (k := 14) (by omega) (x := 0) (y := 0) k0 u0 d1
  obtain ⟨rfl, rfl⟩ := h1
  rw [p1, p2]
  intro g e h1
  have h1 : gdR (rowT 14 0 (me + 2) 0) (rowT 14 0 (me + 2) 4) (rowT 14 0 (me + 2) 8) (rowT 14 0 (me + 2) 12) l me g e := h1
  obtain ⟨p3, p4⟩ := gd_T hv (k := 14) (by omega) (x := 0) (y := me + 2) k0 u1 d1
  obtain ⟨rfl, rfl⟩ := h1
  rw [p3, p4]
  intro g e h1
  have h1 : gdR (rowT 14 0 (me + 2) 0) (rowT 14 0 (me + 2) 4) (rowT 14 0 (me + 2) 8) (rowT 14 0 (me + 2) 12) l (me + 1) g e := h1
  obtain ⟨p5, p6⟩ := gd_T hv (k := 14) (by omega) (x := 0) (y := me + 2) k0 u1 d2
  obtain ⟨rfl, rfl⟩ := h1
  rw [p5, p6]
  intro g e h1
  have h1 : cvR (rowT 14 0 (me + 2) 0) (rowT 14 0 (me + 2) 4) (rowT 14 0 (me + 2) 8) (rowT 14 0 (me + 2) 12) l g e := h1
  have p7 := cv_T hv (k := 14) (by omega) (x := 0) (y := me + 2) k0 u1
  have p8 := gets_T hv (k := 14) (x := 0) (y := me + 2) k0 u1
  obtain ⟨rfl, rfl⟩ := h1
  rw [p7, p8]
  have n1 : (me + 2 != 0) = true := by
    have : me + 2 ≠ 0 := by omega
    simpa using this
  have n2 : (me + 2 != me + 1) = true := by simp
  have n3 : ((3 : Int) != 0) = true := rfl
  simp only [w1, w3, n1, n2, n3, pe9]
  cases f 14 <;> simp
theorem eT_15t (an : Int → Int → Int) (R : List (List D)) (sp : List (List D)) (at' : Int) (id : Int) (K : DV → Prop) : (askKm an [(67, 15), (83, 3), (93, 3)] [(21, sNewB), (35, sGdC), (37, sCvC), (27, sI), (44, sT)] [(7, sTl R sp at' id true)] Try.f12 [dS 1 R sp, I at', I id, B true] K) = (sfT R sp at' id true [] (fun x => false) (0) = sfT R sp at' id true [] (fun x => false) (0) ∧ ∀ (l : List (List Int)) (f : Nat → Bool) (i : Int), InvT l f → an at' (15) = 15 ∧ bif decide (0 + List.length l ≤ List.length (mZ l)) then bif okZ (3) (cut (mZ l) (0) (List.length l)) then ∀ (g : Bool) (e : Int), gdR (rowT 15 0 0 0) (rowT 15 0 0 4) (rowT 15 0 0 8) (rowT 15 0 0 12) (toZ (cut (mZ l) (0) (List.length l))) (an id (127)) g e → an (15) (3) = 3 ∧ bif decide (0 + List.length l ≤ List.length (mZ l)) then bif okZ (3) (cut (mZ l) (0) (List.length l)) then ∀ (g_1 : Bool) (e_1 : Int), gdR (rowT 15 0 (IntKind.wrap IntKind.i64 (an id (127) + 2)) 0) (rowT 15 0 (IntKind.wrap IntKind.i64 (an id (127) + 2)) 4) (rowT 15 0 (IntKind.wrap IntKind.i64 (an id (127) + 2)) 8) (rowT 15 0 (IntKind.wrap IntKind.i64 (an id (127) + 2)) 12) (toZ (cut (mZ l) (0) (List.length l))) (an id (127)) g_1 e_1 → bif decide (0 + List.length l ≤ List.length (mZ l)) then bif okZ (3) (cut (mZ l) (0) (List.length l)) then ∀ (g_2 : Bool) (e_2 : Int), gdR (rowT 15 0 (IntKind.wrap IntKind.i64 (an id (127) + 2)) 0) (rowT 15 0 (IntKind.wrap IntKind.i64 (an id (127) + 2)) 4) (rowT 15 0 (IntKind.wrap IntKind.i64 (an id (127) + 2)) 8) (rowT 15 0 (IntKind.wrap IntKind.i64 (an id (127) + 2)) 12) (toZ (cut (mZ l) (0) (List.length l))) (IntKind.wrap IntKind.i64 (an id (127) + 1)) g_2 e_2 → bif decide (0 + List.length l ≤ List.length (mZ l)) then bif okZ (3) (cut (mZ l) (0) (List.length l)) then ∀ (g_3 : Bool) (e_3 : Int), cvR (rowT 15 0 (IntKind.wrap IntKind.i64 (an id (127) + 2)) 0) (rowT 15 0 (IntKind.wrap IntKind.i64 (an id (127) + 2)) 4) (rowT 15 0 (IntKind.wrap IntKind.i64 (an id (127) + 2)) 8) (rowT 15 0 (IntKind.wrap IntKind.i64 (an id (127) + 2)) 12) (toZ (cut (mZ l) (0) (List.length l))) g_3 e_3 → bif g then bif e == 0 then bif g_1 == !f (15) then bif e_1 == 0 then bif !f (15) then bif g_2 == true then bif e_2 == 0 then bif f (15) then bif g_3 == false then K (DV.c (D.v (Value.bool (e_3 == 0)))) else K (DV.c (D.v (Value.bool false))) else bif g_3 == false then K (DV.c (D.v (Value.bool (e_3 == 0)))) else K (DV.c (D.v (Value.bool false))) else K (DV.c (D.v (Value.bool false))) else K (DV.c (D.v (Value.bool false))) else bif g_2 == true then bif e_2 == 0 then bif f (15) then bif g_3 == false then K (DV.c (D.v (Value.bool (e_3 == 0)))) else K (DV.c (D.v (Value.bool false))) else bif g_3 == false then K (DV.c (D.v (Value.bool (e_3 == 0)))) else K (DV.c (D.v (Value.bool false))) else K (DV.c (D.v (Value.bool false))) else K (DV.c (D.v (Value.bool false))) else K (DV.c (D.v (Value.bool false))) else K (DV.c (D.v (Value.bool false))) else K (DV.c (D.v (Value.bool false))) else K (DV.c (D.v (Value.bool false))) else False else False else False else False else False else False else False else False) := by kernel_rfl
theorem c12_15t {R : List (List D)} (sp : List (List D)) (at' id : Int) (hR : okZ 1 R = true) (hk : band at' 15 = 15) : CT Try.prog 12 [dS 1 R sp, I at', I id, B true] (B true) := by
  have hH : CallsOK Try.prog (gKm band [(67, 15), (83, 3), (93, 3)] [(21, sNewB), (35, sGdC), (37, sCvC), (27, sI), (44, sT)] [(7, sTl R sp at' id true)]) := gKm_ok _ (.cons oRNewB (.cons oGoC (.cons oChC (.cons oNum (.cons oAw9 .nil)))))
  have hL : LoopsOK Try.prog (gKm band [(67, 15), (83, 3), (93, 3)] [(21, sNewB), (35, sGdC), (37, sCvC), (27, sI), (44, sT)] [(7, sTl R sp at' id true)]) (bodyOf Try.f12) := loops1 (l := []) (k := 7) (s := sTl R sp at' id true) rfl (by kernel_rfl) (okT hR)
  refine ct_of_evp hH mixed 200 Try.func12 rfl hL (Nat.le_of_ble_eq_true rfl) rfl ?_
  show askKm band _ _ _ Try.f12 _ _
  rw [eT_15t]
  refine ⟨by trivial, fun l f i hv => ⟨hk, ?_⟩⟩
  have h16 := rmay16 hv.inv.may
  have o1 : okZ 3 (mZ l) = true := okZ_mZ hv.inv.wid (by omega)
  have hme : 0 ≤ band id 127 ∧ band id 127 ≤ 127 := by rw [mask7]; omega
  generalize band id 127 = me at *
  have w1 : IntKind.wrap .i64 (me + 1) = me + 1 := wrap_id (by omega) (by omega)
  have w2 : IntKind.wrap .i64 (me + 2) = me + 2 := wrap_id (by omega) (by omega)
  have w3 : IntKind.wrap .i64 (me + 1 + 1) = me + 2 := by rw [wrap_id (by omega) (by omega)]; omega
  have hb3 : band 15 3 = 3 := by rw [mask2]; rfl
  have d1 : idm me = true := by unfold idm upto; simp; omega
  have d2 : idm (me + 1) = true := by unfold idm upto; simp; omega
  have u0 : upto 0 0 255 = true := rfl
  have u1 : upto (me + 2) 0 255 = true := by unfold upto; simp; omega
  have k0 : clk 0 = true := rfl
  have k3 : clk 3 = true := rfl
  simp only [Nat.zero_add, mZ_len, Nat.le_refl, decide_true, cond_true, cutm, o1, toZ_mZ, w1, w2, hb3, true_and]
  intro g e h1
  have h1 : gdR (rowT 15 0 0 0) (rowT 15 0 0 4) (rowT 15 0 0 8) (rowT 15 0 0 12) l me g e := h1
  obtain ⟨p1, p2⟩ := gd_T hv (k := 15) (by omega) (x := 0) (y := 0) k0 u0 d1
  obtain ⟨rfl, rfl⟩ := h1
  rw [p1, p2]
  intro g e h1
  have h1 : gdR (rowT 15 0 (me + 2) 0) (rowT 15 0 (me + 2) 4) (rowT 15 0 (me + 2) 8) (rowT 15 0 (me + 2) 12) l me g e := h1
  obtain ⟨p3, p4⟩ := gd_T hv (k := 15) (by omega) (x := 0) (y := me + 2) k0 u1 d1
  obtain ⟨rfl, rfl⟩ := h1
  rw [p3, p4]
  intro g e h1
  have h1 : gdR (rowT 15 0 (me + 2) 0) (rowT 15 0 (me + 2) 4) (rowT 15 0 (me + 2) 8) (rowT 15 0 (me + 2) 12) l (me + 1) g e := h1
  obtain ⟨p5, p6⟩ := gd_T hv (k := 15) (by omega) (x := 0) (y := me + 2) k0 u1 d2
  obtain ⟨rfl, rfl⟩ := h1
  rw [p5, p6]
  intro g e h1
  have h1 : cvR (rowT 15 0 (me + 2) 0) (rowT 15 0 (me + 2) 4) (rowT 15 0 (me + 2) 8) (rowT 15 0 (me + 2) 12) l g e := h1
  have p7 := cv_T hv (k := 15) (by omega) (x := 0) (y := me + 2) k0 u1
  have p8 := gets_T hv (k := 15) (x := 0) (y := me + 2) k0 u1
  obtain ⟨rfl, rfl⟩ := h1
  rw [p7, p8]
  have n1 : (me + 2 != 0) = true := by
    have : me + 2 ≠ 0 := by omega
    simpa using this
  have n2 : (me + 2 != me + 1) = true := by simp
  have n3 : ((3 : Int) != 0) = true := rfl
  simp only [w1, w3, n1, n2, n3, pe9]
  cases f 15 <;> simp
end Vm