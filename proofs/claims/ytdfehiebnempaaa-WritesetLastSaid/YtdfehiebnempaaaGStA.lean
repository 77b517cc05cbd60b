/- What the functions of this text do, told by an interpreter that is proved right (YtdfehiebnempaaaGA to GD). My own work. -/
import Derived.Test.YtdfehiebnempaaaGD
import Derived.Test.YtdfehiebnempaaaGD
import Derived.Test.YtdfehiebnempaaaProg
namespace Vm
open Go Go.Proofs
set_option linter.unusedSimpArgs false
set_option linter.unusedVariables false
theorem mixed : Try.prog.follows .mixedOrders = true := by kernel_rfl
def upto (x lo hi : Int) : Bool := decide (x ≥ lo) && decide (x ≤ hi)
def clk (x : Int) : Bool := upto x 0 65535
def lab (x : Int) : Bool := upto x 0 3
def val8 (x : Int) : Bool := upto x 0 255
def idm (x : Int) : Bool := upto x 0 254
def sB (p : Int → Bool) : Spec := fun ds Q => match ds with | [.c (.v (.int .i64 x))] => Q (B (p x)) | _ => False
theorem oB {f : FuncId} {fn : Func} {p : Int → Bool} (hf : Try.prog.funcs[f]? = some fn) (hn : (fn.name == "runtime.NumGoroutine") = false) (hb : fn.body.isNone = false) (hc : ∀ x, CT Try.prog f [I x] (B (p x))) : SpecOK Try.prog f (sB p) := fun ds Q h => by
  unfold sB at h; split at h
  · exact ⟨goes_of hf hn hb, _, hc _, .inl rfl, rfl, h⟩
  · exact h.elim
theorem o_of {f : FuncId} {fn : Func} {s : Spec} (hf : Try.prog.funcs[f]? = some fn) (hn : (fn.name == "runtime.NumGoroutine") = false) (hb : fn.body.isNone = false) (hc : ∀ ds Q, s ds Q → ∃ r, CT Try.prog f ds r ∧ r.pureOwn = true ∧ r.fit32 = true ∧ Q r) : SpecOK Try.prog f s := fun ds Q h => ⟨goes_of hf hn hb, by
  obtain ⟨r, h1, h2, h3, h4⟩ := hc ds Q h
  exact ⟨r, h1, .inl h2, h3, h4⟩⟩
/-- Of plain numbers alone: then the answer may be anything. -/
theorem o_ofP {f : FuncId} {fn : Func} {s : Spec} (hf : Try.prog.funcs[f]? = some fn) (hn : (fn.name == "runtime.NumGoroutine") = false) (hb : fn.body.isNone = false) (hc : ∀ ds Q, s ds Q → ∃ r, CT Try.prog f ds r ∧ (DV.tup ds).pureOwn = true ∧ r.fit32 = true ∧ Q r) : SpecOK Try.prog f s := fun ds Q h => ⟨goes_of hf hn hb, by
  obtain ⟨r, h1, h2, h3, h4⟩ := hc ds Q h
  exact ⟨r, h1, .inr h2, h3, h4⟩⟩
def sI : Spec := fun ds Q => match ds with | [.c (.v (.int .i64 x))] => Q (I x) | _ => False
theorem oNum : SpecOK Try.prog 27 sI := o_of Try.func27 (by kernel_rfl) rfl fun ds Q h => by
  unfold sI at h; split at h
  · refine ⟨_, ct_ask .nil mixed Try.func27 rfl rfl rfl ?_, rfl, rfl, h⟩
    have e : ∀ x, ask Try.prog [] Try.f27 [I x] (fun r => r = I x) = (I x = I x) := fun x => by kernel_rfl
    rw [e]
  · exact h.elim
/-! ### bounds -/
theorem eIn (x m : Int) (K : DV → Prop) : (ask Try.prog [] Try.f93 [I x, I m] K) = (bif decide (x ≥ 0) then K (DV.c (D.v (Value.bool (decide (x ≤ m))))) else K (DV.c (D.v (Value.bool false)))) := by kernel_rfl
def sIn : Spec := fun ds Q => match ds with | [.c (.v (.int .i64 x)), .c (.v (.int .i64 m))] => Q (B (upto x 0 m)) | _ => False
theorem oIn : SpecOK Try.prog 93 sIn := o_of Try.func93 (by kernel_rfl) rfl fun ds Q h => by
  unfold sIn at h; split at h
  · refine ⟨_, ct_ask .nil mixed Try.func93 rfl rfl rfl ?_, rfl, rfl, h⟩
    rw [eIn]; rename_i x m; unfold upto; cases decide (x ≥ 0) <;> rfl
  · exact h.elim
theorem eUp (x l m : Int) (K : DV → Prop) : (ask Try.prog [] Try.f91 [I x, I l, I m] K) = (bif decide (x ≥ l) then K (DV.c (D.v (Value.bool (decide (x ≤ m))))) else K (DV.c (D.v (Value.bool false)))) := by kernel_rfl
def sUp : Spec := fun ds Q => match ds with | [.c (.v (.int .i64 x)), .c (.v (.int .i64 l)), .c (.v (.int .i64 m))] => Q (B (upto x l m)) | _ => False
theorem oUp : SpecOK Try.prog 91 sUp := o_of Try.func91 (by kernel_rfl) rfl fun ds Q h => by
  unfold sUp at h; split at h
  · refine ⟨_, ct_ask .nil mixed Try.func91 rfl rfl rfl ?_, rfl, rfl, h⟩
    rw [eUp]; rename_i x l m; unfold upto; cases decide (x ≥ l) <;> rfl
  · exact h.elim
theorem oVal : SpecOK Try.prog 90 (sB val8) := oB Try.func90 (by kernel_rfl) rfl fun x => ct_ask (.cons oIn .nil) mixed Try.func90 rfl rfl rfl (by
  have e : ask Try.prog [(93, sIn)] Try.f90 [I x] (fun r => r = B (val8 x)) = (B (val8 x) = B (val8 x)) := by kernel_rfl
  rw [e])
theorem oRVal : SpecOK Try.prog 58 (sB val8) := oB Try.func58 (by kernel_rfl) rfl fun x => ct_ask (.cons oUp .nil) mixed Try.func58 rfl rfl rfl (by
  have e : ask Try.prog [(91, sUp)] Try.f58 [I x] (fun r => r = B (val8 x)) = (B (val8 x) = B (val8 x)) := by kernel_rfl
  rw [e])
theorem oRLab : SpecOK Try.prog 92 (sB lab) := oB Try.func92 (by kernel_rfl) rfl fun x => ct_ask (.cons oUp .nil) mixed Try.func92 rfl rfl rfl (by
  have e : ask Try.prog [(91, sUp)] Try.f92 [I x] (fun r => r = B (lab x)) = (B (lab x) = B (lab x)) := by kernel_rfl
  rw [e])
theorem eLab (x : Int) (K : DV → Prop) : (ask Try.prog [] Try.f77 [I x] K) = (bif decide (x ≥ 0) then K (DV.c (D.v (Value.bool (decide (x < 4))))) else K (DV.c (D.v (Value.bool false)))) := by kernel_rfl
theorem lt4 (x : Int) : decide (x < 4) = decide (x ≤ 3) := by congr 1; exact propext ⟨fun h => by omega, fun h => by omega⟩
theorem oLab : SpecOK Try.prog 77 (sB lab) := oB Try.func77 (by kernel_rfl) rfl fun x => ct_ask .nil mixed Try.func77 rfl rfl rfl (by
  rw [eLab]; unfold lab upto; rw [lt4]; cases decide (x ≥ 0) <;> rfl)
theorem lab_cases {l : Int} (h : lab l = true) : l = 0 ∨ l = 1 ∨ l = 2 ∨ l = 3 := by unfold lab upto at h; simp at h; omega
theorem lab0 : lab 0 = true := rfl
theorem lab1 : lab 1 = true := rfl
theorem lab2 : lab 2 = true := rfl
theorem lab3 : lab 3 = true := rfl
end Vm
