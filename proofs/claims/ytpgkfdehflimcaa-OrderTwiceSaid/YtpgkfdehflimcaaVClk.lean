/- What the functions of this text do, told by an interpreter that is proved right (YtpgkfdehflimcaaVA to VD). My own work. -/
import Derived.Test.YtpgkfdehflimcaaVD
import Derived.Test.YtpgkfdehflimcaaProg
namespace Vm
open Go Go.Proofs
set_option linter.unusedSimpArgs false
set_option linter.unusedVariables false

/-! ### small functions -/
theorem mixed : Try.prog.follows .mixedOrders = true := by kernel_rfl
def upto (x lo hi : Int) : Bool := decide (x ≥ lo) && decide (x ≤ hi)

theorem e60 (x m : Int) (K : DV → Prop) : (ask Try.prog [] Try.f60 [I x, I m] K) = (bif decide (x ≥ 0) then K (DV.c (D.v (Value.bool (decide (x ≤ m))))) else K (DV.c (D.v (Value.bool false)))) := by kernel_rfl
theorem c60 (x m : Int) : CT Try.prog 60 [I x, I m] (B (upto x 0 m)) := ct_ask .nil mixed Try.func60 rfl rfl rfl (by rw [e60]; unfold upto; cases decide (x ≥ 0) <;> rfl)
def s60 : Spec := fun ds Q => match ds with | [.c (.v (.int .i64 x)), .c (.v (.int .i64 m))] => Q (B (upto x 0 m)) | _ => False
theorem o60 : SpecOK Try.prog 60 s60 := fun ds Q h => by
  unfold s60 at h; split at h
  · exact ⟨goes_of Try.func60 (by kernel_rfl) rfl, _, c60 _ _, rfl, rfl, h⟩
  · exact h.elim
theorem e61 (x l m : Int) (K : DV → Prop) : (ask Try.prog [] Try.f61 [I x, I l, I m] K) = (bif decide (x ≥ l) then K (DV.c (D.v (Value.bool (decide (x ≤ m))))) else K (DV.c (D.v (Value.bool false)))) := by kernel_rfl
theorem c61 (x l m : Int) : CT Try.prog 61 [I x, I l, I m] (B (upto x l m)) := ct_ask .nil mixed Try.func61 rfl rfl rfl (by rw [e61]; unfold upto; cases decide (x ≥ l) <;> rfl)
def s61 : Spec := fun ds Q => match ds with | [.c (.v (.int .i64 x)), .c (.v (.int .i64 l)), .c (.v (.int .i64 m))] => Q (B (upto x l m)) | _ => False
theorem o61 : SpecOK Try.prog 61 s61 := fun ds Q h => by
  unfold s61 at h; split at h
  · exact ⟨goes_of Try.func61 (by kernel_rfl) rfl, _, c61 _ _ _, rfl, rfl, h⟩
  · exact h.elim
def clk (x : Int) : Bool := upto x 0 65535
def lab (x : Int) : Bool := upto x 0 3
theorem c59 (x : Int) : CT Try.prog 59 [I x] (B (clk x)) := ct_ask (.cons o60 .nil) mixed Try.func59 rfl rfl rfl (by
  have e : ask Try.prog [(60, s60)] Try.f59 [I x] (fun r => r = B (clk x)) = (B (clk x) = B (clk x)) := by kernel_rfl
  rw [e])
theorem c50 (x : Int) : CT Try.prog 50 [I x] (B (clk x)) := ct_ask (.cons o61 .nil) mixed Try.func50 rfl rfl rfl (by
  have e : ask Try.prog [(61, s61)] Try.f50 [I x] (fun r => r = B (clk x)) = (B (clk x) = B (clk x)) := by kernel_rfl
  rw [e])
theorem c49 (x : Int) : CT Try.prog 49 [I x] (B (lab x)) := ct_ask (.cons o61 .nil) mixed Try.func49 rfl rfl rfl (by
  have e : ask Try.prog [(61, s61)] Try.f49 [I x] (fun r => r = B (lab x)) = (B (lab x) = B (lab x)) := by kernel_rfl
  rw [e])
theorem e48 (x : Int) (K : DV → Prop) : (ask Try.prog [] Try.f48 [I x] K) = (bif decide (x ≥ 0) then K (DV.c (D.v (Value.bool (decide (x < 4))))) else K (DV.c (D.v (Value.bool false)))) := by kernel_rfl
theorem c48 (x : Int) : CT Try.prog 48 [I x] (B (lab x)) := ct_ask .nil mixed Try.func48 rfl rfl rfl (by
  rw [e48]; unfold lab upto
  have : decide (x < 4) = decide (x ≤ 3) := by congr 1; exact propext ⟨fun h => by omega, fun h => by omega⟩
  rw [this]
  cases decide (x ≥ 0) <;> rfl)
def sB (p : Int → Bool) : Spec := fun ds Q => match ds with | [.c (.v (.int .i64 x))] => Q (B (p x)) | _ => False
theorem oB {f : FuncId} {fn : Func} {p : Int → Bool} (hf : Try.prog.funcs[f]? = some fn) (hn : (fn.name == "runtime.NumGoroutine") = false) (hb : fn.body.isNone = false) (hc : ∀ x, CT Try.prog f [I x] (B (p x))) : SpecOK Try.prog f (sB p) := fun ds Q h => by
  unfold sB at h; split at h
  · exact ⟨goes_of hf hn hb, _, hc _, rfl, rfl, h⟩
  · exact h.elim
theorem o59 : SpecOK Try.prog 59 (sB clk) := oB Try.func59 (by kernel_rfl) rfl c59
theorem o50 : SpecOK Try.prog 50 (sB clk) := oB Try.func50 (by kernel_rfl) rfl c50
theorem o49 : SpecOK Try.prog 49 (sB lab) := oB Try.func49 (by kernel_rfl) rfl c49
theorem o48 : SpecOK Try.prog 48 (sB lab) := oB Try.func48 (by kernel_rfl) rfl c48
theorem c23 (x : Int) : CT Try.prog 23 [I x] (I x) := ct_ask .nil mixed Try.func23 rfl rfl rfl (by
  have e : ask Try.prog [] Try.f23 [I x] (fun r => r = I x) = (I x = I x) := by kernel_rfl
  rw [e])
def sI : Spec := fun ds Q => match ds with | [.c (.v (.int .i64 x))] => Q (I x) | _ => False
theorem o23 : SpecOK Try.prog 23 sI := fun ds Q h => by
  unfold sI at h; split at h
  · exact ⟨goes_of Try.func23 (by kernel_rfl) rfl, _, c23 _, rfl, rfl, h⟩
  · exact h.elim

/-! ### clocks -/
def may4 (a b c d m : Int) : Bool := clk a && (clk b && (clk c && (clk d && clk m)))
theorem e47 (a b c d m : Int) (K : DV → Prop) : (ask Try.prog [(59, sB clk)] Try.f47 [.c (.p 0 [vi a, vi b, vi c, vi d] 0), I m] K) = (bif !clk a then K (DV.c (D.v (Value.bool false))) else bif !clk b then K (DV.c (D.v (Value.bool false))) else bif !clk c then K (DV.c (D.v (Value.bool false))) else bif !clk d then K (DV.c (D.v (Value.bool false))) else K (DV.c (D.v (Value.bool (clk m))))) := by kernel_rfl
theorem c47 (a b c d m : Int) : CT Try.prog 47 [.c (.p 0 [vi a, vi b, vi c, vi d] 0), I m] (B (may4 a b c d m)) := ct_ask (.cons o59 .nil) mixed Try.func47 rfl rfl rfl (by
  rw [e47]; unfold may4
  cases clk a <;> cases clk b <;> cases clk c <;> cases clk d <;> rfl)
def s47 : Spec := fun ds Q => match ds with | [.c (.p 0 [.v (.int .i64 a), .v (.int .i64 b), .v (.int .i64 c), .v (.int .i64 d)] 0), .c (.v (.int .i64 m))] => Q (B (may4 a b c d m)) | _ => False
theorem o47 : SpecOK Try.prog 47 s47 := fun ds Q h => by
  unfold s47 at h; split at h
  · exact ⟨goes_of Try.func47 (by kernel_rfl) rfl, _, c47 _ _ _ _ _, rfl, rfl, h⟩
  · exact h.elim

structure N6 where (a b c d k e : Int)
def w64 (x : Int) : Int := IntKind.i64.wrap x
def nx (a b c d l m : Int) : N6 :=
  if may4 a b c d m && lab l then
    if l = 0 then (if a ≥ m then ⟨0, 0, 0, 0, 0, 501⟩ else ⟨w64 (a + 1), b, c, d, w64 (a + 1), 0⟩)
    else if l = 1 then (if b ≥ m then ⟨0, 0, 0, 0, 0, 501⟩ else ⟨a, w64 (b + 1), c, d, w64 (b + 1), 0⟩)
    else if l = 2 then (if c ≥ m then ⟨0, 0, 0, 0, 0, 501⟩ else ⟨a, b, w64 (c + 1), d, w64 (c + 1), 0⟩)
    else (if d ≥ m then ⟨0, 0, 0, 0, 0, 501⟩ else ⟨a, b, c, w64 (d + 1), w64 (d + 1), 0⟩)
  else ⟨0, 0, 0, 0, 0, 500⟩
abbrev N6.dv (n : N6) : DV := .tup [.agg [vi n.a, vi n.b, vi n.c, vi n.d], I n.k, I n.e]
/-- 'label.May' where it says no. -/
def sNo : Spec := fun ds Q => match ds with | [.c (.v (.int .i64 x))] => lab x = false ∧ Q (B false) | _ => False
theorem oNo {f : FuncId} (h : SpecOK Try.prog f (sB lab)) : SpecOK Try.prog f sNo := fun ds Q hq => by
  unfold sNo at hq; split at hq
  · obtain ⟨h1, h2⟩ := hq
    refine h _ Q ?_
    simp only [sB, h1]; exact h2
  · exact hq.elim
theorem e21n (a b c d l m : Int) (K : DV → Prop) : (ask Try.prog [(47, s47), (48, sNo)] Try.f21 [.agg [vi a, vi b, vi c, vi d], I l, I m] K) = (bif !may4 a b c d m then K (DV.tup [DV.agg [D.v (Value.int IntKind.i64 (0)), D.v (Value.int IntKind.i64 (0)), D.v (Value.int IntKind.i64 (0)), D.v (Value.int IntKind.i64 (0))], DV.c (D.v (Value.int IntKind.i64 (0))), DV.c (D.v (Value.int IntKind.i64 (500)))]) else lab l = false ∧ K (DV.tup [DV.agg [D.v (Value.int IntKind.i64 (0)), D.v (Value.int IntKind.i64 (0)), D.v (Value.int IntKind.i64 (0)), D.v (Value.int IntKind.i64 (0))], DV.c (D.v (Value.int IntKind.i64 (0))), DV.c (D.v (Value.int IntKind.i64 (500)))])) := by kernel_rfl
theorem e21a (a b c d m : Int) (K : DV → Prop) : (ask Try.prog [(47, s47), (48, sB lab)] Try.f21 [.agg [vi a, vi b, vi c, vi d], I 0, I m] K) = (bif !may4 a b c d m then K (DV.tup [DV.agg [D.v (Value.int IntKind.i64 (0)), D.v (Value.int IntKind.i64 (0)), D.v (Value.int IntKind.i64 (0)), D.v (Value.int IntKind.i64 (0))], DV.c (D.v (Value.int IntKind.i64 (0))), DV.c (D.v (Value.int IntKind.i64 (500)))]) else bif decide (a ≥ m) then K (DV.tup [DV.agg [D.v (Value.int IntKind.i64 (0)), D.v (Value.int IntKind.i64 (0)), D.v (Value.int IntKind.i64 (0)), D.v (Value.int IntKind.i64 (0))], DV.c (D.v (Value.int IntKind.i64 (0))), DV.c (D.v (Value.int IntKind.i64 (501)))]) else K (DV.tup [DV.agg [D.v (Value.int IntKind.i64 (IntKind.wrap IntKind.i64 (a + 1))), D.v (Value.int IntKind.i64 b), D.v (Value.int IntKind.i64 c), D.v (Value.int IntKind.i64 d)], DV.c (D.v (Value.int IntKind.i64 (IntKind.wrap IntKind.i64 (a + 1)))), DV.c (D.v (Value.int IntKind.i64 (0)))])) := by kernel_rfl
theorem e21b (a b c d m : Int) (K : DV → Prop) : (ask Try.prog [(47, s47), (48, sB lab)] Try.f21 [.agg [vi a, vi b, vi c, vi d], I 1, I m] K) = (bif !may4 a b c d m then K (DV.tup [DV.agg [D.v (Value.int IntKind.i64 (0)), D.v (Value.int IntKind.i64 (0)), D.v (Value.int IntKind.i64 (0)), D.v (Value.int IntKind.i64 (0))], DV.c (D.v (Value.int IntKind.i64 (0))), DV.c (D.v (Value.int IntKind.i64 (500)))]) else bif decide (b ≥ m) then K (DV.tup [DV.agg [D.v (Value.int IntKind.i64 (0)), D.v (Value.int IntKind.i64 (0)), D.v (Value.int IntKind.i64 (0)), D.v (Value.int IntKind.i64 (0))], DV.c (D.v (Value.int IntKind.i64 (0))), DV.c (D.v (Value.int IntKind.i64 (501)))]) else K (DV.tup [DV.agg [D.v (Value.int IntKind.i64 a), D.v (Value.int IntKind.i64 (IntKind.wrap IntKind.i64 (b + 1))), D.v (Value.int IntKind.i64 c), D.v (Value.int IntKind.i64 d)], DV.c (D.v (Value.int IntKind.i64 (IntKind.wrap IntKind.i64 (b + 1)))), DV.c (D.v (Value.int IntKind.i64 (0)))])) := by kernel_rfl
theorem e21c (a b c d m : Int) (K : DV → Prop) : (ask Try.prog [(47, s47), (48, sB lab)] Try.f21 [.agg [vi a, vi b, vi c, vi d], I 2, I m] K) = (bif !may4 a b c d m then K (DV.tup [DV.agg [D.v (Value.int IntKind.i64 (0)), D.v (Value.int IntKind.i64 (0)), D.v (Value.int IntKind.i64 (0)), D.v (Value.int IntKind.i64 (0))], DV.c (D.v (Value.int IntKind.i64 (0))), DV.c (D.v (Value.int IntKind.i64 (500)))]) else bif decide (c ≥ m) then K (DV.tup [DV.agg [D.v (Value.int IntKind.i64 (0)), D.v (Value.int IntKind.i64 (0)), D.v (Value.int IntKind.i64 (0)), D.v (Value.int IntKind.i64 (0))], DV.c (D.v (Value.int IntKind.i64 (0))), DV.c (D.v (Value.int IntKind.i64 (501)))]) else K (DV.tup [DV.agg [D.v (Value.int IntKind.i64 a), D.v (Value.int IntKind.i64 b), D.v (Value.int IntKind.i64 (IntKind.wrap IntKind.i64 (c + 1))), D.v (Value.int IntKind.i64 d)], DV.c (D.v (Value.int IntKind.i64 (IntKind.wrap IntKind.i64 (c + 1)))), DV.c (D.v (Value.int IntKind.i64 (0)))])) := by kernel_rfl
theorem e21d (a b c d m : Int) (K : DV → Prop) : (ask Try.prog [(47, s47), (48, sB lab)] Try.f21 [.agg [vi a, vi b, vi c, vi d], I 3, I m] K) = (bif !may4 a b c d m then K (DV.tup [DV.agg [D.v (Value.int IntKind.i64 (0)), D.v (Value.int IntKind.i64 (0)), D.v (Value.int IntKind.i64 (0)), D.v (Value.int IntKind.i64 (0))], DV.c (D.v (Value.int IntKind.i64 (0))), DV.c (D.v (Value.int IntKind.i64 (500)))]) else bif decide (d ≥ m) then K (DV.tup [DV.agg [D.v (Value.int IntKind.i64 (0)), D.v (Value.int IntKind.i64 (0)), D.v (Value.int IntKind.i64 (0)), D.v (Value.int IntKind.i64 (0))], DV.c (D.v (Value.int IntKind.i64 (0))), DV.c (D.v (Value.int IntKind.i64 (501)))]) else K (DV.tup [DV.agg [D.v (Value.int IntKind.i64 a), D.v (Value.int IntKind.i64 b), D.v (Value.int IntKind.i64 c), D.v (Value.int IntKind.i64 (IntKind.wrap IntKind.i64 (d + 1)))], DV.c (D.v (Value.int IntKind.i64 (IntKind.wrap IntKind.i64 (d + 1)))), DV.c (D.v (Value.int IntKind.i64 (0)))])) := by kernel_rfl
theorem e22n (a b c d l m : Int) (K : DV → Prop) : (ask Try.prog [(49, sNo), (50, sB clk)] Try.f22 [.agg [vi a, vi b, vi c, vi d], I l, I m] K) = (lab l = false ∧ K (DV.tup [DV.agg [D.v (Value.int IntKind.i64 (0)), D.v (Value.int IntKind.i64 (0)), D.v (Value.int IntKind.i64 (0)), D.v (Value.int IntKind.i64 (0))], DV.c (D.v (Value.int IntKind.i64 (0))), DV.c (D.v (Value.int IntKind.i64 (500)))])) := by kernel_rfl
theorem e22a (a b c d m : Int) (K : DV → Prop) : (ask Try.prog [(49, sB lab), (50, sB clk)] Try.f22 [.agg [vi a, vi b, vi c, vi d], I 0, I m] K) = (bif clk m then bif clk a then bif clk b then bif clk c then bif !clk d then K (DV.tup [DV.agg [D.v (Value.int IntKind.i64 (0)), D.v (Value.int IntKind.i64 (0)), D.v (Value.int IntKind.i64 (0)), D.v (Value.int IntKind.i64 (0))], DV.c (D.v (Value.int IntKind.i64 (0))), DV.c (D.v (Value.int IntKind.i64 (500)))]) else bif decide (a ≥ m) then K (DV.tup [DV.agg [D.v (Value.int IntKind.i64 (0)), D.v (Value.int IntKind.i64 (0)), D.v (Value.int IntKind.i64 (0)), D.v (Value.int IntKind.i64 (0))], DV.c (D.v (Value.int IntKind.i64 (0))), DV.c (D.v (Value.int IntKind.i64 (501)))]) else K (DV.tup [DV.agg [D.v (Value.int IntKind.i64 (IntKind.wrap IntKind.i64 (a + 1))), D.v (Value.int IntKind.i64 b), D.v (Value.int IntKind.i64 c), D.v (Value.int IntKind.i64 d)], DV.c (D.v (Value.int IntKind.i64 (IntKind.wrap IntKind.i64 (a + 1)))), DV.c (D.v (Value.int IntKind.i64 (0)))]) else K (DV.tup [DV.agg [D.v (Value.int IntKind.i64 (0)), D.v (Value.int IntKind.i64 (0)), D.v (Value.int IntKind.i64 (0)), D.v (Value.int IntKind.i64 (0))], DV.c (D.v (Value.int IntKind.i64 (0))), DV.c (D.v (Value.int IntKind.i64 (500)))]) else K (DV.tup [DV.agg [D.v (Value.int IntKind.i64 (0)), D.v (Value.int IntKind.i64 (0)), D.v (Value.int IntKind.i64 (0)), D.v (Value.int IntKind.i64 (0))], DV.c (D.v (Value.int IntKind.i64 (0))), DV.c (D.v (Value.int IntKind.i64 (500)))]) else K (DV.tup [DV.agg [D.v (Value.int IntKind.i64 (0)), D.v (Value.int IntKind.i64 (0)), D.v (Value.int IntKind.i64 (0)), D.v (Value.int IntKind.i64 (0))], DV.c (D.v (Value.int IntKind.i64 (0))), DV.c (D.v (Value.int IntKind.i64 (500)))]) else K (DV.tup [DV.agg [D.v (Value.int IntKind.i64 (0)), D.v (Value.int IntKind.i64 (0)), D.v (Value.int IntKind.i64 (0)), D.v (Value.int IntKind.i64 (0))], DV.c (D.v (Value.int IntKind.i64 (0))), DV.c (D.v (Value.int IntKind.i64 (500)))])) := by kernel_rfl
theorem e22b (a b c d m : Int) (K : DV → Prop) : (ask Try.prog [(49, sB lab), (50, sB clk)] Try.f22 [.agg [vi a, vi b, vi c, vi d], I 1, I m] K) = (bif clk m then bif clk a then bif clk b then bif clk c then bif !clk d then K (DV.tup [DV.agg [D.v (Value.int IntKind.i64 (0)), D.v (Value.int IntKind.i64 (0)), D.v (Value.int IntKind.i64 (0)), D.v (Value.int IntKind.i64 (0))], DV.c (D.v (Value.int IntKind.i64 (0))), DV.c (D.v (Value.int IntKind.i64 (500)))]) else bif decide (b ≥ m) then K (DV.tup [DV.agg [D.v (Value.int IntKind.i64 (0)), D.v (Value.int IntKind.i64 (0)), D.v (Value.int IntKind.i64 (0)), D.v (Value.int IntKind.i64 (0))], DV.c (D.v (Value.int IntKind.i64 (0))), DV.c (D.v (Value.int IntKind.i64 (501)))]) else K (DV.tup [DV.agg [D.v (Value.int IntKind.i64 a), D.v (Value.int IntKind.i64 (IntKind.wrap IntKind.i64 (b + 1))), D.v (Value.int IntKind.i64 c), D.v (Value.int IntKind.i64 d)], DV.c (D.v (Value.int IntKind.i64 (IntKind.wrap IntKind.i64 (b + 1)))), DV.c (D.v (Value.int IntKind.i64 (0)))]) else K (DV.tup [DV.agg [D.v (Value.int IntKind.i64 (0)), D.v (Value.int IntKind.i64 (0)), D.v (Value.int IntKind.i64 (0)), D.v (Value.int IntKind.i64 (0))], DV.c (D.v (Value.int IntKind.i64 (0))), DV.c (D.v (Value.int IntKind.i64 (500)))]) else K (DV.tup [DV.agg [D.v (Value.int IntKind.i64 (0)), D.v (Value.int IntKind.i64 (0)), D.v (Value.int IntKind.i64 (0)), D.v (Value.int IntKind.i64 (0))], DV.c (D.v (Value.int IntKind.i64 (0))), DV.c (D.v (Value.int IntKind.i64 (500)))]) else K (DV.tup [DV.agg [D.v (Value.int IntKind.i64 (0)), D.v (Value.int IntKind.i64 (0)), D.v (Value.int IntKind.i64 (0)), D.v (Value.int IntKind.i64 (0))], DV.c (D.v (Value.int IntKind.i64 (0))), DV.c (D.v (Value.int IntKind.i64 (500)))]) else K (DV.tup [DV.agg [D.v (Value.int IntKind.i64 (0)), D.v (Value.int IntKind.i64 (0)), D.v (Value.int IntKind.i64 (0)), D.v (Value.int IntKind.i64 (0))], DV.c (D.v (Value.int IntKind.i64 (0))), DV.c (D.v (Value.int IntKind.i64 (500)))])) := by kernel_rfl
theorem e22c (a b c d m : Int) (K : DV → Prop) : (ask Try.prog [(49, sB lab), (50, sB clk)] Try.f22 [.agg [vi a, vi b, vi c, vi d], I 2, I m] K) = (bif clk m then bif clk a then bif clk b then bif clk c then bif !clk d then K (DV.tup [DV.agg [D.v (Value.int IntKind.i64 (0)), D.v (Value.int IntKind.i64 (0)), D.v (Value.int IntKind.i64 (0)), D.v (Value.int IntKind.i64 (0))], DV.c (D.v (Value.int IntKind.i64 (0))), DV.c (D.v (Value.int IntKind.i64 (500)))]) else bif decide (c ≥ m) then K (DV.tup [DV.agg [D.v (Value.int IntKind.i64 (0)), D.v (Value.int IntKind.i64 (0)), D.v (Value.int IntKind.i64 (0)), D.v (Value.int IntKind.i64 (0))], DV.c (D.v (Value.int IntKind.i64 (0))), DV.c (D.v (Value.int IntKind.i64 (501)))]) else K (DV.tup [DV.agg [D.v (Value.int IntKind.i64 a), D.v (Value.int IntKind.i64 b), D.v (Value.int IntKind.i64 (IntKind.wrap IntKind.i64 (c + 1))), D.v (Value.int IntKind.i64 d)], DV.c (D.v (Value.int IntKind.i64 (IntKind.wrap IntKind.i64 (c + 1)))), DV.c (D.v (Value.int IntKind.i64 (0)))]) else K (DV.tup [DV.agg [D.v (Value.int IntKind.i64 (0)), D.v (Value.int IntKind.i64 (0)), D.v (Value.int IntKind.i64 (0)), D.v (Value.int IntKind.i64 (0))], DV.c (D.v (Value.int IntKind.i64 (0))), DV.c (D.v (Value.int IntKind.i64 (500)))]) else K (DV.tup [DV.agg [D.v (Value.int IntKind.i64 (0)), D.v (Value.int IntKind.i64 (0)), D.v (Value.int IntKind.i64 (0)), D.v (Value.int IntKind.i64 (0))], DV.c (D.v (Value.int IntKind.i64 (0))), DV.c (D.v (Value.int IntKind.i64 (500)))]) else K (DV.tup [DV.agg [D.v (Value.int IntKind.i64 (0)), D.v (Value.int IntKind.i64 (0)), D.v (Value.int IntKind.i64 (0)), D.v (Value.int IntKind.i64 (0))], DV.c (D.v (Value.int IntKind.i64 (0))), DV.c (D.v (Value.int IntKind.i64 (500)))]) else K (DV.tup [DV.agg [D.v (Value.int IntKind.i64 (0)), D.v (Value.int IntKind.i64 (0)), D.v (Value.int IntKind.i64 (0)), D.v (Value.int IntKind.i64 (0))], DV.c (D.v (Value.int IntKind.i64 (0))), DV.c (D.v (Value.int IntKind.i64 (500)))])) := by kernel_rfl
theorem e22d (a b c d m : Int) (K : DV → Prop) : (ask Try.prog [(49, sB lab), (50, sB clk)] Try.f22 [.agg [vi a, vi b, vi c, vi d], I 3, I m] K) = (bif clk m then bif clk a then bif clk b then bif clk c then bif !clk d then K (DV.tup [DV.agg [D.v (Value.int IntKind.i64 (0)), D.v (Value.int IntKind.i64 (0)), D.v (Value.int IntKind.i64 (0)), D.v (Value.int IntKind.i64 (0))], DV.c (D.v (Value.int IntKind.i64 (0))), DV.c (D.v (Value.int IntKind.i64 (500)))]) else bif decide (d ≥ m) then K (DV.tup [DV.agg [D.v (Value.int IntKind.i64 (0)), D.v (Value.int IntKind.i64 (0)), D.v (Value.int IntKind.i64 (0)), D.v (Value.int IntKind.i64 (0))], DV.c (D.v (Value.int IntKind.i64 (0))), DV.c (D.v (Value.int IntKind.i64 (501)))]) else K (DV.tup [DV.agg [D.v (Value.int IntKind.i64 a), D.v (Value.int IntKind.i64 b), D.v (Value.int IntKind.i64 c), D.v (Value.int IntKind.i64 (IntKind.wrap IntKind.i64 (d + 1)))], DV.c (D.v (Value.int IntKind.i64 (IntKind.wrap IntKind.i64 (d + 1)))), DV.c (D.v (Value.int IntKind.i64 (0)))]) else K (DV.tup [DV.agg [D.v (Value.int IntKind.i64 (0)), D.v (Value.int IntKind.i64 (0)), D.v (Value.int IntKind.i64 (0)), D.v (Value.int IntKind.i64 (0))], DV.c (D.v (Value.int IntKind.i64 (0))), DV.c (D.v (Value.int IntKind.i64 (500)))]) else K (DV.tup [DV.agg [D.v (Value.int IntKind.i64 (0)), D.v (Value.int IntKind.i64 (0)), D.v (Value.int IntKind.i64 (0)), D.v (Value.int IntKind.i64 (0))], DV.c (D.v (Value.int IntKind.i64 (0))), DV.c (D.v (Value.int IntKind.i64 (500)))]) else K (DV.tup [DV.agg [D.v (Value.int IntKind.i64 (0)), D.v (Value.int IntKind.i64 (0)), D.v (Value.int IntKind.i64 (0)), D.v (Value.int IntKind.i64 (0))], DV.c (D.v (Value.int IntKind.i64 (0))), DV.c (D.v (Value.int IntKind.i64 (500)))]) else K (DV.tup [DV.agg [D.v (Value.int IntKind.i64 (0)), D.v (Value.int IntKind.i64 (0)), D.v (Value.int IntKind.i64 (0)), D.v (Value.int IntKind.i64 (0))], DV.c (D.v (Value.int IntKind.i64 (0))), DV.c (D.v (Value.int IntKind.i64 (500)))])) := by kernel_rfl
theorem lab_cases {l : Int} (h : lab l = true) : l = 0 ∨ l = 1 ∨ l = 2 ∨ l = 3 := by
  unfold lab upto at h; simp at h; omega
theorem lab0 : lab 0 = true := rfl
theorem lab1 : lab 1 = true := rfl
theorem lab2 : lab 2 = true := rfl
theorem lab3 : lab 3 = true := rfl
theorem c21 (a b c d l m : Int) : CT Try.prog 21 [.agg [vi a, vi b, vi c, vi d], I l, I m] (nx a b c d l m).dv := by
  cases hl : lab l with
  | true =>
    rcases lab_cases hl with rfl | rfl | rfl | rfl <;> refine ct_ask (.cons o47 (.cons o48 .nil)) mixed Try.func21 rfl rfl rfl ?_
    · rw [e21a]; cases hm : may4 a b c d m <;> by_cases h : a ≥ m <;> simp [nx, hm, h, lab0, w64]
    · rw [e21b]; cases hm : may4 a b c d m <;> by_cases h : b ≥ m <;> simp [nx, hm, h, lab1, w64]
    · rw [e21c]; cases hm : may4 a b c d m <;> by_cases h : c ≥ m <;> simp [nx, hm, h, lab2, w64]
    · rw [e21d]; cases hm : may4 a b c d m <;> by_cases h : d ≥ m <;> simp [nx, hm, h, lab3, w64]
  | false =>
    refine ct_ask (.cons o47 (.cons (oNo o48) .nil)) mixed Try.func21 rfl rfl rfl ?_
    rw [e21n]; cases hm : may4 a b c d m <;> simp [nx, hm, hl]
theorem c22 (a b c d l m : Int) : CT Try.prog 22 [.agg [vi a, vi b, vi c, vi d], I l, I m] (nx a b c d l m).dv := by
  cases hl : lab l with
  | true =>
    rcases lab_cases hl with rfl | rfl | rfl | rfl <;> refine ct_ask (.cons o49 (.cons o50 .nil)) mixed Try.func22 rfl rfl rfl ?_
    · rw [e22a]; cases h1 : clk m <;> cases h2 : clk a <;> cases h3 : clk b <;> cases h4 : clk c <;> cases h5 : clk d <;> by_cases h : a ≥ m <;> simp [nx, may4, h1, h2, h3, h4, h5, h, lab0, w64]
    · rw [e22b]; cases h1 : clk m <;> cases h2 : clk a <;> cases h3 : clk b <;> cases h4 : clk c <;> cases h5 : clk d <;> by_cases h : b ≥ m <;> simp [nx, may4, h1, h2, h3, h4, h5, h, lab1, w64]
    · rw [e22c]; cases h1 : clk m <;> cases h2 : clk a <;> cases h3 : clk b <;> cases h4 : clk c <;> cases h5 : clk d <;> by_cases h : c ≥ m <;> simp [nx, may4, h1, h2, h3, h4, h5, h, lab2, w64]
    · rw [e22d]; cases h1 : clk m <;> cases h2 : clk a <;> cases h3 : clk b <;> cases h4 : clk c <;> cases h5 : clk d <;> by_cases h : d ≥ m <;> simp [nx, may4, h1, h2, h3, h4, h5, h, lab3, w64]
  | false =>
    refine ct_ask (.cons (oNo o49) (.cons o50 .nil)) mixed Try.func22 rfl rfl rfl ?_
    rw [e22n]; simp [nx, hl]
def sNx : Spec := fun ds Q => match ds with | [.agg [.v (.int .i64 a), .v (.int .i64 b), .v (.int .i64 c), .v (.int .i64 d)], .c (.v (.int .i64 l)), .c (.v (.int .i64 m))] => Q (nx a b c d l m).dv | _ => False
theorem oNx {f : FuncId} {fn : Func} (hf : Try.prog.funcs[f]? = some fn) (hn : (fn.name == "runtime.NumGoroutine") = false) (hb : fn.body.isNone = false) (hc : ∀ a b c d l m, CT Try.prog f [.agg [vi a, vi b, vi c, vi d], I l, I m] (nx a b c d l m).dv) : SpecOK Try.prog f sNx := fun ds Q h => by
  unfold sNx at h; split at h
  · exact ⟨goes_of hf hn hb, _, hc _ _ _ _ _ _, rfl, rfl, h⟩
  · exact h.elim
theorem o21 : SpecOK Try.prog 21 sNx := oNx Try.func21 (by kernel_rfl) rfl c21
theorem o22 : SpecOK Try.prog 22 sNx := oNx Try.func22 (by kernel_rfl) rfl c22
theorem c24 : CT Try.prog 24 [] (B true) := ct_ask (.cons o21 (.cons o23 .nil)) mixed Try.func24 rfl rfl rfl (by
  have e : ask Try.prog [(21, sNx), (23, sI)] Try.f24 [] (fun r => r = B true) = (B true = B true) := by kernel_rfl
  rw [e])
def sT : Spec := fun ds Q => match ds with | [] => Q (B true) | _ => False
theorem oT {f : FuncId} {fn : Func} (hf : Try.prog.funcs[f]? = some fn) (hn : (fn.name == "runtime.NumGoroutine") = false) (hb : fn.body.isNone = false) (hc : CT Try.prog f [] (B true)) : SpecOK Try.prog f sT := fun ds Q h => by
  unfold sT at h; split at h
  · exact ⟨goes_of hf hn hb, _, hc, rfl, rfl, h⟩
  · exact h.elim
theorem o24 : SpecOK Try.prog 24 sT := oT Try.func24 (by kernel_rfl) rfl c24

theorem e3 (a b c d l m : Int) (K : DV → Prop) : (ask Try.prog [(21, sNx), (22, sNx), (23, sI), (24, sT)] Try.f3 [.agg [vi a, vi b, vi c, vi d], I l, I m] K) = (bif eqI [(nx a b c d l m).a, (nx a b c d l m).b, (nx a b c d l m).c, (nx a b c d l m).d] [(nx a b c d l m).a, (nx a b c d l m).b, (nx a b c d l m).c, (nx a b c d l m).d] then bif (nx a b c d l m).k == (nx a b c d l m).k then bif (nx a b c d l m).e == (nx a b c d l m).e then K (DV.c (D.v (Value.bool true))) else K (DV.c (D.v (Value.bool false))) else K (DV.c (D.v (Value.bool false))) else K (DV.c (D.v (Value.bool false)))) := by kernel_rfl
theorem eqI_self : ∀ l : List Int, eqI l l = true
  | [] => rfl
  | x :: l => by simp [eqI, eqI_self l]
theorem c3 (a b c d l m : Int) : CT Try.prog 3 [.agg [vi a, vi b, vi c, vi d], I l, I m] (B true) := ct_ask (.cons o21 (.cons o22 (.cons o23 (.cons o24 .nil)))) mixed Try.func3 rfl rfl rfl (by
  rw [e3]; simp [eqI_self])
end Vm
