/- What functions of the laid program do, as contracts over the engine. Conditions: each theorem bears its own. -/
import Derived.Test.YtjjmomkjjdilnaaTab
set_option linter.all false
set_option maxRecDepth 100000
namespace Go.Proofs.Ytjjmomkjjdilnaa
open Go Go.Eng Go.Proofs Go.Proofs.Ytjjmomkjjdilnaa.T
theorem part3 (w : World) (cs : Array Value) (i : Nat) {v : Value} (h : cs[i]? = some v) : (part 3 cs i).run Try.prog w = .ok v w := by
  simp [part, run_isAgg' ty3, h]
theorem chk3 (w : World) (em : Bool) (n : Nat) (x : Int) : (Instr.checkKey em (n + 1) 3 (.int .i64 x)).run Try.prog w = .ok () w := by
  unfold Instr.checkKey
  simp [run_underlying Try.underlying3]
theorem eq44 (w : World) (x y : ANode) : (Op.equal 44 (.agg x.vs.toArray) (.agg y.vs.toArray)).run Try.prog w = .ok (decide (x = y)) w := by
  show Sem.run Try.prog (Op.equalIn (9998 + 1 + 1) 44 _ _) w = _
  rw [run_equalIn_struct _ _ _ _ _ Try.underlying44 Try.stoodInHeld44]
  have hf : (Try.prog.fieldsOf 44).toList = [{ name := "P", type := 3, offset := 0, embedded := false, tag := "", pkgPath := "", byteOffset := 0 }, { name := "Lo", type := 3, offset := 1, embedded := false, tag := "", pkgPath := "", byteOffset := 8 }, { name := "Hi", type := 3, offset := 2, embedded := false, tag := "", pkgPath := "", byteOffset := 16 }] := by rfl
  rw [hf]
  have he : ∀ a b : Int, (Op.equalIn 9999 3 (.int .i64 a) (.int .i64 b)).run Try.prog w = .ok (a == b) w := fun a b => run_equalIn_int w 9998 _ _ _ a b Try.underlying3
  have p0 : ∀ a b c : Value, (part 3 #[a, b, c] 0).run Try.prog w = .ok a w := fun a b c => part3 w _ 0 rfl
  have p1 : ∀ a b c : Value, (part 3 #[a, b, c] 1).run Try.prog w = .ok b w := fun a b c => part3 w _ 1 rfl
  have p2 : ∀ a b c : Value, (part 3 #[a, b, c] 2).run Try.prog w = .ok c w := fun a b c => part3 w _ 2 rfl
  have hd : decide (x = y) = (decide (x.p = y.p) && (decide (x.lo = y.lo) && decide (x.hi = y.hi))) := by
    cases x; cases y; simp
  rw [hd]
  simp only [Op.eqFields, ANode.vs, Sem.run_bind, Sem.run_ite]
  by_cases h1 : x.p = y.p <;> by_cases h2 : x.lo = y.lo <;> by_cases h3 : x.hi = y.hi <;> simp [p0, p1, p2, he, h1, h2, h3]
theorem chk44 (w : World) (em : Bool) (x : ANode) : (Instr.checkKey em 10000 44 (.agg x.vs.toArray)).run Try.prog w = .ok () w := by
  show Sem.run Try.prog (Instr.checkKey em (9998 + 1 + 1) 44 _) w = _
  unfold Instr.checkKey
  have p0 : ∀ a b c : Value, (part 3 #[a, b, c] 0).run Try.prog w = .ok a w := fun a b c => part3 w _ 0 rfl
  have p1 : ∀ a b c : Value, (part 3 #[a, b, c] 1).run Try.prog w = .ok b w := fun a b c => part3 w _ 1 rfl
  have p2 : ∀ a b c : Value, (part 3 #[a, b, c] 2).run Try.prog w = .ok c w := fun a b c => part3 w _ 2 rfl
  have hc : ∀ a : Int, (Instr.checkKey em 9999 3 (.int .i64 a)).run Try.prog w = .ok () w := fun a => chk3 w em 9998 a
  simp [run_underlying Try.underlying44, ANode.vs, p0, p1, p2, hc]
def isNode (v : Value) : Prop := ∃ x : ANode, v = .agg x.vs.toArray
theorem key44 : KeyB Try.prog 44 isNode := by
  refine KeyB.of_eq Try.underlying44 (fun x y => ?_) (fun w {x y} ⟨a, ha⟩ ⟨b, hb⟩ => ⟨decide (a = b), ?_, ?_⟩) (fun w em {v} ⟨a, ha⟩ => ?_) (fun {v} ⟨a, ha⟩ => ?_)
  · cases x <;> cases y <;> rfl
  · rw [ha, hb]; exact eq44 w a b
  · subst ha hb
    cases a; cases b
    simp [ANode.vs]
    constructor <;> (intro h; simp [h])
  · rw [ha]; exact chk44 w em a
  · rw [ha]
    simp [Instr.sameBits, ANode.vs]
end Go.Proofs.Ytjjmomkjjdilnaa
