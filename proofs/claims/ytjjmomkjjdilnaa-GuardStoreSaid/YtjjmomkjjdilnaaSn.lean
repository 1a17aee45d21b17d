/- What functions of the laid program do, as contracts over the engine. Conditions: each theorem bears its own. -/
import Derived.Test.YtjjmomkjjdilnaaSm2
set_option linter.all false
set_option maxRecDepth 100000
namespace Go.Proofs.Ytjjmomkjjdilnaa
open Go Go.Eng Go.Proofs Go.Proofs.Ytjjmomkjjdilnaa.T
theorem neq44 (X Y : Operand) (x y : ANode) (w : World) : (do eqGuard .neq 44 X Y (.agg x.vs.toArray) (.agg y.vs.toArray); binOp .neq 44 (.agg x.vs.toArray) (.agg y.vs.toArray) : Sem Value).run Try.prog w = .ok (.bool (decide (x ≠ y))) w := by
  have := eq44 w x y
  simp [eqGuard, binOp, this]
theorem eqq44 (X Y : Operand) (x y : ANode) (w : World) : (do eqGuard .eql 44 X Y (.agg x.vs.toArray) (.agg y.vs.toArray); binOp .eql 44 (.agg x.vs.toArray) (.agg y.vs.toArray) : Sem Value).run Try.prog w = .ok (.bool (decide (x = y))) w := by
  have := eq44 w x y
  simp [eqGuard, binOp, this]
theorem sameNodes_spec (p p' : Sp) (l l' : List ANode) (hb : l.length < 2 ^ 62) : Does Try.prog 18 [.one (slr 3 ANode.vs p l), .one (slr 3 ANode.vs p' l')] (fun _ => none) (fun r _ => r = .val (.one (vb (decide (l = l'))))) := by
  refine does_of' 26 [.tmp 4] Try.func18 rfl rfl rfl (show 2 ≤ 26 by decide) fun Q hQ => ?_
  have fin : ∀ (s : S) (b : Bool), s.sl 4 = .val (.one (vb b)) → b = decide (l = l') → Q .ret s := fun s b e4 e => by
    refine (hQ _ ⟨[.one (vb b)], [], by simp [resL, e4], rfl, by simp, ?_⟩).2
    simp [packS, SV.mapC, V1.mapC, C.lift, C.ren0, e]
  refine V_reg_k (by decide) fun K hK => ?_
  simp
  refine hK _ (V_seq_k fun K1 hK1 => V_reg_k (by decide) fun K hK => ?_)
  simp
  refine hK _ (V_cond (t := decide ((l.length : Int) ≠ l'.length)) (by simp) (by simp) (fun h => ?_) (fun h => ?_))
  · simp only [decide_eq_true_eq] at h
    refine V_reg_k (by decide) fun K hK => ?_
    simp
    refine hK _ (V_ret (fin _ false (by simp) ?_))
    symm
    simp only [decide_eq_false_iff_not]
    rintro rfl
    exact h rfl
  · simp only [decide_eq_false_iff_not, ne_eq, Decidable.not_not] at h
    have hll : l.length = l'.length := by omega
    refine V_skip (hK1 _ (V_seq_k fun K2 hK2 => V_reg_k (by decide) fun K hK => ?_))
    simp
    refine hK _ (V_block (V_loop_k (fun n s => ∃ k : Nat, k ≤ l.length ∧ n = l.length - k ∧ s.sl 5 = .val (.one (vi k)) ∧ s.sl 0 = .val (.one (slr 3 ANode.vs p l)) ∧ s.sl 1 = .val (.one (slr 3 ANode.vs p' l')) ∧ l.take k = l'.take k) l.length ⟨0, by omega, by omega, by simp, by simp, by simp, by simp⟩ ?_))
    rintro n s ⟨k, hk, rfl, h5, h0, h1, ht⟩ K3 hK3
    refine V_seq_k fun K4 hK4 => V_reg_k (by decide) fun K hK => ?_
    simp [h5, h0]
    refine hK _ (V_cond (t := decide ((k : Int) < l.length)) (by simp) (by simp) (fun h => ?_) (fun h => ?_))
    · simp at h
      have hx := getE h
      have hx' := getE (show k < l'.length by omega)
      have hw : IntKind.i64.wrap ((k : Int) + 1) = k + 1 := wrap_i64 (by omega) (by omega)
      refine V_skip (hK4 _ (V_seq_k fun K5 hK5 => V_block (V_regt_k (.hoist 0 (.hoist 1 (.hoist 2 (.hoist 4 (.hoist 5 (.hoist 6 (.alt 3 (.alt 7 (.alt 8 .done .nil) .nil) (.alt 7 (.alt 3 (.alt 8 .done .nil) .nil) .nil))))))))  mixed (by decide +kernel) (by decide +kernel) (by decide) (by simp [Tr.lit]; rfl) fun K hK => ?_)))
      have cont : ∀ s', s'.sl 25 = .val (.one (vb (decide (l[k] ≠ l'[k]'(by omega))))) → s'.sl 5 = .val (.one (vi k)) → s'.sl 0 = .val (.one (slr 3 ANode.vs p l)) → s'.sl 1 = .val (.one (slr 3 ANode.vs p' l')) → K s' := fun s' e25 e5 e0 e1 => by
        refine hK _ (V_cond (t := decide (l[k] ≠ l'[k]'(by omega))) (by simp [e25]) (by simp) (fun hne => ?_) (fun heq => ?_))
        · simp only [decide_eq_true_eq] at hne
          refine V_reg_k (by decide) fun K hK => ?_
          simp
          refine hK _ (V_ret (fin _ false (by simp) ?_))
          symm
          simp only [decide_eq_false_iff_not]
          rintro rfl
          exact hne rfl
        · simp only [decide_eq_false_iff_not, ne_eq, Decidable.not_not] at heq
          refine V_skip (hK5 _ (V_reg_e (by decide) fun K9 hK9 => ?_))
          simp [e5, hw]
          refine hK9 _ (hK3 (l.length - (k + 1)) _ (by omega) ⟨k + 1, by omega, rfl, by simp, by simp [e0], by simp [e1], ?_⟩)
          rw [List.take_succ_eq_append_getElem h, List.take_succ_eq_append_getElem (show k < l'.length by omega), ht, heq]
      simp [h5, h0, h1, rows_get ANode.vs hx, rows_get ANode.vs hx', ANode.vs]
      refine ⟨?_, ?_⟩ <;>
        refine V_eqv (va := .agg (l[k]).vs.toArray) (vb := .agg (l'[k]'(by omega)).vs.toArray) (by decide) (by decide) (by simp [SV.toV, cellsV, C.toV, ANode.vs]) (by simp [SV.toV, cellsV, C.toV, ANode.vs]) (neq44 _ _ _ _) rfl (cont _ (by simp) (by simp [h5]) (by simp [h0]) (by simp [h1]))
    · simp at h
      have : k = l.length := by omega
      subst this
      refine V_exit (show K2 _ from hK2 _ (V_reg_k (by decide) fun K hK => ?_))
      simp
      refine hK _ (V_ret (fin _ true (by simp) ?_))
      rw [List.take_length, hll, List.take_length] at ht
      simp [ht]
end Go.Proofs.Ytjjmomkjjdilnaa
