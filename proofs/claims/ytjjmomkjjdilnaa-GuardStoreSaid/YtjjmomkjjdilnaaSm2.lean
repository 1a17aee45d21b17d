/- What functions of the laid program do, as contracts over the engine. Conditions: each theorem bears its own. -/
import Derived.Test.YtjjmomkjjdilnaaSm
set_option linter.all false
set_option maxRecDepth 100000
namespace Go.Proofs.Ytjjmomkjjdilnaa
open Go Go.Eng Go.Proofs Go.Proofs.Ytjjmomkjjdilnaa.T
theorem sameLetters_spec (p p' : Sp) (l l' : List Int) (hb : l.length < 2 ^ 62) : Does Try.prog 24 [.one (slr 1 uv p l), .one (slr 1 uv p' l')] (fun _ => none) (fun r _ => r = .val (.one (vb (decide (l = l'))))) := by
  refine does_of' 26 [.tmp 4] Try.func24 rfl rfl rfl (show 2 ≤ 26 by decide) fun Q hQ => ?_
  have fin : ∀ (s : S) (b : Bool), s.sl 4 = .val (.one (vb b)) → b = decide (l = l') → Q .ret s := fun s b e4 e => by
    refine (hQ _ ⟨[.one (vb b)], [], by simp [resL, e4], rfl, by simp, ?_⟩).2
    simp [packS, SV.mapC, V1.mapC, C.lift, C.ren0, e]
  refine V_reg_k (by decide) fun K hK => ?_
  simp
  refine hK _ (V_seq_k fun K1 hK1 => V_reg_k (by decide) fun K hK => ?_)
  simp
  refine hK _ (V_cond (t := decide ((l.length : Int) ≠ l'.length)) (by simp) (by simp) (fun h => ?_) (fun h => ?_))
  · simp only [decide_eq_true_eq] at h
    refine V_reg_k (by decide) fun K hK => ?_
    simp
    refine hK _ (V_ret (fin _ false (by simp) ?_))
    symm
    simp only [decide_eq_false_iff_not]
    rintro rfl
    exact h rfl
  · simp only [decide_eq_false_iff_not, ne_eq, Decidable.not_not] at h
    have hll : l.length = l'.length := by omega
    refine V_skip (hK1 _ (V_seq_k fun K2 hK2 => V_reg_k (by decide) fun K hK => ?_))
    simp
    refine hK _ (V_block (V_loop_k (fun n s => ∃ k : Nat, k ≤ l.length ∧ n = l.length - k ∧ s.sl 5 = .val (.one (vi k)) ∧ s.sl 0 = .val (.one (slr 1 uv p l)) ∧ s.sl 1 = .val (.one (slr 1 uv p' l')) ∧ l.take k = l'.take k) l.length ⟨0, by omega, by omega, by simp, by simp, by simp, by simp⟩ ?_))
    rintro n s ⟨k, hk, rfl, h5, h0, h1, ht⟩ K3 hK3
    refine V_seq_k fun K4 hK4 => V_reg_k (by decide) fun K hK => ?_
    simp [h5, h0]
    refine hK _ (V_cond (t := decide ((k : Int) < l.length)) (by simp) (by simp) (fun h => ?_) (fun h => ?_))
    · simp at h
      have hx := getE h
      have hx' := getE (show k < l'.length by omega)
      refine V_skip (hK4 _ (V_seq_k fun K5 hK5 => V_block (V_regp_k [0, 1, 2, 3, 4, 5, 6, 7, 8] _ mixed rfl rfl (by decide +kernel) (by decide) fun K hK => ?_)))
      simp [goY, pureC, lookC, h5, h0, h1, rows_get uv hx, rows_get uv hx']
      have hw : IntKind.i64.wrap ((k : Int) + 1) = k + 1 := wrap_i64 (by omega) (by omega)
      refine hK _ (V_cond (t := decide (l[k] ≠ l'[k]'(by omega))) (by simp) (by simp) (fun hne => ?_) (fun heq => ?_))
      · simp only [decide_eq_true_eq] at hne
        refine V_reg_k (by decide) fun K hK => ?_
        simp
        refine hK _ (V_ret (fin _ false (by simp) ?_))
        symm
        simp only [decide_eq_false_iff_not]
        rintro rfl
        exact hne rfl
      · simp only [decide_eq_false_iff_not, ne_eq, Decidable.not_not] at heq
        refine V_skip (hK5 _ (V_reg_e (by decide) fun K9 hK9 => ?_))
        simp [h5, hw]
        refine hK9 _ (hK3 (l.length - (k + 1)) _ (by omega) ⟨k + 1, by omega, rfl, by simp, by simp [h0], by simp [h1], ?_⟩)
        rw [List.take_succ_eq_append_getElem h, List.take_succ_eq_append_getElem (show k < l'.length by omega), ht, heq]
    · simp at h
      have : k = l.length := by omega
      subst this
      refine V_exit (show K2 _ from hK2 _ (V_reg_k (by decide) fun K hK => ?_))
      simp
      refine hK _ (V_ret (fin _ true (by simp) ?_))
      rw [List.take_length, hll, List.take_length] at ht
      simp [ht]
theorem sameBools_spec (p p' : Sp) (l l' : List Bool) (hb : l.length < 2 ^ 62) : Does Try.prog 100 [.one (slr 1 bv p l), .one (slr 1 bv p' l')] (fun _ => none) (fun r _ => r = .val (.one (vb (decide (l = l'))))) := by
  refine does_of' 26 [.tmp 4] Try.func100 rfl rfl rfl (show 2 ≤ 26 by decide) fun Q hQ => ?_
  have fin : ∀ (s : S) (b : Bool), s.sl 4 = .val (.one (vb b)) → b = decide (l = l') → Q .ret s := fun s b e4 e => by
    refine (hQ _ ⟨[.one (vb b)], [], by simp [resL, e4], rfl, by simp, ?_⟩).2
    simp [packS, SV.mapC, V1.mapC, C.lift, C.ren0, e]
  refine V_reg_k (by decide) fun K hK => ?_
  simp
  refine hK _ (V_seq_k fun K1 hK1 => V_reg_k (by decide) fun K hK => ?_)
  simp
  refine hK _ (V_cond (t := decide ((l.length : Int) ≠ l'.length)) (by simp) (by simp) (fun h => ?_) (fun h => ?_))
  · simp only [decide_eq_true_eq] at h
    refine V_reg_k (by decide) fun K hK => ?_
    simp
    refine hK _ (V_ret (fin _ false (by simp) ?_))
    symm
    simp only [decide_eq_false_iff_not]
    rintro rfl
    exact h rfl
  · simp only [decide_eq_false_iff_not, ne_eq, Decidable.not_not] at h
    have hll : l.length = l'.length := by omega
    refine V_skip (hK1 _ (V_seq_k fun K2 hK2 => V_reg_k (by decide) fun K hK => ?_))
    simp
    refine hK _ (V_block (V_loop_k (fun n s => ∃ k : Nat, k ≤ l.length ∧ n = l.length - k ∧ s.sl 5 = .val (.one (vi k)) ∧ s.sl 0 = .val (.one (slr 1 bv p l)) ∧ s.sl 1 = .val (.one (slr 1 bv p' l')) ∧ l.take k = l'.take k) l.length ⟨0, by omega, by omega, by simp, by simp, by simp, by simp⟩ ?_))
    rintro n s ⟨k, hk, rfl, h5, h0, h1, ht⟩ K3 hK3
    refine V_seq_k fun K4 hK4 => V_reg_k (by decide) fun K hK => ?_
    simp [h5, h0]
    refine hK _ (V_cond (t := decide ((k : Int) < l.length)) (by simp) (by simp) (fun h => ?_) (fun h => ?_))
    · simp at h
      have hx := getE h
      have hx' := getE (show k < l'.length by omega)
      refine V_skip (hK4 _ (V_seq_k fun K5 hK5 => V_block (V_regp_k [0, 1, 2, 3, 4, 5, 6, 7, 8] _ mixed rfl rfl (by decide +kernel) (by decide) fun K hK => ?_)))
      simp [goY, pureC, lookC, h5, h0, h1, rows_get bv hx, rows_get bv hx', binC]
      have hw : IntKind.i64.wrap ((k : Int) + 1) = k + 1 := wrap_i64 (by omega) (by omega)
      refine hK _ (V_cond (t := decide (l[k] ≠ l'[k]'(by omega))) (by simp; cases l[k] <;> cases l'[k]'(by omega) <;> rfl) (by simp) (fun hne => ?_) (fun heq => ?_))
      · simp only [decide_eq_true_eq] at hne
        refine V_reg_k (by decide) fun K hK => ?_
        simp
        refine hK _ (V_ret (fin _ false (by simp) ?_))
        symm
        simp only [decide_eq_false_iff_not]
        rintro rfl
        exact hne rfl
      · simp only [decide_eq_false_iff_not, ne_eq, Decidable.not_not] at heq
        refine V_skip (hK5 _ (V_reg_e (by decide) fun K9 hK9 => ?_))
        simp [h5, hw]
        refine hK9 _ (hK3 (l.length - (k + 1)) _ (by omega) ⟨k + 1, by omega, rfl, by simp, by simp [h0], by simp [h1], ?_⟩)
        rw [List.take_succ_eq_append_getElem h, List.take_succ_eq_append_getElem (show k < l'.length by omega), ht, heq]
    · simp at h
      have : k = l.length := by omega
      subst this
      refine V_exit (show K2 _ from hK2 _ (V_reg_k (by decide) fun K hK => ?_))
      simp
      refine hK _ (V_ret (fin _ true (by simp) ?_))
      rw [List.take_length, hll, List.take_length] at ht
      simp [ht]
end Go.Proofs.Ytjjmomkjjdilnaa
