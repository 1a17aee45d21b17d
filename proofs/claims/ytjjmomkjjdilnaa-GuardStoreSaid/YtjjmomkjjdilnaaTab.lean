/- What functions of the laid program do, as contracts over the engine. Conditions: each theorem bears its own. -/
import Derived.Test.YtjjmomkjjdilnaaGo1
set_option linter.all false
set_option maxRecDepth 100000
namespace Go.Proofs.Ytjjmomkjjdilnaa
open Go Go.Eng Go.Proofs Go.Proofs.Ytjjmomkjjdilnaa.T
/-- The states that the first letters lead to. -/
def tabUp (nodes : List ANode) (ref : Int) : Nat → Option (List Int)
  | 0 => some []
  | k + 1 => match tabUp nodes ref k with
    | none => none
    | some t => if (goF nodes k 9 ref).2 then some (t ++ [(goF nodes k 9 ref).1]) else none
theorem tabUp_len (nodes : List ANode) (ref : Int) : ∀ (k : Nat) (t : List Int), tabUp nodes ref k = some t → t.length = k
  | 0, t, h => by cases h; rfl
  | k + 1, t, h => by
    simp only [tabUp] at h
    split at h
    · cases h
    · rename_i t' ht'
      split at h
      · cases h; simp [tabUp_len nodes ref k t' ht']
      · cases h
theorem tabUp_none (nodes : List ANode) (ref : Int) {k m : Nat} (h : k ≤ m) (hn : tabUp nodes ref k = none) : tabUp nodes ref m = none := by
  induction m with
  | zero => rw [show k = 0 by omega] at hn; exact hn
  | succ m ih =>
    by_cases e : k = m + 1
    · rw [← e]; exact hn
    · simp [tabUp, ih (by omega)]
def tableF (n : Int) (nodes : List ANode) (ref : Int) : List Int × Int :=
  if n < 0 ∨ 8 < n then ([], 2) else match tabUp nodes ref (2 ^ n.toNat) with
  | none => ([], 12)
  | some t => (t, 0)
/-- A row of this. -/
def IsRow (o : Option Ob) (e : Nat) (z : List C) (xs : List (List C)) : Prop := ∃ ys ex, o = some (.row e z xs ys ex) ∧ kindsC z ys
theorem table_spec (n : Int) (nodes : List ANode) (p : Sp) (ref : Int) : Does Try.prog 119 [.one (vi n), .one (slr 3 ANode.vs p nodes), .one (vi ref)] (fun _ => none)
    (fun r ob => r = .tup [.one (.own 0), .one (vi (tableF n nodes ref).2)] ∧ IsRow (ob 0) 3 [vi 0] (rows iv (tableF n nodes ref).1)) := by
  refine does_of' 39 [.tmp 6, .tmp 7] Try.func119 rfl rfl rfl (show 3 ≤ 39 by decide) fun Q hQ => ?_
  have fin : ∀ (s : S) (j : Nat) (e : Int) (t : List Int) (ex : Bool), s.sl 6 = .val (.one (.own j)) → s.sl 7 = .val (.one (vi e)) → s.ob j = some (.row 3 [vi 0] (rows iv t) [] ex) → tableF n nodes ref = (t, e) → Q .ret s := fun s j e t ex e6 e7 ej et => by
    refine (hQ _ ⟨[.one (.own j), .one (vi e)], [(j, 0)], by simp [resL, e6, e7], by simp [Ren.ok], by simp, ?_⟩).2
    simp [packS, SV.mapC, V1.mapC, C.lift, C.ren0, Ren.at, Ren.ob, Ren.inv, ej, Ob.mapC, et, IsRow]
  refine V_reg_k (by decide) fun K hK => ?_
  simp
  refine hK _ (V_seq_k fun K1 hK1 => V_reg_k (by decide) fun K hK => ?_)
  have bad : ∀ s, s.sl 17 = .val (.one (vb true)) → (n < 0 ∨ 8 < n) → K s := fun s e17 hn => by
    refine hK _ (V_cond (t := true) (by simp [e17]) (by simp) (fun _ => ?_) (fun h => by cases h))
    refine V_reg_k (by decide) fun K hK => ?_
    simp
    exact hK _ (V_ret (fin _ 6 2 [] true (by simp) (by simp) (by simp) (by simp [tableF, hn])))
  by_cases h1 : n < 0
  · simp [guardS, h1]
    exact bad _ (by simp) (.inl h1)
  by_cases h2 : 8 < n
  · simp [guardS, h1, h2]
    exact bad _ (by simp) (.inr h2)
  simp [guardS, h1, h2]
  refine hK _ (V_cond (t := false) (by simp) (by simp) (fun h => by cases h) (fun _ => V_skip (hK1 _ (V_reg_k (by decide) fun K hK => ?_))))
  simp
  refine hK _ (V_seq_k fun K2 hK2 => V_reg_k (by decide) fun K hK => ?_)
  obtain ⟨m, rfl⟩ : ∃ m : Nat, n = m := ⟨n.toNat, by omega⟩
  have hm8 : m ≤ 8 := by omega
  have hw : IntKind.i64.wrap (2 ^ (min m 64)) = ((2 ^ m : Nat) : Int) := by
    have : ∀ m ≤ 8, IntKind.i64.wrap (2 ^ (min m 64)) = ((2 ^ m : Nat) : Int) := by decide
    exact this m hm8
  have hpow : 2 ^ m ≤ 256 := by
    have : ∀ m ≤ 8, 2 ^ m ≤ 256 := by decide
    exact this m hm8
  simp [IntKind.bits, hw]
  obtain ⟨M, hM⟩ : ∃ M : Nat, M = 2 ^ m := ⟨_, rfl⟩
  have hMc : ((2 : Int) ^ m) = (M : Int) := by rw [hM]; simp
  have htab : ∀ t e, (tabUp nodes ref M = none → (t, e) = (([] : List Int), (12 : Int))) → (∀ t', tabUp nodes ref M = some t' → (t, e) = (t', 0)) → tableF m nodes ref = (t, e) := fun t e g1 g2 => by
    unfold tableF
    rw [if_neg (by omega), show (m : Int).toNat = m from rfl, ← hM]
    cases h : tabUp nodes ref M with
    | none => exact (g1 h).symm
    | some t' => exact (g2 t' h).symm
  rw [← hM] at hpow
  simp only [hMc]
  refine hK _ (V_block (V_loop_k (fun n s => ∃ (k : Nat) (t : List Int) (ex : Bool), k ≤ M ∧ n = M - k ∧ s.sl 20 = .val (.one (vi k)) ∧ s.sl 19 = .val (.one (vi M)) ∧ s.sl 1 = .val (.one (slr 3 ANode.vs p nodes)) ∧ s.sl 2 = .val (.one (vi ref)) ∧ s.sl 8 = .val (.one (.own 8)) ∧ s.ob 8 = some (.row 3 [vi 0] (rows iv t) [] ex) ∧ tabUp nodes ref k = some t)
    M ⟨0, [], true, by omega, by omega, by simp, by simp, by simp, by simp, by simp, by simp, rfl⟩ ?_))
  rintro n s ⟨k, t, ex, hk, rfl, h20, h19, h1', h2', h8, ho8, ht⟩ K3 hK3
  have htl := tabUp_len _ _ _ _ ht
  refine V_reg_k (by decide) fun K hK => ?_
  simp [h20, h19]
  refine hK _ (V_seq_k fun K4 hK4 => V_cond (t := decide ((k : Int) < (M : Int))) (by simp) (by simp) (fun h => ?_) (fun h => ?_))
  · simp only [decide_eq_true_eq] at h
    have hklt : k < M := by omega
    have htk : tabUp nodes ref (k + 1) = if (goF nodes k 9 ref).2 then some (t ++ [(goF nodes k 9 ref).1]) else none := by simp [tabUp, ht]
    refine V_skip (hK4 _ (V_seq_k fun K5 hK5 => V_block (V_reg_k (by decide) fun K hK => ?_)))
    simp [h20]
    refine hK _ (V_reg_k (by decide) fun K hK => ?_)
    have hwk : IntKind.u8.wrap (k : Int) = k := wrap_u8 (by omega) (by omega)
    simp [h1', h2', hwk]
    refine call0_V 1 rfl (by decide) (by decide) (by rfl) rfl rfl (args := [.one (slr 3 ANode.vs p nodes), .one (vi ref), .one (vu k)]) (by simp [S.hand, SV.mapC, V1.mapC, C.lift, C.out0]) (go_spec nodes p ref k) ?_
    rintro res ob' rfl
    simp [SV.mapC, V1.mapC, C.lift, C.ren0]
    refine hK _ (V_seq_k fun K6 hK6 => V_reg_k (by decide) fun K hK => ?_)
    simp
    refine hK _ (V_cond (t := !(goF nodes k 9 ref).2) (by simp) (by simp) (fun hb => ?_) (fun hb => ?_))
    · simp at hb
      refine V_reg_k (by decide) fun K hK => ?_
      simp
      refine hK _ (V_ret (fin _ 6 12 [] true (by simp) (by simp) (by simp) (htab _ _ (fun _ => rfl) fun t' ht' => ?_)))
      rw [tabUp_none nodes ref (show k + 1 ≤ M by omega) (by rw [htk]; simp [hb])] at ht'
      cases ht'
    · simp at hb
      refine V_skip (hK6 _ (V_reg_e (by decide) fun K7 hK7 => ?_))
      simp [h8, ho8]
      have hw1 : IntKind.i64.wrap ((k : Int) + 1) = k + 1 := wrap_i64 (by omega) (by omega)
      refine ⟨by omega, hK7 _ (hK5 _ (V_reg_e (by decide) fun K9 hK9 => ?_))⟩
      simp [h20, hw1]
      refine hK9 _ (hK3 (M - (k + 1)) _ (by omega) ⟨k + 1, t ++ [(goF nodes k 9 ref).1], false, by omega, rfl, by simp, by simp [h19], by simp [h1'], by simp [h2'], by simp, ?_, by rw [htk]; simp [hb]⟩)
      simp [rows_cons]
  · simp at h
    have : k = M := by omega
    subst this
    refine V_exit (show K2 _ from hK2 _ (V_reg_k (by decide) fun K hK => ?_))
    simp [h8]
    refine hK _ (V_ret (fin _ 8 0 t ex (by simp) (by simp) (by simp [ho8]) (htab _ _ (fun hn => by rw [ht] at hn; cases hn) fun t' ht' => by rw [ht] at ht'; cases ht'; rfl)))
end Go.Proofs.Ytjjmomkjjdilnaa
