/- What functions of the laid program do, as contracts over the engine. Conditions: each theorem bears its own. -/
import Derived.Test.YtjjmomkjjdilnaaR14
set_option linter.all false
set_option maxRecDepth 100000
namespace Go.Proofs.Ytjjmomkjjdilnaa
open Go Go.Eng Go.Proofs Go.Proofs.Ytjjmomkjjdilnaa.T
theorem bit_all : ∀ p : Fin 8, ∀ l : Fin 256, bitE (l.val : Int) (p.val : Int) = bitR (l.val : Int) (p.val : Int) := by decide +kernel
theorem go14_spec (nodes : List ANode) (p : Sp) (ref l : Int) (hl0 : 0 ≤ l) (hl1 : l ≤ 255) : Does Try.prog 123 [.one (slr 3 ANode.vs p nodes), .one (vi ref), .one (vu l)] (fun _ => none) (fun r _ => r = .tup [.one (vi (goF nodes l 9 ref).1), .one (vb (goF nodes l 9 ref).2)]) := by
  refine does_of' 58 [.tmp 6, .tmp 7] Try.func123 rfl rfl rfl (show 3 ≤ 58 by decide) fun Q hQ => ?_
  refine V_reg_k (by decide) fun K hK => ?_
  simp
  refine hK _ (V_seq_k fun K1 hK1 => V_reg_k (by decide) fun K hK => ?_)
  simp
  refine hK _ (V_block (V_loop_k (fun n s => ∃ (i : Nat) (r : Int), i ≤ 9 ∧ n = 9 - i ∧ s.sl 8 = .val (.one (vi i)) ∧ s.sl 1 = .val (.one (vi r)) ∧ s.sl 0 = .val (.one (slr 3 ANode.vs p nodes)) ∧ s.sl 2 = .val (.one (vu l)) ∧ goF nodes l (9 - i) r = goF nodes l 9 ref) 9 ⟨0, ref, by omega, rfl, by simp, by simp, by simp, by simp, rfl⟩ ?_))
  rintro n s ⟨i, r, hi, rfl, h8, h1, h0, h2, hg⟩ K3 hK3
  have fin : ∀ (s : S) (x : Int) (b : Bool), s.sl 6 = .val (.one (vi x)) → s.sl 7 = .val (.one (vb b)) → goF nodes l 9 ref = (x, b) → Q .ret s := fun s x b e6 e7 e => by
    refine (hQ _ ⟨[.one (vi x), .one (vb b)], [], by simp [resL, e6, e7], rfl, by simp, ?_⟩).2
    simp [packS, SV.mapC, V1.mapC, C.lift, C.ren0, e]
  refine V_seq_k fun K4 hK4 => V_reg_k (by decide) fun K hK => ?_
  simp [h8]
  refine hK _ (V_cond (t := decide ((i : Int) < 9)) (by simp) (by simp) (fun h => ?_) (fun h => ?_))
  · simp at h
    obtain ⟨m, hm⟩ : ∃ m, 9 - i = m + 1 := ⟨8 - i, by omega⟩
    rw [hm, goF] at hg
    refine V_skip (hK4 _ (V_seq_k fun K5 hK5 => V_block (V_seq_k fun K6 hK6 => V_reg_k (by decide) fun K hK => ?_)))
    simp [h1]
    refine hK _ (V_cond (t := decide (r < 0)) (by simp) (by simp) (fun h => ?_) (fun h => ?_))
    · simp at h
      rw [if_pos h] at hg
      refine V_reg_k (by decide) fun K hK => ?_
      simp [h1]
      refine hK _ (V_ret (fin _ _ _ (by simp) (by simp) hg.symm))
    · simp at h
      have hr : 0 ≤ r := h
      rw [if_neg (by omega)] at hg
      refine V_skip (hK6 _ (V_seq_k fun K7 hK7 => V_reg_k (by decide) fun K hK => ?_))
      have fall : ∀ s, s.sl 40 = .val (.one (vb true)) → goF nodes l 9 ref = (0, false) → K s := fun s e34 e => by
        refine hK _ (V_cond (t := true) (by simp [e34]) (by simp) (fun _ => ?_) (fun h => by cases h))
        refine V_reg_k (by decide) fun K hK => ?_
        simp
        exact hK _ (V_ret (fin _ _ _ (by simp) (by simp) e))
      cases hn : nodes[r.toNat]? with
      | none =>
        have hlen : nodes.length ≤ r.toNat := List.getElem?_eq_none_iff.1 hn
        have hc : (nodes.length : Int) ≤ r := by omega
        rw [hn] at hg
        simp [h1, h0, guardS, hc]
        exact fall _ (by simp) hg.symm
      | some x =>
        have hlt : r.toNat < nodes.length := (List.getElem?_eq_some_iff.1 hn).1
        have hc : ¬ (nodes.length : Int) ≤ r := by omega
        rw [hn] at hg
        simp only at hg
        by_cases hp1 : x.p < 0
        · rw [if_pos (.inl hp1)] at hg
          simp [h1, h0, guardS, hc, rows_get ANode.vs hn, ANode.vs, hp1, hr]
          exact fall _ (by simp) hg.symm
        by_cases hp2 : 7 < x.p
        · rw [if_pos (.inr (by omega))] at hg
          simp [h1, h0, guardS, hc, rows_get ANode.vs hn, ANode.vs, hp1, hp2, hr]
          exact fall _ (by simp) hg.symm
        rw [if_neg (by omega)] at hg
        by_cases hi8 : i = 8
        · subst hi8
          have : m = 0 := by omega
          subst this
          simp [h1, h0, h8, guardS, hc, rows_get ANode.vs hn, ANode.vs, hp1, hp2, hr]
          exact fall _ (by simp) hg.symm
        have hi8' : ¬ (i : Int) = 8 := by omega
        simp [h1, h0, h8, guardS, hc, rows_get ANode.vs hn, ANode.vs, hp1, hp2, hr, hi8']
        refine hK _ (V_cond (t := false) (by simp) (by simp) (fun h => by cases h) (fun _ => V_skip (hK7 _ (V_reg_k (by decide) fun K hK => ?_))))
        simp [h1, h0, h2, rows_get ANode.vs hn, ANode.vs, hr]
        first | refine ⟨hr, ?_⟩ | skip
        refine call0_V 1 rfl (by decide) (by decide) (by rfl) rfl rfl (args := [.one (vu l), .one (vi x.p)]) (by simp [S.hand, SV.mapC, V1.mapC, C.lift, C.out0]) (bit_spec l x.p hl0 hl1 (by omega)) ?_
        rintro res ob' rfl
        have hbit : bitR l x.p = bitE l x.p := by
          have h3 := bit_all ⟨x.p.toNat, by omega⟩ ⟨l.toNat, by omega⟩
          have e1 : ((x.p.toNat : Nat) : Int) = x.p := by omega
          have e2 : ((l.toNat : Nat) : Int) = l := by omega
          rw [← e1, ← e2]
          exact h3.symm
        simp [SV.mapC, V1.mapC, C.lift, C.ren0, hbit]
        have hw : IntKind.i64.wrap ((i : Int) + 1) = i + 1 := wrap_i64 (by omega) (by omega)
        refine hK _ (V_cond (t := bitE l x.p) (by simp) (by simp) (fun hb => ?_) (fun hb => ?_))
        · refine V_reg_e (by decide) fun K8 hK8 => ?_
          rw [if_pos hb] at hg
          simp [h1, h0, rows_get ANode.vs hn, ANode.vs, hr]
          refine hK8 _ (hK5 _ (V_reg_e (by decide) fun K9 hK9 => ?_))
          simp [h8, hw]
          refine hK9 _ (hK3 m _ (by omega) ⟨i + 1, x.hi, by omega, by omega, by simp, by simp, by simp [h0], by simp [h2], ?_⟩)
          rw [show 9 - (i + 1) = m by omega]; exact hg
        · refine V_reg_e (by decide) fun K8 hK8 => ?_
          rw [if_neg (by simp [hb])] at hg
          simp [h1, h0, rows_get ANode.vs hn, ANode.vs, hr]
          refine hK8 _ (hK5 _ (V_reg_e (by decide) fun K9 hK9 => ?_))
          simp [h8, hw]
          refine hK9 _ (hK3 m _ (by omega) ⟨i + 1, x.lo, by omega, by omega, by simp, by simp, by simp [h0], by simp [h2], ?_⟩)
          rw [show 9 - (i + 1) = m by omega]; exact hg
  · simp at h
    have : i = 9 := by omega
    subst this
    refine V_exit (show K1 _ from hK1 _ (V_reg_k (by decide) fun K hK => ?_))
    simp
    exact hK _ (V_ret (fin _ _ _ (by simp) (by simp) (hg.symm.trans rfl)))
end Go.Proofs.Ytjjmomkjjdilnaa
