/- What functions of the laid program do, as contracts over the engine. Conditions: each theorem bears its own. -/
import Derived.Test.YtjjmomkjjdilnaaChk
set_option linter.all false
set_option maxRecDepth 100000
namespace Go.Proofs.Ytjjmomkjjdilnaa
open Go Go.Eng Go.Proofs Go.Proofs.Ytjjmomkjjdilnaa.T
theorem fits_spec (a : Auto) (p1 p2 p3 : Sp) (ref below above : Int) (ha : a.accept.length < 2 ^ 62) (hb : below ≤ a.nodes.length) : Does Try.prog 125 [.agg (a.c p1 p2 p3), .one (vi ref), .one (vi below), .one (vi above)] (fun _ => none) (fun r _ => r = .val (.one (vb (good a ref below above)))) := by
  refine does_of' 30 [.tmp 8] Try.func125 rfl rfl rfl (show 4 ≤ 30 by decide) fun Q hQ => ?_
  refine V_reg_k (by decide) fun K hK => ?_
  simp [Auto.c]
  refine hK _ (V_seq_k fun K1 hK1 => ?_)
  refine V_reg_k (by decide) fun K hK => ?_
  simp
  refine hK _ (V_cond (t := decide (ref < 0)) (by simp) (by simp) (fun h => ?_) (fun h => ?_))
  · simp at h
    refine V_reg_k (by decide) fun K hK => ?_
    simp
    refine hK _ (V_ret (hQ _ ⟨_, [], by simp [resL]; rfl, rfl, by simp, ?_⟩).2)
    rw [wrap_i64 (by omega) (by omega)]
    simp [packS, SV.mapC, V1.mapC, C.lift, C.ren0, good, h]
  · simp at h
    refine V_skip (hK1 _ ?_)
    refine V_reg_k (by decide) fun K hK => ?_
    by_cases h2 : ref < below
    · have hg : a.nodes[ref.toNat]? = some a.nodes[ref.toNat] := getE (by omega)
      simp [guardS, h2, rows_get ANode.vs hg, ANode.vs]
      refine ⟨h, hK _ (V_ret (hQ _ ⟨_, [], by simp [resL]; rfl, rfl, by simp, ?_⟩).2)⟩
      simp [packS, SV.mapC, V1.mapC, C.lift, C.ren0, good, h2, hg]
      omega
    · simp [guardS, h2]
      refine hK _ (V_ret (hQ _ ⟨_, [], by simp [resL]; rfl, rfl, by simp, ?_⟩).2)
      simp [packS, SV.mapC, V1.mapC, C.lift, C.ren0, good, h2]
      omega
/-- Halved so often. -/
def halve : Nat → Int → Int
  | 0, v => v
  | n + 1, v => halve n (v.tdiv 2)
theorem halve_bnd : ∀ (n : Nat) (v : Int), 0 ≤ v → v ≤ 255 → 0 ≤ halve n v ∧ halve n v ≤ 255
  | 0, v, h1, h2 => ⟨h1, h2⟩
  | n + 1, v, h1, h2 => by
    have h3 : 0 ≤ v.tdiv 2 := Int.tdiv_nonneg h1 (by omega)
    have h4 : v.tdiv 2 ≤ 255 := by rw [Int.tdiv_eq_ediv_of_nonneg h1]; omega
    exact halve_bnd n _ h3 h4
theorem halve_last : ∀ (n : Nat) (v : Int), halve (n + 1) v = (halve n v).tdiv 2
  | 0, v => rfl
  | n + 1, v => halve_last n (v.tdiv 2)
def bitR (l p : Int) : Bool := decide ((halve p.toNat l).tmod 2 = 1)
theorem bit_spec (l p : Int) (h0 : 0 ≤ l) (h1 : l ≤ 255) (hp : p ≤ 1000) : Does Try.prog 140 [.one (vu l), .one (vi p)] (fun _ => none) (fun r _ => r = .val (.one (vb (bitR l p)))) := by
  refine does_of' 19 [.tmp 4] Try.func140 rfl rfl rfl (show 2 ≤ 19 by decide) fun Q hQ => ?_
  refine V_reg_k (by decide) fun K hK => ?_
  simp
  refine hK _ (V_reg_k (by decide) fun K hK => ?_)
  have hl : IntKind.i64.wrap l = l := wrap_i64 (by omega) (by omega)
  simp [hl]
  refine hK _ (V_seq_k fun K2 hK2 => V_reg_k (by decide) fun K hK => ?_)
  simp
  refine hK _ (V_block (V_loop_k (fun n s => ∃ k : Nat, k ≤ p.toNat ∧ n = p.toNat - k ∧ s.sl 6 = .val (.one (vi k)) ∧ s.sl 1 = .val (.one (vi p)) ∧ s.sl 5 = .val (.one (vi (halve k l)))) p.toNat ⟨0, by omega, by omega, by simp, by simp, by simp [halve]⟩ ?_))
  rintro n s ⟨k, hk, rfl, h6, h1', h5⟩ K3 hK3
  refine V_seq_k fun K4 hK4 => V_reg_k (by decide) fun K hK => ?_
  simp [h6, h1']
  refine hK _ (V_cond (t := decide ((k : Int) < p)) (by simp) (by simp) (fun h => ?_) (fun h => ?_))
  · simp only [decide_eq_true_eq] at h
    refine V_skip (hK4 _ (V_seq_k fun K5 hK5 => V_block (V_reg_e (by decide) fun K6 hK6 => ?_)))
    have hb := halve_bnd k l h0 h1
    have hb2 := halve_bnd (k + 1) l h0 h1
    rw [halve_last] at hb2
    have hw : IntKind.i64.wrap ((halve k l).tdiv 2) = (halve k l).tdiv 2 := wrap_i64 (by omega) (by omega)
    have hw1 : IntKind.i64.wrap ((k : Int) + 1) = k + 1 := wrap_i64 (by omega) (by omega)
    simp [h5, hw]
    refine hK6 _ (hK5 _ (V_reg_e (by decide) fun K9 hK9 => ?_))
    simp [h6, hw1]
    exact hK9 _ (hK3 (p.toNat - (k + 1)) _ (by omega) ⟨k + 1, by omega, rfl, by simp, by simp [h1'], by simp [halve_last]⟩)
  · simp only [decide_eq_false_iff_not] at h
    have : k = p.toNat := by omega
    subst this
    refine V_exit (show K2 _ from hK2 _ (V_reg_k (by decide) fun K hK => ?_))
    simp [h5]
    refine hK _ (V_ret (hQ _ ⟨[.one (vb (bitR l p))], [], by simp [resL, bitR], rfl, by simp, ?_⟩).2)
    simp [packS, SV.mapC, V1.mapC, C.lift, C.ren0]
end Go.Proofs.Ytjjmomkjjdilnaa
