/- What functions of the laid program do, as contracts over the engine. Conditions: each theorem bears its own. -/
import Derived.Test.YtjjmomkjjdilnaaTy
set_option linter.all false
set_option maxRecDepth 100000
namespace Go.Proofs.Ytjjmomkjjdilnaa
open Go Go.Eng Go.Proofs Go.Proofs.Ytjjmomkjjdilnaa.T
theorem getE {α : Type} {l : List α} {n : Nat} (h : n < l.length) : l[n]? = some l[n] := List.getElem?_eq_getElem h
structure ANode where
  p : Int
  lo : Int
  hi : Int
  deriving DecidableEq
structure Auto where
  props : Int
  accept : List Bool
  guard : List Int
  nodes : List ANode
/-- What is not said of a slice that is read: whose it is, its room. -/
structure Sp where
  t : Bool
  ys : List (List C)
  ex : Bool
def ANode.vs (n : ANode) : List Value := [.int .i64 n.p, .int .i64 n.lo, .int .i64 n.hi]
abbrev iv (n : Int) : List Value := [.int .i64 n]
abbrev bv (b : Bool) : List Value := [.bool b]
abbrev uv (n : Int) : List Value := [.int .u8 n]
abbrev slr {α : Type} (sz : Nat) (f : α → List Value) (p : Sp) (l : List α) : C := .sl p.t sz (rows f l) p.ys p.ex
def Auto.c (a : Auto) (p1 p2 p3 : Sp) : List C := [vi a.props, slr 1 bv p1 a.accept, slr 1 iv p2 a.guard, slr 3 ANode.vs p3 a.nodes]
def good (a : Auto) (ref below above : Int) : Bool :=
  if ref < 0 then decide (ref ≥ - a.accept.length) else decide (ref < below) && decide (((a.nodes[ref.toNat]?).map (·.p)).getD 0 > above)
theorem good_spec (a : Auto) (p1 p2 p3 : Sp) (ref below above : Int) (ha : a.accept.length < 2 ^ 62) (hb : below ≤ a.nodes.length) : Does Try.prog 126 [.agg (a.c p1 p2 p3), .one (vi ref), .one (vi below), .one (vi above)] (fun _ => none) (fun r _ => r = .val (.one (vb (good a ref below above)))) := by
  refine does_of' 30 [.tmp 8] Try.func126 rfl rfl rfl (show 4 ≤ 30 by decide) fun Q hQ => ?_
  refine V_reg_k (by decide) fun K hK => ?_
  simp [Auto.c]
  refine hK _ (V_seq_k fun K1 hK1 => ?_)
  refine V_reg_k (by decide) fun K hK => ?_
  simp
  refine hK _ (V_cond (t := decide (ref < 0)) (by simp) (by simp) (fun h => ?_) (fun h => ?_))
  · simp at h
    refine V_reg_k (by decide) fun K hK => ?_
    simp
    refine hK _ (V_ret (hQ _ ⟨_, [], by simp [resL]; rfl, rfl, by simp, ?_⟩).2)
    rw [wrap_i64 (by omega) (by omega)]
    simp [packS, SV.mapC, V1.mapC, C.lift, C.ren0, good, h]
  · simp at h
    refine V_skip (hK1 _ ?_)
    refine V_reg_k (by decide) fun K hK => ?_
    by_cases h2 : ref < below
    · have hg : a.nodes[ref.toNat]? = some a.nodes[ref.toNat] := getE (by omega)
      simp [guardS, h2, rows_get ANode.vs hg, ANode.vs]
      refine ⟨h, hK _ (V_ret (hQ _ ⟨_, [], by simp [resL]; rfl, rfl, by simp, ?_⟩).2)⟩
      simp [packS, SV.mapC, V1.mapC, C.lift, C.ren0, good, h2, hg]
      omega
    · simp [guardS, h2]
      refine hK _ (V_ret (hQ _ ⟨_, [], by simp [resL]; rfl, rfl, by simp, ?_⟩).2)
      simp [packS, SV.mapC, V1.mapC, C.lift, C.ren0, good, h2]
      omega
/-- A list that is lent: its marks so far. -/
def lentI (l : List Int) (k : Nat) : List Int := (l ++ (List.range k).map fun (j : Nat) => (7700 + l.length + j : Int)) ++ List.replicate (3 - k) 0
theorem lentI_get (l : List Int) {k : Nat} (h : k < 3) : (lentI l k)[l.length + k]? = some 0 := by
  rw [lentI, List.getElem?_append_right (by simp), List.getElem?_replicate]
  simp; omega
theorem lentI_set (l : List Int) {k : Nat} (h : k < 3) : (lentI l k).set (l.length + k) (7700 + (l.length + k)) = lentI l (k + 1) := by
  rw [lentI, List.set_append_right _ _ (by simp)]
  obtain ⟨m, hm⟩ : ∃ m, 3 - k = m + 1 := ⟨2 - k, by omega⟩
  have h2 : 3 - (k + 1) = m := by omega
  simp [hm, lentI, h2, List.replicate_succ, List.range_succ]
  omega
theorem lentI_done (l : List Int) : lentI l 3 = l ++ [7700 + (l.length : Int), 7700 + (l.length : Int) + 1, 7700 + (l.length : Int) + 2] := by
  simp [lentI, List.range_succ]
theorem lentInts_spec (p : Sp) (l : List Int) (hl : l.length ≤ 1000000) : Does Try.prog 12 [.one (slr 1 iv p l)] (fun _ => none) (fun r ob => r = .val (.one (.own 0)) ∧ ob 0 = some (.row 3 [vi 0] (rows iv l) (rows iv [7700 + (l.length : Int), 7700 + (l.length : Int) + 1, 7700 + (l.length : Int) + 2]) true)) := by
  have hw : IntKind.i64.wrap (↑l.length + 3) = ↑l.length + 3 := wrap_i64 (by omega) (by omega)
  have ht : ((l.length : Int) + 3).toNat = l.length + 3 := by omega
  refine does_of' 29 [.tmp 2] Try.func12 rfl rfl rfl (show 1 ≤ 29 by decide) fun Q hQ => ?_
  refine V_reg_k (by decide) fun K hK => ?_
  simp
  refine hK _ (V_reg_k (by decide) fun K hK => ?_)
  simp [hw, ht]
  refine ⟨by omega, hK _ (V_reg_k (by decide) fun K hK => ?_)⟩
  simp
  refine vo_of rfl (V_copy (by decide) (by decide) (id := 8) rfl rfl rfl el30 ty3 rfl (.inr rfl) ?_)
  simp
  refine hK _ (V_seq_k fun K2 hK2 => V_reg_k (by decide) fun K hK => ?_)
  simp
  refine hK _ (V_block (V_loop_k (fun n s => ∃ k, k ≤ 3 ∧ n = 3 - k ∧ s.sl 4 = .val (.one (vi (l.length + k))) ∧ s.sl 3 = .val (.one (.own 8)) ∧ s.sl 0 = .val (.one (slr 1 iv p l)) ∧ s.ob 8 = some (.row 3 [vi 0] (rows iv (lentI l k)) [] true)) 3 ⟨0, by omega, rfl, by simp, by simp, by simp, ?_⟩ ?_))
  · simp [lentI]
    rw [List.take_of_length_le (by omega)]
    rfl
  rintro n s ⟨k, hk, rfl, h4, h3, h0, h8⟩ K3 hK3
  have hlen : (lentI l k).length = l.length + 3 := by simp [lentI]; omega
  refine V_seq_k fun K4 hK4 => V_reg_k (by decide) fun K hK => ?_
  simp [h4, h3, h8]
  refine hK _ (V_cond (t := decide ((l.length : Int) + k < (lentI l k).length)) (by simp) (by simp) (fun h => ?_) (fun h => ?_))
  · simp at h
    rw [hlen] at h
    refine V_skip (hK4 _ (V_seq_k fun K hK => V_block (V_reg_e (by decide) fun K5 hK5 => ?_)))
    have hg := rows_get iv (lentI_get l (show k < 3 by omega))
    have hw2 : IntKind.i64.wrap (7700 + (↑l.length + ↑k)) = 7700 + (↑l.length + ↑k) := wrap_i64 (by omega) (by omega)
    have hw3 : IntKind.i64.wrap ((↑l.length + ↑k) + 1) = (↑l.length + ↑k) + 1 := wrap_i64 (by omega) (by omega)
    have ht2 : ((l.length : Int) + k).toNat = l.length + k := by omega
    simp [h4, h3, h8, hw2, ht2, hg]
    refine ⟨by omega, hK5 _ (hK _ (V_reg_e (by decide) fun K6 hK6 => ?_))⟩
    simp [h4, hw3]
    refine hK6 _ (hK3 (3 - (k + 1)) _ (by omega) ⟨k + 1, by omega, rfl, by simp; omega, by simp [h3], by simp [h0], ?_⟩)
    simp
    have := rows_set iv (lentI l k) (l.length + k) (7700 + (l.length + k))
    rw [lentI_set l (by omega)] at this
    exact this
  · simp at h
    rw [hlen] at h
    have : k = 3 := by omega
    subst this
    refine V_exit (show K2 _ from hK2 _ (V_reg_k (by decide) fun K hK => ?_))
    simp [h0, h3]
    refine vo_of rfl (V_cut (by decide) (by decide) (id := 8) (n := l.length) (e := 3) (z := [vi 0]) (xs := rows iv (lentI l 3)) (ys := []) (by simp) (by simp [h8]) (by simp; rfl) rfl (by simp [hlen]) el30 rfl ?_)
    simp
    refine hK _ (V_ret (hQ _ ⟨_, [(8, 0)], by simp [resL]; rfl, by decide, by simp, ?_⟩).2)
    simp [packS, SV.mapC, V1.mapC, C.lift, C.ren0, Ren.ob, Ren.inv, Ren.at, Ob.mapC, lentI_done]
end Go.Proofs.Ytjjmomkjjdilnaa
