/- What functions of the laid program do, as contracts over the engine. Conditions: each theorem bears its own. -/
import Derived.Test.YtjjmomkjjdilnaaGs
set_option linter.all false
namespace Go.Proofs.Ytjjmomkjjdilnaa
open Go Go.Eng Go.Proofs
def evens (w : List Int) (k : Nat) : List Int := (List.range k).map fun j => w.getD (2 * j) 0
def odds (w : List Int) (k : Nat) : List Int := (List.range k).map fun j => w.getD (2 * j + 1) 0
theorem evens_succ (w : List Int) (k : Nat) : evens w (k + 1) = evens w k ++ [w.getD (2 * k) 0] := by simp [evens, List.range_succ]
theorem odds_succ (w : List Int) (k : Nat) : odds w (k + 1) = odds w k ++ [w.getD (2 * k + 1) 0] := by simp [odds, List.range_succ]
@[simp] theorem evens_len (w : List Int) (k : Nat) : (evens w k).length = k := by simp [evens]
@[simp] theorem odds_len (w : List Int) (k : Nat) : (odds w k).length = k := by simp [odds]
theorem evens_all {p : Int → Prop} {w : List Int} {k : Nat} (h : ∀ x ∈ w, p x) (hk : 2 * k ≤ w.length) : ∀ x ∈ evens w k, p x := fun x hx => by
  obtain ⟨j, hj, rfl⟩ := List.mem_map.1 hx
  have : 2 * j < w.length := by have := List.mem_range.1 hj; omega
  rw [List.getD_eq_getElem?_getD, List.getElem?_eq_getElem this]
  exact h _ (List.getElem_mem _)
theorem odds_all {p : Int → Prop} {w : List Int} {k : Nat} (h : ∀ x ∈ w, p x) (hk : 2 * k ≤ w.length) : ∀ x ∈ odds w k, p x := fun x hx => by
  obtain ⟨j, hj, rfl⟩ := List.mem_map.1 hx
  have : 2 * j + 1 < w.length := by have := List.mem_range.1 hj; omega
  rw [List.getD_eq_getElem?_getD, List.getElem?_eq_getElem this]
  exact h _ (List.getElem_mem _)
/-- What adding a list does: the reference, and the nodes. -/
def addF : Nat → Int → List Int → List ANode → Int × List ANode
  | 0, _, w, l => (-1 - w.getD 0 0, l)
  | d + 1, p, w, l =>
    let r1 := addF d (p + 1) (evens w (2 ^ d)) l
    let r2 := addF d (p + 1) (odds w (2 ^ d)) r1.2
    if r1.1 = r2.1 then (r1.1, r2.2) else
    if ⟨p, r1.1, r2.1⟩ ∈ r2.2 then (r2.2.idxOf ⟨p, r1.1, r2.1⟩, r2.2) else (r2.2.length, r2.2 ++ [⟨p, r1.1, r2.1⟩])
theorem addF_len : ∀ (d : Nat) (p : Int) (w : List Int) (l : List ANode), l.length ≤ (addF d p w l).2.length ∧ (addF d p w l).2.length + 1 ≤ l.length + 2 ^ d
  | 0, p, w, l => by simp [addF]
  | d + 1, p, w, l => by
    have h1 := addF_len d (p + 1) (evens w (2 ^ d)) l
    have h2 := addF_len d (p + 1) (odds w (2 ^ d)) (addF d (p + 1) (evens w (2 ^ d)) l).2
    rw [addF]
    have hp : 2 ^ (d + 1) = 2 ^ d + 2 ^ d := by omega
    split
    · simp only; omega
    · split
      · simp only; omega
      · simp only [List.length_append, List.length_singleton]; omega
theorem addF_nodup : ∀ (d : Nat) (p : Int) (w : List Int) (l : List ANode), l.Nodup → (addF d p w l).2.Nodup
  | 0, p, w, l, h => by simpa [addF] using h
  | d + 1, p, w, l, h => by
    have h1 := addF_nodup d (p + 1) (evens w (2 ^ d)) l h
    have h2 := addF_nodup d (p + 1) (odds w (2 ^ d)) _ h1
    rw [addF]
    split
    · exact h2
    · split
      · exact h2
      · rename_i hn
        rw [List.nodup_append]
        refine ⟨h2, by simp, fun a ha b hb => ?_⟩
        simp at hb
        subst hb
        rintro rfl
        exact hn ha
/-- References that are told lie in bounds. -/
theorem addF_ref : ∀ (d : Nat) (p : Int) (w : List Int) (l : List ANode), (∀ x ∈ w, 0 ≤ x ∧ x ≤ 1048575) → w.length = 2 ^ d → -1048576 ≤ (addF d p w l).1 ∧ (addF d p w l).1 ≤ l.length + 2 ^ d
  | 0, p, w, l, h, hw => by
    match w, hw with
    | [x], _ => have := h x (by simp); simp [addF]; omega
  | d + 1, p, w, l, h, hw => by
    have hp : 2 ^ (d + 1) = 2 ^ d + 2 ^ d := by omega
    have h1 := addF_ref d (p + 1) (evens w (2 ^ d)) l (evens_all h (by omega)) (by simp)
    have l1 := addF_len d (p + 1) (evens w (2 ^ d)) l
    have l2 := addF_len d (p + 1) (odds w (2 ^ d)) (addF d (p + 1) (evens w (2 ^ d)) l).2
    rw [addF]
    have hp' : (2 : Int) ^ (d + 1) = 2 ^ d + 2 ^ d := by omega
    have hq : (0 : Int) ≤ 2 ^ d := Int.pow_nonneg (by omega)
    have hc : ((2 ^ d : Nat) : Int) = (2 : Int) ^ d := by simp
    split
    · simp only; omega
    · split
      · rename_i hm
        have := List.idxOf_lt_length_of_mem hm
        simp only; omega
      · simp only; omega
/-- The entries of a store's map. -/
def idxs (l : List ANode) : List (Value × Value) := l.zipIdx.map fun p => (.agg p.1.vs.toArray, .int .i64 p.2)
theorem idxs_app (l : List ANode) (x : ANode) : idxs (l ++ [x]) = idxs l ++ [(.agg x.vs.toArray, .int .i64 l.length)] := by simp [idxs, List.zipIdx_append]
theorem vs_inj {x y : ANode} (h : x.vs.toArray = y.vs.toArray) : x = y := by
  cases x; cases y
  simp [ANode.vs] at h
  simp [h]
theorem idxs_mem {l : List ANode} {x : ANode} {v : Value} (h : (Value.agg x.vs.toArray, v) ∈ idxs l) (hn : l.Nodup) : x ∈ l ∧ v = .int .i64 (l.idxOf x) := by
  obtain ⟨⟨y, i⟩, hy, e⟩ := List.mem_map.1 h
  simp only [Prod.mk.injEq, Value.agg.injEq] at e
  obtain ⟨e1, rfl⟩ := e
  obtain rfl := vs_inj e1
  rw [List.mem_zipIdx_iff_getElem?] at hy
  obtain ⟨hlt, he⟩ := List.getElem?_eq_some_iff.1 hy
  simp only at he
  refine ⟨he ▸ List.getElem_mem _, ?_⟩
  have : l.idxOf y = i := by rw [← he]; exact hn.idxOf_getElem i hlt
  rw [this]
theorem idxs_key {l : List ANode} {p : Value × Value} (h : p ∈ idxs l) : ∃ x ∈ l, ∃ i : Nat, p = (.agg x.vs.toArray, .int .i64 i) := by
  obtain ⟨⟨y, i⟩, hy, e⟩ := List.mem_map.1 h
  rw [List.mem_zipIdx_iff_getElem?] at hy
  exact ⟨y, List.mem_of_getElem? hy, i, e.symm⟩
theorem idxs_no {l : List ANode} {x : ANode} (h : ∀ p ∈ idxs l, p.1 ≠ .agg x.vs.toArray) : x ∉ l := fun hx => by
  obtain ⟨i, hi, he⟩ := List.mem_iff_getElem.1 hx
  refine h (.agg x.vs.toArray, .int .i64 i) (List.mem_map.2 ⟨(x, i), ?_, rfl⟩) rfl
  rw [List.mem_zipIdx_iff_getElem?]
  simp [List.getElem?_eq_getElem hi, he]
end Go.Proofs.Ytjjmomkjjdilnaa
