/- What functions of the laid program do, as contracts over the engine. Conditions: each theorem bears its own. -/
import Derived.Test.YtjjmomkjjdilnaaRA
set_option linter.all false
namespace Go.Proofs.Ytjjmomkjjdilnaa
open Go Go.Eng Go.Proofs Go.Proofs.Ytjjmomkjjdilnaa.T
def valI : Value → Int
  | .int _ n => n
  | _ => 0
/-- Entries that are still there, when some have been met. -/
def keepE (was : Int) (seen : Array Nat) (e : MapEntry) : Bool := !(seen.contains e.born && decide (was ≤ valI e.val))
theorem born_inj' : ∀ {l : List MapEntry}, (l.map (·.born)).Nodup → ∀ {x y : MapEntry}, x ∈ l → y ∈ l → x.born = y.born → x = y
  | [], _, _, _, hx, _, _ => by simp at hx
  | a :: r, hp, x, y, hx, hy, h => by
    rw [List.map_cons, List.nodup_cons] at hp
    rcases List.mem_cons.1 hx with rfl | hx'
    · rcases List.mem_cons.1 hy with rfl | hy'
      · rfl
      · exact absurd (List.mem_map.2 ⟨y, hy', h.symm⟩) hp.1
    · rcases List.mem_cons.1 hy with rfl | hy'
      · exact absurd (List.mem_map.2 ⟨x, hx', h⟩) hp.1
      · exact born_inj' hp.2 hx' hy' h
theorem keep_stay {was : Int} {seen : Array Nat} {e : MapEntry} {l : List MapEntry} (hn : (l.map (·.born)).Nodup) (he : e ∈ l) (hv : valI e.val < was) : l.filter (keepE was (seen.push e.born)) = l.filter (keepE was seen) := by
  refine List.filter_congr fun x hx => ?_
  unfold keepE
  by_cases hb : x.born = e.born
  · obtain rfl := born_inj' hn hx he hb
    have : decide (was ≤ valI x.val) = false := by simp; omega
    simp [this]
  · simp [Array.contains_push, hb]
theorem keep_gone {was : Int} {seen : Array Nat} {e : MapEntry} {l : List MapEntry} (hn : (l.map (·.born)).Nodup) (he : e ∈ l) (hv : was ≤ valI e.val) : l.filter (keepE was (seen.push e.born)) = (l.filter (keepE was seen)).filter (fun x => x.born != e.born) := by
  rw [List.filter_filter]
  refine List.filter_congr fun x hx => ?_
  unfold keepE
  by_cases hb : x.born = e.born
  · obtain rfl := born_inj' hn hx he hb
    simp [hv]
  · simp [Array.contains_push, hb]
theorem erase_born : ∀ {l : List MapEntry} {j : Nat} {e : MapEntry}, (l.map (·.born)).Nodup → l[j]? = some e → l.eraseIdx j = l.filter (fun x => x.born != e.born)
  | [], j, e, _, h => by simp at h
  | a :: r, 0, e, hp, h => by
    simp at h
    subst h
    rw [List.map_cons, List.nodup_cons] at hp
    simp only [List.eraseIdx_cons_zero, List.filter_cons, bne_self_eq_false, Bool.false_eq_true, if_false]
    exact (List.filter_eq_self.2 fun x hx => by
      simp only [bne_iff_ne, ne_eq]
      exact fun e => hp.1 (List.mem_map.2 ⟨x, hx, e⟩)).symm
  | a :: r, j + 1, e, hp, h => by
    simp at h
    rw [List.map_cons, List.nodup_cons] at hp
    have hne : a.born ≠ e.born := fun e' => hp.1 (List.mem_map.2 ⟨e, List.mem_of_getElem? h, e'.symm⟩)
    simp only [List.eraseIdx_cons_succ, List.filter_cons, bne_iff_ne, ne_eq, hne, not_false_eq_true, if_true]
    rw [erase_born hp.2 h]
theorem idxs_take_aux (was : Nat) : ∀ (l : List ANode) (k : Nat), ((l.zipIdx k).map fun p => ((Value.agg p.1.vs.toArray, Value.int .i64 p.2) : Value × Value)).filter (fun p => decide (valI p.2 < was)) = ((l.take (was - k)).zipIdx k).map fun p => (.agg p.1.vs.toArray, .int .i64 p.2)
  | [], k => by simp
  | x :: l, k => by
    rw [List.zipIdx_cons, List.map_cons, List.filter_cons]
    by_cases h : k < was
    · obtain ⟨m, hm⟩ : ∃ m, was - k = m + 1 := ⟨was - k - 1, by omega⟩
      have : decide (valI (.int .i64 (k : Int)) < (was : Int)) = true := by simp [valI]; omega
      simp only [this, if_true]
      rw [hm, List.take_succ_cons, List.zipIdx_cons, List.map_cons, idxs_take_aux was l (k + 1), show was - (k + 1) = m by omega]
    · have : decide (valI (.int .i64 (k : Int)) < (was : Int)) = false := by simp [valI]; omega
      simp only [this, Bool.false_eq_true, if_false]
      rw [show was - k = 0 by omega, idxs_take_aux was l (k + 1), show was - (k + 1) = 0 by omega]
      simp
theorem idxs_take (l : List ANode) (was : Nat) : (idxs l).filter (fun p => decide (valI p.2 < was)) = idxs (l.take was) := by
  have := idxs_take_aux was l 0
  simpa [idxs] using this
theorem keep_end {was : Int} {seen : Array Nat} {l0 l : List MapEntry} (h : l = l0.filter (keepE was seen)) (hall : ∀ x ∈ l, seen.contains x.born = true) : l = l0.filter (fun e => decide (valI e.val < was)) := by
  rw [h]
  refine List.filter_congr fun x hx => ?_
  by_cases hv : was ≤ valI x.val
  · have h2 : decide (valI x.val < was) = false := by simp; omega
    rw [h2]
    cases hk : keepE was seen x with
    | false => rfl
    | true =>
      have h3 := hall x (by rw [h]; exact List.mem_filter.2 ⟨hx, hk⟩)
      simp [keepE, hv] at hk
      simp at h3
      contradiction
  · have h2 : decide (valI x.val < was) = true := by simp; omega
    have h3 : decide (was ≤ valI x.val) = false := by simp; omega
    simp [keepE, h2, h3]
theorem filter_map_snd {l0 : List MapEntry} (p : Value → Bool) : (l0.filter fun e => p e.val).map (fun e => (e.key, e.val)) = (l0.map fun e => (e.key, e.val)).filter fun q => p q.2 := by
  rw [List.filter_map]; rfl
end Go.Proofs.Ytjjmomkjjdilnaa
