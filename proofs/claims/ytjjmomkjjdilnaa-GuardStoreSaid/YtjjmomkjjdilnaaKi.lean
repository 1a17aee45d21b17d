/- What functions of the laid program do, as contracts over the engine. Conditions: each theorem bears its own. -/
import Derived.Test.YtjjmomkjjdilnaaSn
set_option linter.all false
set_option maxRecDepth 100000
namespace Go.Proofs.Ytjjmomkjjdilnaa
open Go Go.Eng Go.Proofs Go.Proofs.Ytjjmomkjjdilnaa.T
def lentMarks (n : Nat) : List Int := [7700 + (n : Int), 7700 + (n : Int) + 1, 7700 + (n : Int) + 2]
theorem keptInts_spec (p : Sp) (t : Bool) (xs ys l : List Int) (hl : l.length ≤ 1000000) (hx : xs.length + ys.length < 2 ^ 62) : Does Try.prog 15 [.one (.sl t 1 (rows iv xs) (rows iv ys) true), .one (slr 1 iv p l)] (fun _ => none) (fun r _ => r = .val (.one (vb (decide (xs.length = l.length ∧ xs ++ ys = l ++ lentMarks l.length))))) := by
  refine does_of' 23 [.tmp 4] Try.func15 rfl rfl rfl (show 2 ≤ 23 by decide) fun Q hQ => ?_
  have fin : ∀ (s : S) (b : Bool), s.sl 4 = .val (.one (vb b)) → b = decide (xs.length = l.length ∧ xs ++ ys = l ++ lentMarks l.length) → Q .ret s := fun s b e4 e => by
    refine (hQ _ ⟨[.one (vb b)], [], by simp [resL, e4], rfl, by simp, ?_⟩).2
    simp [packS, SV.mapC, V1.mapC, C.lift, C.ren0, e]
  refine V_reg_k (by decide) fun K hK => ?_
  simp
  refine hK _ (V_regt_k (.hoist 0 (.hoist 1 (.hoist 2 (.hoist 3 (.hoist 4 (.hoist 5 (.hoist 6 (.hoist 7 (.hoist 8 (.hoist 9 (.hoist 10 (.hoist 12 (.hoist 13 (.hoist 14 (.alt 11 (.alt 15 (.alt 16 (.hoist 17 (.hoist 18 .done)) .nil) .nil) .nil))))))))))))))) mixed (by decide +kernel) (by decide +kernel) (by decide) (by simp [Tr.lit]; rfl) fun K hK => ?_)
  have cont : ∀ s' b, s'.sl 4 = .val (.one (vb b)) → b = decide (xs.length = l.length ∧ xs ++ ys = l ++ lentMarks l.length) → K s' := fun s' b e4 e => hK _ (V_ret (fin _ b e4 e))
  by_cases h : (xs.length : Int) = l.length
  case neg =>
    simp [guardS, h]
    exact cont _ _ (by simp; rfl) (by symm; simp; omega)
  have hlx : xs.length = l.length := by omega
  have hw3 : IntKind.i64.wrap (↑l.length + 3) = ↑l.length + 3 := wrap_i64 (by omega) (by omega)
  simp [guardS, h, hw3]
  refine ⟨_, W_cap (m := xs.length + ys.length) (by decide) rfl (.inr ⟨t, 1, rows iv xs, rows iv ys, by simp, by simp⟩), _, W_cut_sl (tg := t) (sz := 1) (xs := rows iv xs) (ys := rows iv ys) (ex := true) (n := xs.length + ys.length) (by decide) (by simp) (by simp; rfl) rfl (by simp) el30 rfl, ?_⟩
  refine call1_V 1 16 0 (by decide) rfl (by decide) (by decide) (by rfl) rfl rfl (args := [.one (slr 1 iv p l)]) (by simp [S.hand, SV.mapC, V1.mapC, C.lift, C.out0]) (lentInts_spec p l hl) ?_
  rintro res ob' ⟨rfl, ho⟩
  simp [guardS, SV.mapC, V1.mapC, C.lift, C.ren0, C.drop0, Ren.at]
  refine V_cut (by decide) (by decide) (id := 16) (n := l.length + 3) (e := 3) (z := [vi 0]) (xs := rows iv l) (ys := rows iv (lentMarks l.length)) (by simp) (by simp [back_ob, Ren.inv, ho, Ob.mapC, C.lift, C.ren0, lentMarks]) (k := .i64) (m := (l.length : Int) + 3) (by simp [SV.mapC, V1.mapC, C.lift, C.drop0]) (by simp) (by simp [lentMarks]) el30 rfl ?_
  simp [guardS, SV.mapC, V1.mapC, C.lift, C.drop0]
  have hr1 : (rows iv xs ++ rows iv ys).take (xs.length + ys.length) = rows iv (xs ++ ys) := by rw [List.take_of_length_le (by simp)]; simp
  have hr2 : (rows iv xs ++ rows iv ys).drop (xs.length + ys.length) = [] := by rw [List.drop_of_length_le (by simp)]
  have hr3 : (rows iv l ++ rows iv (lentMarks l.length)).take (l.length + 3) = rows iv (l ++ lentMarks l.length) := by rw [List.take_of_length_le (by simp [lentMarks])]; simp
  have hr4 : (rows iv l ++ rows iv (lentMarks l.length)).drop (l.length + 3) = [] := by rw [List.drop_of_length_le (by simp [lentMarks])]
  simp only [hr1, hr2, hr3, hr4]
  refine call0_V 1 rfl (by decide) (by decide) (by rfl) rfl rfl (args := [.one (slr 1 iv ⟨t, [], true⟩ (xs ++ ys)), .one (slr 1 iv ⟨true, [], true⟩ (l ++ lentMarks l.length))]) (by simp [S.hand, SV.mapC, V1.mapC, C.lift, C.out0, C.drop0, C.frz, Ren.at]) (sameInts_spec _ _ _ _ (by simp; omega)) ?_
  rintro res ob' rfl
  simp [guardS, SV.mapC, V1.mapC, C.lift, C.ren0, C.drop0]
  exact cont _ _ (by simp; rfl) (by simp [hlx])
end Go.Proofs.Ytjjmomkjjdilnaa
