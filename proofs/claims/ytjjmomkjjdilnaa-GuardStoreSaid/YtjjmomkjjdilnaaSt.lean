/- What functions of the laid program do, as contracts over the engine. Conditions: each theorem bears its own. -/
import Derived.Test.YtjjmomkjjdilnaaKi
set_option linter.all false
set_option maxRecDepth 100000
namespace Go.Proofs.Ytjjmomkjjdilnaa
open Go Go.Eng Go.Proofs Go.Proofs.Ytjjmomkjjdilnaa.T
abbrev z44 : List C := [vi 0, vi 0, vi 0]
theorem zv112 : zeroV Try.prog 112 = some [.v (.int .i64 0), .v (.slice none 0 0), .v (.map none)] := by rfl
theorem zv40 : zeroV Try.prog 40 = some [.v (.int .i64 0), .v (.slice none 0 0)] := by rfl
theorem gnew_spec (n : Int) : Does Try.prog 10 [.one (vi n)] (fun _ => none) (fun r ob => if n < 0 ∨ 8 < n then r = .tup [.one (.v (.pointer none)), .one (vi 2)] else
    r = .tup [.one (.ptr 0 0 0 0), .one (vi 0)] ∧ ob 0 = some (.box 112 [vi n, .own 1, .mh 2]) ∧ ob 1 = some (.row 44 z44 [] [] true) ∧ ob 2 = some (.mp [])) := by
  refine does_of' 14 [.tmp 2, .tmp 3] Try.func10 rfl rfl rfl (show 1 ≤ 14 by decide) fun Q hQ => ?_
  refine V_reg_k (by decide) fun K hK => ?_
  simp
  refine hK _ (V_seq_k fun K1 hK1 => V_reg_k (by decide) fun K hK => ?_)
  have bad : ∀ s, s.sl 9 = .val (.one (vb true)) → (n < 0 ∨ 8 < n) → K s := fun s e9 hn => by
    refine hK _ (V_cond (t := true) (by simp [e9]) (by simp) (fun _ => ?_) (fun h => by cases h))
    refine V_reg_k (by decide) fun K hK => ?_
    simp
    refine hK _ (V_ret (hQ _ ⟨_, [], by simp [resL]; rfl, rfl, by simp, ?_⟩).2)
    simp [hn, packS, SV.mapC, V1.mapC, C.lift, C.ren0]
  by_cases h1 : n < 0
  · simp [guardS, h1]
    exact bad _ (by simp) (.inl h1)
  by_cases h2 : 8 < n
  · simp [guardS, h1, h2]
    exact bad _ (by simp) (.inr h2)
  simp [guardS, h1, h2]
  refine hK _ (V_cond (t := false) (by simp) (by simp) (fun h => by cases h) (fun _ => V_skip (hK1 _ (V_reg_k (by decide) fun K hK => ?_))))
  simp
  refine vo_of rfl (V_makeMap (by decide) ?_)
  simp
  refine vo_of rfl (V_buildV (by decide) (by decide) zv112 fo112 (by simp [bldC]; rfl) ?_)
  simp
  refine hK _ (V_nilbox 13 1 20 44 (z := z44) (by simp; exact ⟨rfl, rfl⟩) rfl (by decide) (by simp) (by decide) (V_ret (hQ _ ⟨_, [(13, 0), (20, 1), (11, 2)], by simp [resL]; rfl, by decide, by simp, ?_⟩).2))
  simp [h1, h2, packS, SV.mapC, V1.mapC, C.lift, C.ren0, Ren.at, Ren.ob, Ren.inv, Ob.mapC]
theorem rnew_spec (n : Int) : Does Try.prog 11 [.one (vi n)] (fun _ => none) (fun r ob => if n < 0 ∨ 8 < n then r = .tup [.one (.v (.pointer none)), .one (vi 2)] else
    r = .tup [.one (.ptr 0 0 0 0), .one (vi 0)] ∧ ob 0 = some (.box 40 [vi n, .own 1]) ∧ ob 1 = some (.row 44 z44 [] [] true)) := by
  refine does_of' 13 [.tmp 2, .tmp 3] Try.func11 rfl rfl rfl (show 1 ≤ 13 by decide) fun Q hQ => ?_
  refine V_reg_k (by decide) fun K hK => ?_
  simp
  refine hK _ (V_seq_k fun K1 hK1 => V_reg_k (by decide) fun K hK => ?_)
  have bad : ∀ s, s.sl 9 = .val (.one (vb true)) → (n < 0 ∨ 8 < n) → K s := fun s e9 hn => by
    refine hK _ (V_cond (t := true) (by simp [e9]) (by simp) (fun _ => ?_) (fun h => by cases h))
    refine V_reg_k (by decide) fun K hK => ?_
    simp
    refine hK _ (V_ret (hQ _ ⟨_, [], by simp [resL]; rfl, rfl, by simp, ?_⟩).2)
    simp [hn, packS, SV.mapC, V1.mapC, C.lift, C.ren0]
  by_cases h1 : n < 0
  · simp [guardS, h1]
    exact bad _ (by simp) (.inl h1)
  by_cases h2 : 8 < n
  · simp [guardS, h1, h2]
    exact bad _ (by simp) (.inr h2)
  simp [guardS, h1, h2]
  refine hK _ (V_cond (t := false) (by simp) (by simp) (fun h => by cases h) (fun _ => V_skip (hK1 _ (V_reg_k (by decide) fun K hK => ?_))))
  simp
  refine vo_of rfl (V_buildV (by decide) (by decide) zv40 fo40 (by simp [bldC]; rfl) ?_)
  simp
  refine hK _ (V_nilbox 12 1 20 44 (z := z44) (by simp; exact ⟨rfl, rfl⟩) rfl (by decide) (by simp) (by decide) (V_ret (hQ _ ⟨_, [(12, 0), (20, 1)], by simp [resL]; rfl, by decide, by simp, ?_⟩).2))
  simp [h1, h2, packS, SV.mapC, V1.mapC, C.lift, C.ren0, Ren.at, Ren.ob, Ren.inv, Ob.mapC]
end Go.Proofs.Ytjjmomkjjdilnaa
