/- What functions of the laid program do, as contracts over the engine. Conditions: each theorem bears its own. -/
import Derived.Test.YtjjmomkjjdilnaaG14
set_option linter.all false
set_option maxRecDepth 100000
namespace Go.Proofs.Ytjjmomkjjdilnaa
open Go Go.Eng Go.Proofs Go.Proofs.Ytjjmomkjjdilnaa.T
theorem mixed : Try.prog.follows .mixedOrders = true := by rfl
theorem next_spec (a : Auto) (p1 p2 p3 : Sp) (q l : Int) (g : Int) (h0 : 0 ≤ q) (hg : a.guard[q.toNat]? = some g) (hl0 : 0 ≤ l) (hl1 : l ≤ 255) : Does Try.prog 74 [.agg (a.c p1 p2 p3), .one (vi q), .one (vu l)] (fun _ => none) (fun r _ => r = .val (.one (vi (goF a.nodes l 9 g).1))) := by
  refine does_of' 22 [.tmp 6] Try.func74 rfl rfl rfl (show 3 ≤ 22 by decide) fun Q hQ => ?_
  refine V_reg_k (by decide) fun K hK => ?_
  simp [Auto.c]
  refine hK _ (V_regp_k [0, 1, 2, 3, 4, 5, 6, 7, 8, 9, 10, 11, 12, 13] _ mixed rfl rfl (by decide +kernel) (by decide) fun K hK => ?_)
  simp [goY, pureC, lookC, h0, rows_get iv hg]
  refine ⟨.tup [.one (vi (goF a.nodes l 9 g).1), .one (vb (goF a.nodes l 9 g).2)], Y_call 1 rfl (by decide) (by rfl) rfl rfl (args := [.one (slr 3 ANode.vs p3 a.nodes), .one (vi g), .one (vu l)]) (by simp [S.hand, SV.mapC, V1.mapC, C.lift, C.out0]) (go14_spec a.nodes p3 g l hl0 hl1) (fun res ob' e => by rw [e]; simp [SV.mapC, V1.mapC, C.lift, C.ren0]), ?_⟩
  simp [goY, pureC, lookC]
  refine hK _ (V_reg_k (by decide) fun K hK => ?_)
  simp
  refine hK _ (V_ret (hQ _ ⟨[.one (vi (goF a.nodes l 9 g).1)], [], by simp [resL], rfl, by simp, ?_⟩).2)
  simp [packS, SV.mapC, V1.mapC, C.lift, C.ren0]
end Go.Proofs.Ytjjmomkjjdilnaa
