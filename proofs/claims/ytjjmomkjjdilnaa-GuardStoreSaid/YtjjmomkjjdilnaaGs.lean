/- What functions of the laid program do, as contracts over the engine. Conditions: each theorem bears its own. -/
import Derived.Test.YtjjmomkjjdilnaaSt
set_option linter.all false
set_option maxRecDepth 100000
namespace Go.Proofs.Ytjjmomkjjdilnaa
open Go Go.Eng Go.Proofs Go.Proofs.Ytjjmomkjjdilnaa.T
/-- A store of guard, at these objects. -/
def GSat (ob : Nat → Option Ob) (i j m : Nat) (n : Int) (l : List ANode) (es : List (Value × Value)) : Prop :=
  ob i = some (.box 112 [vi n, .own j, .mh m]) ∧ (∃ ex, ob j = some (.row 44 z44 (rows ANode.vs l) [] ex)) ∧ ob m = some (.mp es)
abbrev GS (ob : Nat → Option Ob) (n : Int) (l : List ANode) (es : List (Value × Value)) : Prop := GSat ob 1000 1001 1002 n l es
abbrev rho (i j m : Nat) : Ren := [(i, 1000), (j, 1001), (m, 1002)]
abbrev mu (i j m : Nat) : Ren := [(1000, i), (1001, j), (1002, m)]
theorem gs_out {s : S} {i j m : Nat} {n : Int} {l : List ANode} {es : List (Value × Value)} (h : GSat s.ob i j m n l es) (hij : i ≠ j) (him : i ≠ m) (hjm : j ≠ m) (k : Nat) : GS (outOb s (rho i j m) k) n l es := by
  obtain ⟨h1, ⟨ex, h2⟩, h3⟩ := h
  refine ⟨?_, ⟨ex, ?_⟩, ?_⟩
  · simp [outOb, Ren.inv, h1, Ob.mapC, C.lift, C.out0, Ren.at, hij, him, hjm]
  · simp [outOb, Ren.inv, h2, Ob.mapC]
  · simp [outOb, Ren.inv, h3, Ob.mapC]
theorem gs_back {s : S} {i j m : Nat} {n n' : Int} {l l' : List ANode} {es es' : List (Value × Value)} {ob' : Nat → Option Ob} (h : GSat s.ob i j m n l es) (h' : GS ob' n' l' es') (hij : i ≠ j) (him : i ≠ m) (hjm : j ≠ m) :
    GSat (s.back (rho i j m) (mu i j m) ob').ob i j m n' l' es' := by
  obtain ⟨h1, ⟨ex, h2⟩, h3⟩ := h'
  refine ⟨?_, ⟨ex, ?_⟩, ?_⟩
  · simp [back_ob, Ren.inv, h1, Ob.mapC, C.lift, C.ren0, Ren.at]
  · simp [back_ob, Ren.inv, hij, h2, Ob.mapC]
  · simp [back_ob, Ren.inv, him, hjm, h3, Ob.mapC]
theorem gs_bad {s : S} {i j m : Nat} {n : Int} {l : List ANode} {es : List (Value × Value)} (h : GSat s.ob i j m n l es) (hij : i ≠ j) (him : i ≠ m) (hjm : j ≠ m) : badB s (rho i j m) (mu i j m) = fun x => x == j := by
  obtain ⟨h1, ⟨ex, h2⟩, h3⟩ := h
  funext x
  by_cases e1 : x = i
  · subst e1; simp [badB, keepB, Ren.at, Ren.inv, h1, hij]
  by_cases e2 : x = j
  · subst e2; simp [badB, keepB, Ren.at, Ren.inv, h2, hij, hjm]
  by_cases e3 : x = m
  · subst e3; simp [badB, keepB, Ren.at, Ren.inv, h3, him, hjm]; exact fun e => hjm e.symm
  · simp [badB, Ren.at, Ren.inv, e2, Ne.symm e1, Ne.symm e2, Ne.symm e3]
section
variable {P : Program} {N : Nat} {o : Oper} {s : S} {K : S → Prop}
/-- A call that is lent a store. -/
theorem callGS_V {c : Operand} {f : Nat} {caps : List C} {xs : List Operand} {tys : Array Nat} {args : List V1} {post : SV → (Nat → Option Ob) → Prop} {i j m : Nat} {n : Int} {l : List ANode} {es : List (Value × Value)} (k : Nat) (hg : GSat s.ob i j m n l es) (hd3 : i ≠ j ∧ i ≠ m ∧ j ≠ m ∧ j < 2000) (ho : o.op = .call ⟨.value c, xs.toArray, tys⟩)
    (hc : opConstOk o = true) (hd : dstOk N o = true) (hf : bodyOk P f = true) (hfn : s.ev c = .val (.one (.fn f caps))) (hcaps : caps.all C.noFn = true)
    (hargs : s.hand (rho i j m) k xs caps = args.map .val) (hs : ∀ ob0, GS ob0 n l es → Does P f args ob0 post)
    (hK : ∀ res ob', post res ob' → ∃ n' l' es', GS ob' n' l' es' ∧ ∀ s' : S, GSat s'.ob i j m n' l' es' → (∀ x, x ≠ i → x ≠ j → x ≠ m → s'.ob x = (s.ob x).map (Ob.mapC (C.lift (C.drop0 (· == j))))) → (∀ t, s'.sl t = (s.sl t).mapC (C.lift (C.drop0 (· == j)))) → K (s'.dst o.dst (res.mapC (C.lift (C.ren0 (mu i j m)))))) : Oper.V P N o s K := by
  obtain ⟨hij, him, hjm, hj2⟩ := hd3
  have hbad := gs_bad hg hij him hjm
  refine call_V ho hc hd hf hfn hcaps (rho i j m) (mu i j m) k hargs (by simp [Ren.ok, hij, him, hjm]) (fun p hp => ?_) (by simp [Ren.ok, hij, him, hjm]) (fun p hp => ?_) (hs _ (gs_out hg hij him hjm k)) fun res ob' hp => ?_
  · simp at hp; rcases hp with rfl | rfl | rfl <;> simp
  · obtain ⟨h1, ⟨ex, h2⟩, h3⟩ := hg
    simp at hp
    rcases hp with rfl | rfl | rfl
    · exact .inr (.inr (by simp [keepB, Ren.at, h1]))
    · exact .inr (.inl ⟨by simp [isRow, h2], hj2⟩)
    · exact .inr (.inr (by simp [keepB, Ren.at, h3, him, hjm]))
  · obtain ⟨n', l', es', h1, h2⟩ := hK res ob' hp
    refine ⟨fun p hp hk => ?_, h2 _ (gs_back hg h1 hij him hjm) (fun x hi hj hm => ?_) fun t => by rw [back_sl, hbad]⟩
    · obtain ⟨g1, ⟨ex, g2⟩, g3⟩ := hg
      obtain ⟨q1, ⟨ex', q2⟩, q3⟩ := h1
      simp at hp
      rcases hp with rfl | rfl | rfl
      · simp [keptOk, g1, q1]
      · simp [keepB, Ren.at, g2, hij] at hk
      · simp [keptOk, g3, q3]
    · rw [back_ob, hbad]
      simp [Ren.inv, Ren.at, Ne.symm hi, Ne.symm hj, Ne.symm hm]
end
theorem un112 : ∃ e, Try.prog.underlying 23 = some (.pointer e) := ⟨_, Try.underlying23⟩
theorem none_spec (ob0 : Nat → Option Ob) (n : Int) (l : List ANode) (es : List (Value × Value)) (hg : GS ob0 n l es) : Does Try.prog 64 [.one (.ptr 1000 0 0 0)] ob0 (fun r ob => r = .val (.one (vb false)) ∧ GS ob n l es) := by
  obtain ⟨h1, ⟨ex, h2⟩, h3⟩ := hg
  refine does_of' 12 [.tmp 2] Try.func64 rfl rfl rfl (show 1 ≤ 12 by decide) fun Q hQ => ?_
  refine V_reg_k (by decide) fun K hK => ?_
  simp
  refine hK _ (V_reg_k (by decide) fun K hK => ?_)
  simp
  refine V_nilcmp (c := .ptr 1000 0 0 0) (.inl rfl) (.inl rfl) (by decide) (by decide) (by simp) rfl (.inr ⟨by simp, rfl⟩) (.inl ⟨un112, rfl⟩) ?_
  simp [guardS, h1]
  refine V_nilcmp (c := .mh 1002) (.inr rfl) (.inl rfl) (by decide) (by decide) (by simp) rfl (.inl ⟨⟨1002, rfl, es, by simp [h3]⟩, rfl⟩) (.inr ⟨⟨_, _, Try.underlying110⟩, rfl⟩) ?_
  simp [guardS]
  refine hK _ (V_ret (hQ _ ⟨_, mu 1000 1001 1002, by simp [resL]; rfl, by decide, by simp, ?_⟩).2)
  simp [packS, SV.mapC, V1.mapC, C.lift, C.ren0, Ren.at, Ren.ob, Ren.inv, Ob.mapC, GSat, h1, h2, h3]
theorem len_spec (ob0 : Nat → Option Ob) (n : Int) (l : List ANode) (es : List (Value × Value)) (hg : GS ob0 n l es) : Does Try.prog 16 [.one (.ptr 1000 0 0 0)] ob0 (fun r ob => r = .val (.one (vi l.length)) ∧ GS ob n l es) := by
  refine does_of' 10 [.tmp 2] Try.func16 rfl rfl rfl (show 1 ≤ 10 by decide) fun Q hQ => ?_
  refine V_reg_k (by decide) fun K hK => ?_
  simp
  refine hK _ (V_seq_k fun K1 hK1 => V_reg_k (by decide) fun K hK => ?_)
  simp
  refine callGS_V (i := 1000) (j := 1001) (m := 1002) 1 hg (by decide) rfl (by decide) (by decide) (by rfl) rfl rfl (args := [.one (.ptr 1000 0 0 0)]) (by simp [S.hand, SV.mapC, V1.mapC, C.lift, C.out0, Ren.at]) (fun ob1 h => none_spec ob1 n l es h) ?_
  rintro res ob' ⟨rfl, hg'⟩
  refine ⟨n, l, es, hg', fun s' hs' _ hsl => ?_⟩
  obtain ⟨h1, ⟨ex, h2⟩, h3⟩ := hs'
  simp [SV.mapC, V1.mapC, C.lift, C.ren0]
  refine hK _ (V_cond (t := false) (by simp) (by simp) (fun h => by cases h) (fun _ => V_skip (hK1 _ (V_reg_k (by decide) fun K hK => ?_))))
  simp [hsl, SV.mapC, V1.mapC, C.lift, C.drop0, h1, h2]
  refine hK _ (V_ret (hQ _ ⟨_, mu 1000 1001 1002, by simp [resL]; rfl, by decide, by simp, ?_⟩).2)
  simp [packS, SV.mapC, V1.mapC, C.lift, C.ren0, Ren.at, Ren.ob, Ren.inv, Ob.mapC, GSat, h1, h2, h3]
theorem nodes_spec (ob0 : Nat → Option Ob) (n : Int) (l : List ANode) (es : List (Value × Value)) (hl : l.length ≤ 1000000) (hg : GS ob0 n l es) : Does Try.prog 17 [.one (.ptr 1000 0 0 0)] ob0 (fun r ob => r = .val (.one (.own 0)) ∧ (∃ ex, ob 0 = some (.row 44 z44 (rows ANode.vs l) [] ex)) ∧ GS ob n l es) := by
  obtain ⟨g1, ⟨ex0, g2⟩, g3⟩ := hg
  refine does_of' 11 [.tmp 2] Try.func17 rfl rfl rfl (show 1 ≤ 11 by decide) fun Q hQ => ?_
  refine V_reg_k (by decide) fun K hK => ?_
  simp
  refine hK _ (V_seq_k fun K1 hK1 => V_reg_k (by decide) fun K hK => ?_)
  simp
  refine callGS_V (i := 1000) (j := 1001) (m := 1002) (n := n) (l := l) (es := es) 1 ⟨by simp [g1], ⟨ex0, by simp [g2]⟩, by simp [g3]⟩ (by decide) rfl (by decide) (by decide) (by rfl) rfl rfl (args := [.one (.ptr 1000 0 0 0)]) (by simp [S.hand, SV.mapC, V1.mapC, C.lift, C.out0, Ren.at]) (fun ob1 h => none_spec ob1 n l es h) ?_
  rintro res ob' ⟨rfl, hg'⟩
  refine ⟨n, l, es, hg', fun s' hs' _ hsl => ?_⟩
  obtain ⟨h1, ⟨ex, h2⟩, h3⟩ := hs'
  simp [SV.mapC, V1.mapC, C.lift, C.ren0]
  refine hK _ (V_cond (t := false) (by simp) (by simp) (fun h => by cases h) (fun _ => V_skip (hK1 _ (V_reg_k (by decide) fun K hK => ?_))))
  simp [hsl, SV.mapC, V1.mapC, C.lift, C.drop0, h1, h2]
  refine ⟨by omega, hK _ (V_ret (hQ _ ⟨_, (5, 0) :: mu 1000 1001 1002, by simp [resL]; rfl, by decide, by simp, ?_⟩).2)⟩
  simp [packS, SV.mapC, V1.mapC, C.lift, C.ren0, Ren.at, Ren.ob, Ren.inv, Ob.mapC, GSat, h1, h2, h3]
end Go.Proofs.Ytjjmomkjjdilnaa
