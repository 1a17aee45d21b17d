/- What functions of the laid program do, as contracts over the engine. Conditions: each theorem bears its own. -/
import Derived.Test.YtjjmomkjjdilnaaGA
set_option linter.all false
set_option maxRecDepth 100000
namespace Go.Proofs.Ytjjmomkjjdilnaa
open Go Go.Eng Go.Proofs Go.Proofs.Ytjjmomkjjdilnaa.T
abbrev muN (i j m d : Nat) : Ren := (0, d) :: mu i j m
theorem gs_backN {s : S} {i j m d : Nat} {n' : Int} {l' : List ANode} {es' : List (Value × Value)} {ob' : Nat → Option Ob} (h' : GS ob' n' l' es') (hij : i ≠ j) (him : i ≠ m) (hjm : j ≠ m) (hd : d ≠ i ∧ d ≠ j ∧ d ≠ m) :
    GSat (s.back (rho i j m) (muN i j m d) ob').ob i j m n' l' es' := by
  obtain ⟨h1, ⟨ex, h2⟩, h3⟩ := h'
  obtain ⟨d1, d2, d3⟩ := hd
  refine ⟨?_, ⟨ex, ?_⟩, ?_⟩
  · simp [back_ob, Ren.inv, h1, Ob.mapC, C.lift, C.ren0, Ren.at, d1]
  · simp [back_ob, Ren.inv, hij, h2, Ob.mapC, d2]
  · simp [back_ob, Ren.inv, him, hjm, h3, Ob.mapC, d3]
theorem gs_badN {s : S} {i j m d : Nat} {n : Int} {l : List ANode} {es : List (Value × Value)} (h : GSat s.ob i j m n l es) (hij : i ≠ j) (him : i ≠ m) (hjm : j ≠ m) (hd : d ≠ i ∧ d ≠ j ∧ d ≠ m) : badB s (rho i j m) (muN i j m d) = fun x => x == j || x == d := by
  obtain ⟨h1, ⟨ex, h2⟩, h3⟩ := h
  obtain ⟨d1, d2, d3⟩ := hd
  funext x
  by_cases e1 : x = i
  · subst e1; simp [badB, keepB, Ren.at, Ren.inv, h1, hij, d1, Ne.symm d1]
  by_cases e2 : x = j
  · subst e2; simp [badB, keepB, Ren.at, Ren.inv, h2, hij, hjm, d2, Ne.symm d2]
  by_cases e3 : x = m
  · subst e3; simp [badB, keepB, Ren.at, Ren.inv, h3, him, hjm, d3, Ne.symm d3]; exact fun e => hjm e.symm
  by_cases e4 : x = d
  · subst e4; simp [badB, keepB, Ren.at, Ren.inv, Ne.symm d1, Ne.symm d2, Ne.symm d3]
  · simp [badB, Ren.at, Ren.inv, e2, e4, Ne.symm e1, Ne.symm e2, Ne.symm e3, Ne.symm e4]
section
variable {P : Program} {N : Nat} {o : Oper} {s : S} {K : S → Prop}
/-- A call that is lent a store, and hands back a row. -/
theorem callGSn_V {c : Operand} {f : Nat} {caps : List C} {xs : List Operand} {tys : Array Nat} {args : List V1} {post : SV → (Nat → Option Ob) → Prop} {i j m : Nat} {n : Int} {l : List ANode} {es : List (Value × Value)} (k d : Nat) (hd9 : d < 1000) (hdd : d ≠ i ∧ d ≠ j ∧ d ≠ m) (hg : GSat s.ob i j m n l es) (hd3 : i ≠ j ∧ i ≠ m ∧ j ≠ m ∧ j < 2000) (ho : o.op = .call ⟨.value c, xs.toArray, tys⟩)
    (hc : opConstOk o = true) (hd : dstOk N o = true) (hf : bodyOk P f = true) (hfn : s.ev c = .val (.one (.fn f caps))) (hcaps : caps.all C.noFn = true)
    (hargs : s.hand (rho i j m) k xs caps = args.map .val) (hs : ∀ ob0, GS ob0 n l es → Does P f args ob0 post)
    (hK : ∀ res ob', post res ob' → ∃ n' l' es', GS ob' n' l' es' ∧ ∀ s' : S, GSat s'.ob i j m n' l' es' → s'.ob d = (ob' 0).map (Ob.mapC (C.lift (C.ren0 (muN i j m d)))) → (∀ x, x ≠ i → x ≠ j → x ≠ m → x ≠ d → s'.ob x = (s.ob x).map (Ob.mapC (C.lift (C.drop0 fun x => x == j || x == d)))) → (∀ t, s'.sl t = (s.sl t).mapC (C.lift (C.drop0 fun x => x == j || x == d))) → K (s'.dst o.dst (res.mapC (C.lift (C.ren0 (muN i j m d)))))) : Oper.V P N o s K := by
  obtain ⟨hij, him, hjm, hj2⟩ := hd3
  have hbad := gs_badN (d := d) hg hij him hjm hdd
  have hdd' := hdd
  obtain ⟨d1, d2, d3⟩ := hdd'
  refine call_V ho hc hd hf hfn hcaps (rho i j m) (muN i j m d) k hargs (by simp [Ren.ok, hij, him, hjm]) (fun p hp => ?_) (by simp [Ren.ok, hij, him, hjm, d1, d2, d3]) (fun p hp => ?_) (hs _ (gs_out hg hij him hjm k)) fun res ob' hp => ?_
  · simp at hp; rcases hp with rfl | rfl | rfl <;> simp
  · obtain ⟨h1, ⟨ex, h2⟩, h3⟩ := hg
    simp at hp
    rcases hp with rfl | rfl | rfl | rfl
    · exact .inl hd9
    · exact .inr (.inr (by simp [keepB, Ren.at, h1]))
    · exact .inr (.inl ⟨by simp [isRow, h2], hj2⟩)
    · exact .inr (.inr (by simp [keepB, Ren.at, h3, him, hjm]))
  · obtain ⟨n', l', es', h1, h2⟩ := hK res ob' hp
    refine ⟨fun p hp hk => ?_, h2 _ (gs_backN h1 hij him hjm hdd) ?_ (fun x hi hj hm hx => ?_) fun t => by rw [back_sl, hbad]⟩
    · obtain ⟨g1, ⟨ex, g2⟩, g3⟩ := hg
      obtain ⟨q1, ⟨ex', q2⟩, q3⟩ := h1
      simp at hp
      rcases hp with rfl | rfl | rfl
      · simp [keptOk, g1, q1]
      · simp [keepB, Ren.at, g2, hij] at hk
      · simp [keptOk, g3, q3]
    · rw [back_ob]
      simp [Ren.inv]
    · rw [back_ob, hbad]
      simp [Ren.inv, Ren.at, Ne.symm hi, Ne.symm hj, Ne.symm hm, Ne.symm hx]
end
section
variable {P : Program} {N : Nat} {o : Oper} {s : S} {K : S → Prop}
/-- A call that lends nothing and hands back objects. -/
theorem callM_V {c : Operand} {f : Nat} {caps : List C} {xs : List Operand} {tys : Array Nat} {args : List V1} {post : SV → (Nat → Option Ob) → Prop} (k : Nat) (μ : Ren) (hμ : μ.ok = true) (h1000 : ∀ p ∈ μ, p.2 < 1000) (ho : o.op = .call ⟨.value c, xs.toArray, tys⟩)
    (hc : opConstOk o = true) (hd : dstOk N o = true) (hf : bodyOk P f = true) (hfn : s.ev c = .val (.one (.fn f caps))) (hcaps : caps.all C.noFn = true)
    (hargs : s.hand [] k xs caps = args.map .val) (hs : Does P f args (fun _ => none) post)
    (hK : ∀ res ob', post res ob' → K ((s.back [] μ ob').dst o.dst (res.mapC (C.lift (C.ren0 μ))))) : Oper.V P N o s K := by
  refine call_V ho hc hd hf hfn hcaps [] μ k hargs rfl (fun p hp => by cases hp) hμ (fun p hp => .inl (h1000 p hp)) (post := post) ?_ fun res ob' hp => ⟨(fun p hp => by cases hp), hK res ob' hp⟩
  have : outOb s [] k = fun _ => none := by funext j; simp [outOb, Ren.inv]
  rw [this]
  exact hs
end
theorem storeF_nodup (n : Nat) (w : List Int) (l : List ANode) (h : l.Nodup) : (storeF n w l).2.Nodup := by
  unfold storeF
  split
  · split
    · exact h
    · exact addF_nodup n 0 w l h
  · exact h
theorem storeF_len (n : Nat) (w : List Int) (l : List ANode) (h : l.length ≤ 4096) : (storeF n w l).2.length ≤ 4096 := by
  unfold storeF
  split
  · split
    · exact h
    · rename_i h2; simp only; omega
  · exact h
-- tree 3 15
def tr3_15 : Tr := .hoist 0 (.hoist 1 (.hoist 2 (.hoist 3 (.hoist 4 (.hoist 5 (.hoist 6 (.hoist 7 (.hoist 8 (.hoist 9 (.hoist 10 (.hoist 11 (.hoist 12 (.alt 13 (.alt 14 (.hoist 15 (.hoist 16 (.hoist 17 (.hoist 18 (.hoist 20 (.hoist 21 (.hoist 22 (.alt 19 (.alt 23 (.hoist 24 (.hoist 25 (.hoist 26 .done))) .nil) (.alt 23 (.hoist 24 (.alt 19 (.hoist 25 (.hoist 26 .done)) .nil)) .nil))))))))) .nil) .nil)))))))))))))
-- tree 3 24
def tr3_24 : Tr := .hoist 0 (.hoist 1 (.hoist 2 (.hoist 3 (.alt 4 (.alt 5 (.hoist 6 (.hoist 7 (.hoist 9 (.hoist 10 (.hoist 11 (.alt 8 (.alt 12 (.alt 13 (.hoist 14 (.hoist 15 .done)) .nil) .nil) (.alt 12 (.alt 8 (.alt 13 (.hoist 14 (.hoist 15 .done)) .nil) .nil) .nil))))))) .nil) .nil))))
theorem nilp23 (X Y : Operand) (w : World) : (do eqGuard .eql 23 X Y (.pointer none) (.pointer none); binOp .eql 23 (.pointer none) (.pointer none) : Sem Value).run Try.prog w = .ok (.bool true) w := by
  have heq : (Op.equal 23 (.pointer none) (.pointer none)).run Try.prog w = .ok true w := by
    show Sem.run Try.prog (Op.equalIn (9999 + 1) 23 _ _) w = _
    unfold Op.equalIn
    simp only [Sem.run_bind, run_underlying Try.underlying23, Result.andThen_ok, Sem.run_pure]
    rfl
  simp [eqGuard, binOp, heq]
theorem nilp27 (X Y : Operand) (w : World) : (do eqGuard .eql 27 X Y (.pointer none) (.pointer none); binOp .eql 27 (.pointer none) (.pointer none) : Sem Value).run Try.prog w = .ok (.bool true) w := by
  have heq : (Op.equal 27 (.pointer none) (.pointer none)).run Try.prog w = .ok true w := by
    show Sem.run Try.prog (Op.equalIn (9999 + 1) 27 _ _) w = _
    unfold Op.equalIn
    simp only [Sem.run_bind, run_underlying Try.underlying27, Result.andThen_ok, Sem.run_pure]
    rfl
  simp [eqGuard, binOp, heq]
end Go.Proofs.Ytjjmomkjjdilnaa
