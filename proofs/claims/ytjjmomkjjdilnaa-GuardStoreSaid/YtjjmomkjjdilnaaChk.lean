/- What functions of the laid program do, as contracts over the engine. Conditions: each theorem bears its own. -/
import Derived.Test.YtjjmomkjjdilnaaK44
set_option linter.all false
set_option maxRecDepth 100000
namespace Go.Proofs.Ytjjmomkjjdilnaa
open Go Go.Eng Go.Proofs Go.Proofs.Ytjjmomkjjdilnaa.T
def headOk (a : Auto) : Bool := decide (0 ≤ a.props) && decide (a.props ≤ 8) && decide (1 ≤ a.accept.length) && decide (a.accept.length ≤ 256) && decide (a.guard.length = a.accept.length) && decide (a.nodes.length ≤ 4096)
def nodeOk (a : Auto) (i : Nat) (x : ANode) : Bool := decide (0 ≤ x.p) && decide (x.p < a.props) && decide (x.lo ≠ x.hi) && decide (x ∉ a.nodes.take i) && good a x.lo i x.p && good a x.hi i x.p
def nodesUp (a : Auto) : Nat → Bool
  | 0 => true
  | k + 1 => nodesUp a k && match a.nodes[k]? with
    | some x => nodeOk a k x
    | none => true
def guardsUp (a : Auto) : Nat → Bool
  | 0 => true
  | k + 1 => guardsUp a k && match a.guard[k]? with
    | some g => good a g a.nodes.length (-1)
    | none => true
def checkOk (a : Auto) : Bool := headOk a && nodesUp a a.nodes.length && guardsUp a a.guard.length
theorem nodesUp_false (a : Auto) {k m : Nat} (h : k ≤ m) (hn : nodesUp a k = false) : nodesUp a m = false := by
  induction m with
  | zero => rw [show k = 0 by omega] at hn; exact hn
  | succ m ih =>
    by_cases e : k = m + 1
    · rw [← e]; exact hn
    · simp [nodesUp, ih (by omega)]
theorem guardsUp_false (a : Auto) {k m : Nat} (h : k ≤ m) (hn : guardsUp a k = false) : guardsUp a m = false := by
  induction m with
  | zero => rw [show k = 0 by omega] at hn; exact hn
  | succ m ih =>
    by_cases e : k = m + 1
    · rw [← e]; exact hn
    · simp [guardsUp, ih (by omega)]
def seen (l : List ANode) : List (Value × Value) := l.map fun x => (.agg x.vs.toArray, .bool true)
theorem seen_mem {l : List ANode} {x : ANode} {v : Value} (h : (Value.agg x.vs.toArray, v) ∈ seen l) : x ∈ l ∧ v = .bool true := by
  obtain ⟨y, hy, e⟩ := List.mem_map.1 h
  simp only [Prod.mk.injEq] at e
  obtain ⟨e1, e2⟩ := e
  have : y = x := by
    cases x; cases y
    simp [ANode.vs] at e1
    simp [e1]
  subst this
  exact ⟨hy, e2.symm⟩
theorem check_spec (a : Auto) (p1 p2 p3 : Sp) : Does Try.prog 85 [.agg (a.c p1 p2 p3)] (fun _ => none) (fun r _ => r = .val (.one (vi (if checkOk a then 0 else 12)))) := by
  refine does_of' 110 [.tmp 2] Try.func85 rfl rfl rfl (show 1 ≤ 110 by decide) fun Q hQ => ?_
  have fin : ∀ (s : S) (e : Int), s.sl 2 = .val (.one (vi e)) → e = (if checkOk a then 0 else 12) → Q .ret s := fun s e e2 he => by
    refine (hQ _ ⟨[.one (vi e)], [], by simp [resL, e2], rfl, by simp, ?_⟩).2
    simp [packS, SV.mapC, V1.mapC, C.lift, C.ren0, he]
  refine V_reg_k (by decide) fun K hK => ?_
  simp [Auto.c]
  refine hK _ (V_reg_k (by decide) fun K hK => ?_)
  simp
  refine hK _ (V_seq_k fun K1 hK1 => V_reg_k (by decide) fun K hK => ?_)
  have bad : ∀ s, s.sl 40 = .val (.one (vb true)) → headOk a = false → K s := fun s e40 hn => by
    refine hK _ (V_cond (t := true) (by simp [e40]) (by simp) (fun _ => ?_) (fun h => by cases h))
    refine V_reg_k (by decide) fun K hK => ?_
    simp
    exact hK _ (V_ret (fin _ 12 (by simp) (by simp [checkOk, hn])))
  by_cases c1 : a.props < 0
  · simp [guardS, c1]
    exact bad _ (by simp) (by simp [headOk]; omega)
  by_cases c2 : 8 < a.props
  · simp [guardS, c1, c2]
    exact bad _ (by simp) (by simp [headOk]; omega)
  by_cases c3 : (a.accept.length : Int) < 1
  · simp [guardS, c1, c2, c3]
    exact bad _ (by simp) (by simp [headOk]; omega)
  by_cases c4 : (256 : Int) < a.accept.length
  · simp [guardS, c1, c2, c3, c4]
    exact bad _ (by simp) (by simp [headOk]; omega)
  by_cases c5 : (a.guard.length : Int) = a.accept.length
  case neg =>
    simp [guardS, c1, c2, c3, c4, c5]
    exact bad _ (by simp) (by simp [headOk]; omega)
  by_cases c6 : (4096 : Int) < a.nodes.length
  · simp [guardS, c1, c2, c3, c4, c5, c6]
    exact bad _ (by simp) (by simp [headOk]; omega)
  have hhead : headOk a = true := by simp [headOk]; omega
  simp [guardS, c1, c2, c3, c4, c5, c6]
  refine hK _ (V_cond (t := false) (by simp) (by simp) (fun h => by cases h) (fun _ => V_skip (hK1 _ (V_reg_k (by decide) fun K hK => ?_))))
  simp
  refine vo_of rfl (V_makeMap (by decide) ?_)
  simp
  refine hK _ (V_seq_k fun K2 hK2 => V_reg_k (by decide) fun K hK => ?_)
  simp
  refine hK _ (V_block (V_loop_k (fun n s => ∃ k : Nat, k ≤ a.nodes.length ∧ n = a.nodes.length - k ∧ s.sl 45 = .val (.one (vi k)) ∧ s.sl 44 = .val (.one (vi a.nodes.length)) ∧ s.sl 43 = .val (.one (slr 3 ANode.vs p3 a.nodes)) ∧ s.sl 1 = .val (.one (.ptr 1 0 0 0)) ∧ s.ob 1 = some (.box 48 (a.c p1 p2 p3)) ∧ s.sl 4 = .val (.one (.mh 41)) ∧ s.ob 41 = some (.mp (seen (a.nodes.take k))) ∧ nodesUp a k = true)
    a.nodes.length ⟨0, by omega, by omega, by simp, by simp, by simp, by simp, by simp [Auto.c], by simp, by simp [seen], rfl⟩ ?_))
  · rintro n s ⟨k, hk, rfl, h45, h44, h43, h1, ho1, h4, ho41, hup⟩ K3 hK3
    refine V_reg_k (by decide) fun K hK => ?_
    simp [h45, h44]
    refine hK _ (V_seq_k fun K4 hK4 => V_cond (t := decide ((k : Int) < a.nodes.length)) (by simp) (by simp) (fun h => ?_) (fun h => ?_))
    · simp at h
      have hx := getE h
      obtain ⟨x, hxe⟩ : ∃ x, x = a.nodes[k] := ⟨_, rfl⟩
      rw [← hxe] at hx
      have hnu : nodesUp a (k + 1) = nodeOk a k x := by simp [nodesUp, hup, hx]
      refine V_skip (hK4 _ (V_seq_k fun K5 hK5 => V_block (V_reg_k (by decide) fun K hK => ?_)))
      simp [h45, h43, rows_get ANode.vs hx, ANode.vs]
      refine hK _ (V_seq_k fun K6 hK6 => V_reg_k (by decide) fun K hK => ?_)
      have bad : ∀ s, s.sl 91 = .val (.one (vb true)) → nodeOk a k x = false → K s := fun s e91 hn => by
        refine hK _ (V_cond (t := true) (by simp [e91]) (by simp) (fun _ => ?_) (fun h => by cases h))
        refine V_reg_k (by decide) fun K hK => ?_
        simp
        refine hK _ (V_ret (fin _ 12 (by simp) ?_))
        have := nodesUp_false a (show k + 1 ≤ a.nodes.length by omega) (by rw [hnu, hn])
        simp [checkOk, this]
      by_cases d1 : x.p < 0
      · simp [guardS, d1, h1, ho1, Auto.c]
        exact bad _ (by simp) (by simp [nodeOk]; omega)
      by_cases d2 : a.props ≤ x.p
      · simp [guardS, d1, d2, h1, ho1, Auto.c]
        exact bad _ (by simp) (by simp [nodeOk]; omega)
      by_cases d3 : x.lo = x.hi
      · simp [guardS, d1, d2, d3, h1, ho1, Auto.c]
        exact bad _ (by simp) (by simp [nodeOk]; omega)
      simp [guardS, d1, d2, d3, h1, ho1, Auto.c, h4]
      refine vo_of rfl (V_lookup (G := isNode) (id := 41) (es := seen (a.nodes.take k)) (kv := .agg x.vs.toArray) (z := .bool false) (by decide) (by decide) (by simp) (by simp [ho41]) (by simp [SV.toV, cellsV, C.toV, ANode.vs]) Try.underlying175 key44 ⟨x, rfl⟩ (fun p hp => ?_) (fun w => Try.zeroValue4 w) rfl (fun p hp => ?_) (fun hno => ?_) (fun v hv => ?_))
      · obtain ⟨y, _, rfl⟩ := List.mem_map.1 hp; exact ⟨y, rfl⟩
      · obtain ⟨y, _, rfl⟩ := List.mem_map.1 hp; rfl
      · simp [guardS, h1, ho1, Auto.c]
        have hnotin : x ∉ a.nodes.take k := fun hin => hno (.agg x.vs.toArray, .bool true) (List.mem_map.2 ⟨x, hin, rfl⟩) rfl
        refine call0_V 1 rfl (by decide) (by decide) (by rfl) rfl rfl (args := [.agg (a.c p1 p2 p3), .one (vi x.lo), .one (vi k), .one (vi x.p)]) (by simp [S.hand, SV.mapC, V1.mapC, C.lift, C.out0, Auto.c]) (good_spec a p1 p2 p3 x.lo k x.p (by omega) (by omega)) ?_
        rintro res ob' rfl
        simp only [SV.mapC, V1.mapC, C.lift, C.ren0]
        by_cases g1 : good a x.lo k x.p = true
        case neg =>
          simp [guardS, g1]
          exact bad _ (by simp) (by simp [nodeOk, g1])
        simp [guardS, g1, h1, ho1, Auto.c]
        refine call0_V 1 rfl (by decide) (by decide) (by rfl) rfl rfl (args := [.agg (a.c p1 p2 p3), .one (vi x.hi), .one (vi k), .one (vi x.p)]) (by simp [S.hand, SV.mapC, V1.mapC, C.lift, C.out0, Auto.c]) (good_spec a p1 p2 p3 x.hi k x.p (by omega) (by omega)) ?_
        rintro res ob' rfl
        simp only [SV.mapC, V1.mapC, C.lift, C.ren0]
        by_cases g2 : good a x.hi k x.p = true
        case neg =>
          simp [guardS, g2]
          exact bad _ (by simp) (by simp [nodeOk, g2])
        have hok : nodeOk a k x = true := by simp [nodeOk, g1, g2, d3, hnotin]; omega
        simp [g2]
        refine hK _ (V_cond (t := false) (by simp) (by simp) (fun h => by cases h) (fun _ => V_skip (hK6 _ (V_reg_e (by decide) fun K7 hK7 => ?_))))
        simp [h4]
        have hwk : IntKind.i64.wrap ((k : Int) + 1) = k + 1 := wrap_i64 (by omega) (by omega)
        have hseen : seen (a.nodes.take k) ++ [(.agg x.vs.toArray, .bool true)] = seen (a.nodes.take (k + 1)) := by
          rw [List.take_succ_eq_append_getElem h, ← hxe]; simp [seen]
        refine vo_of rfl (V_mapUpdate (G := isNode) (id := 41) (es := seen (a.nodes.take k)) (kv := .agg x.vs.toArray) (v := .bool true) (by decide) (by simp) (by simp [ho41]) (by simp [SV.toV, cellsV, C.toV, ANode.vs]) rfl Try.underlying175 key44 ⟨x, rfl⟩ (fun p hp => ?_) (fun _ => ?_) (fun j u hju => ?_))
        · obtain ⟨y, _, rfl⟩ := List.mem_map.1 hp; exact ⟨y, rfl⟩
        · rw [hseen]
          refine hK7 _ (hK5 _ (V_reg_e (by decide) fun K9 hK9 => ?_))
          simp [h45, hwk]
          refine hK9 _ (hK3 (a.nodes.length - (k + 1)) _ (by omega) ⟨k + 1, by omega, rfl, by simp, by simp [h44], by simp [h43], by simp [h1], by simp [ho1, Auto.c], by simp [h4], by simp, by rw [hnu, hok]⟩)
        · exact absurd rfl (hno _ (List.mem_of_getElem? hju))
      · obtain ⟨q1, rfl⟩ := seen_mem hv
        simp [guardS]
        exact bad _ (by simp) (by simp [nodeOk]; intros; contradiction)
    · simp at h
      have : k = a.nodes.length := by omega
      subst this
      refine V_exit (show K2 _ from hK2 _ (V_seq_k fun K7 hK7 => V_reg_k (by decide) fun K hK => ?_))
      simp [h1, ho1, Auto.c]
      refine hK _ (V_block (V_loop_k (fun n s => ∃ k : Nat, k ≤ a.guard.length ∧ n = a.guard.length - k ∧ s.sl 98 = .val (.one (vi k)) ∧ s.sl 97 = .val (.one (vi a.guard.length)) ∧ s.sl 96 = .val (.one (slr 1 iv p2 a.guard)) ∧ s.sl 1 = .val (.one (.ptr 1 0 0 0)) ∧ s.ob 1 = some (.box 48 (a.c p1 p2 p3)) ∧ guardsUp a k = true)
        a.guard.length ⟨0, by omega, by omega, by simp, by simp, by simp, by simp [h1], by simp [ho1], rfl⟩ ?_))
      rintro n s ⟨k, hk, rfl, h98, h97, h96, h1, ho1, hgu⟩ K3 hK3
      refine V_reg_k (by decide) fun K hK => ?_
      simp [h98, h97]
      refine hK _ (V_seq_k fun K4 hK4 => V_cond (t := decide ((k : Int) < a.guard.length)) (by simp) (by simp) (fun h => ?_) (fun h => ?_))
      · simp at h
        have hx := getE h
        obtain ⟨g, hge⟩ : ∃ g, g = a.guard[k] := ⟨_, rfl⟩
        rw [← hge] at hx
        have hnu : guardsUp a (k + 1) = good a g a.nodes.length (-1) := by simp [guardsUp, hgu, hx]
        refine V_skip (hK4 _ (V_seq_k fun K5 hK5 => V_block (V_reg_k (by decide) fun K hK => ?_)))
        simp [h98, h96, rows_get iv hx]
        refine hK _ (V_reg_k (by decide) fun K hK => ?_)
        simp [h1, ho1, Auto.c]
        refine call0_V 1 rfl (by decide) (by decide) (by rfl) rfl rfl (args := [.agg (a.c p1 p2 p3), .one (vi g), .one (vi a.nodes.length), .one (vi (-1))]) (by simp [S.hand, SV.mapC, V1.mapC, C.lift, C.out0, Auto.c]) (good_spec a p1 p2 p3 g a.nodes.length (-1) (by omega) (by omega)) ?_
        rintro res ob' rfl
        simp [SV.mapC, V1.mapC, C.lift, C.ren0]
        have hwk : IntKind.i64.wrap ((k : Int) + 1) = k + 1 := wrap_i64 (by omega) (by omega)
        refine hK _ (V_cond (t := !good a g a.nodes.length (-1)) (by simp) (by simp) (fun hb => ?_) (fun hb => ?_))
        · simp at hb
          refine V_reg_k (by decide) fun K hK => ?_
          simp
          refine hK _ (V_ret (fin _ 12 (by simp) ?_))
          have := guardsUp_false a (show k + 1 ≤ a.guard.length by omega) (by rw [hnu, hb])
          simp [checkOk, this]
        · simp at hb
          refine V_skip (hK5 _ (V_reg_e (by decide) fun K9 hK9 => ?_))
          simp [h98, hwk]
          exact hK9 _ (hK3 (a.guard.length - (k + 1)) _ (by omega) ⟨k + 1, by omega, rfl, by simp, by simp [h97], by simp [h96], by simp [h1], by simp [ho1], by rw [hnu, hb]⟩)
      · simp at h
        have : k = a.guard.length := by omega
        subst this
        refine V_exit (show K7 _ from hK7 _ (V_reg_k (by decide) fun K hK => ?_))
        simp
        exact hK _ (V_ret (fin _ 0 (by simp) (by simp [checkOk, hhead, hup, hgu])))
end Go.Proofs.Ytjjmomkjjdilnaa
