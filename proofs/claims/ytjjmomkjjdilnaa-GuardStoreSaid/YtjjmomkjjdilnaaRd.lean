/- What functions of the laid program do, as contracts over the engine. Conditions: each theorem bears its own. -/
import Derived.Test.YtjjmomkjjdilnaaAd
set_option linter.all false
set_option maxRecDepth 100000
namespace Go.Proofs.Ytjjmomkjjdilnaa
open Go Go.Eng Go.Proofs Go.Proofs.Ytjjmomkjjdilnaa.T
/-- A store of the reference, at these objects. -/
def RSat (ob : Nat → Option Ob) (i j : Nat) (n : Int) (l : List ANode) : Prop :=
  ob i = some (.box 40 [vi n, .own j]) ∧ (∃ ex, ob j = some (.row 44 z44 (rows ANode.vs l) [] ex))
abbrev rhoR (i j : Nat) : Ren := [(i, 1000), (j, 1001)]
abbrev muR (i q j : Nat) : Ren := [(1000, i), (q, j)]
theorem rs_out {s : S} {i j : Nat} {n : Int} {l : List ANode} (h : RSat s.ob i j n l) (hij : i ≠ j) (k : Nat) : RSat (outOb s (rhoR i j) k) 1000 1001 n l := by
  obtain ⟨h1, ⟨ex, h2⟩⟩ := h
  refine ⟨?_, ⟨ex, ?_⟩⟩
  · simp [outOb, Ren.inv, h1, Ob.mapC, C.lift, C.out0, Ren.at, hij]
  · simp [outOb, Ren.inv, h2, Ob.mapC]
theorem rs_back {s : S} {i j q : Nat} {n' : Int} {l' : List ANode} {ob' : Nat → Option Ob} (h' : RSat ob' 1000 q n' l') (hij : i ≠ j) (hq : q ≠ 1000) :
    RSat (s.back (rhoR i j) (muR i q j) ob').ob i j n' l' := by
  obtain ⟨h1, ⟨ex, h2⟩⟩ := h'
  refine ⟨?_, ⟨ex, ?_⟩⟩
  · simp [back_ob, Ren.inv, h1, Ob.mapC, C.lift, C.ren0, Ren.at, Ne.symm hq]
  · simp [back_ob, Ren.inv, hij, h2, Ob.mapC]
theorem rs_bad {s : S} {i j q : Nat} {n : Int} {l : List ANode} (h : RSat s.ob i j n l) (hij : i ≠ j) (hq : q ≠ 1000) : badB s (rhoR i j) (muR i q j) = fun x => x == j := by
  obtain ⟨h1, ⟨ex, h2⟩⟩ := h
  funext x
  by_cases e1 : x = i
  · subst e1; simp [badB, keepB, Ren.at, Ren.inv, h1, hij]
  by_cases e2 : x = j
  · subst e2; simp [badB, keepB, Ren.at, Ren.inv, h2, hij]
  · simp [badB, Ren.at, Ren.inv, e2, Ne.symm e1, Ne.symm e2]
section
variable {P : Program} {N : Nat} {o : Oper} {s : S} {K : S → Prop}
/-- A call that is lent a store of the reference. -/
theorem callRS_V {c : Operand} {f : Nat} {caps : List C} {xs : List Operand} {tys : Array Nat} {args : List V1} {post : SV → (Nat → Option Ob) → Prop} {i j : Nat} {n : Int} {l : List ANode} (k q : Nat) (hq : q ≠ 1000) (hg : RSat s.ob i j n l) (hd3 : i ≠ j ∧ j < 2000) (ho : o.op = .call ⟨.value c, xs.toArray, tys⟩)
    (hc : opConstOk o = true) (hd : dstOk N o = true) (hf : bodyOk P f = true) (hfn : s.ev c = .val (.one (.fn f caps))) (hcaps : caps.all C.noFn = true)
    (hargs : s.hand (rhoR i j) k xs caps = args.map .val) (hs : ∀ ob0, RSat ob0 1000 1001 n l → Does P f args ob0 post)
    (hK : ∀ res ob', post res ob' → ∃ n' l', RSat ob' 1000 q n' l' ∧ ∀ s' : S, RSat s'.ob i j n' l' → (∀ x, x ≠ i → x ≠ j → s'.ob x = (s.ob x).map (Ob.mapC (C.lift (C.drop0 (· == j))))) → (∀ t, s'.sl t = (s.sl t).mapC (C.lift (C.drop0 (· == j)))) → K (s'.dst o.dst (res.mapC (C.lift (C.ren0 (muR i q j)))))) : Oper.V P N o s K := by
  obtain ⟨hij, hj2⟩ := hd3
  have hbad := rs_bad (q := q) hg hij hq
  refine call_V ho hc hd hf hfn hcaps (rhoR i j) (muR i q j) k hargs (by simp [Ren.ok, hij]) (fun p hp => ?_) (by simp [Ren.ok, hij, Ne.symm hq]) (fun p hp => ?_) (hs _ (rs_out hg hij k)) fun res ob' hp => ?_
  · simp at hp; rcases hp with rfl | rfl <;> simp
  · obtain ⟨h1, ⟨ex, h2⟩⟩ := hg
    simp at hp
    rcases hp with rfl | rfl
    · exact .inr (.inr (by simp [keepB, Ren.at, h1]))
    · exact .inr (.inl ⟨by simp [isRow, h2], hj2⟩)
  · obtain ⟨n', l', h1, h2⟩ := hK res ob' hp
    refine ⟨fun p hp hk => ?_, h2 _ (rs_back h1 hij hq) (fun x hi hj => ?_) fun t => by rw [back_sl, hbad]⟩
    · obtain ⟨g1, ⟨ex, g2⟩⟩ := hg
      obtain ⟨q1, ⟨ex', q2⟩⟩ := h1
      simp at hp
      rcases hp with rfl | rfl
      · simp [keptOk, g1, q1]
      · simp [keepB, Ren.at, g2, hij] at hk
    · rw [back_ob, hbad]
      simp [Ren.inv, Ren.at, Ne.symm hi, Ne.symm hj]
end
-- tree 68 18
def tr68_18 : Tr := .hoist 0 (.hoist 1 (.hoist 2 (.hoist 4 (.alt 3 (.hoist 5 (.alt 6 (.alt 7 (.hoist 8 .done) .nil) (.alt 7 (.alt 6 (.hoist 8 .done) .nil) .nil))) (.alt 7 (.alt 3 (.hoist 5 (.alt 6 (.hoist 8 .done) .nil)) .nil) .nil)))))
-- tree 68 20
def tr68_20 : Tr := .hoist 0 (.hoist 1 (.hoist 2 (.hoist 3 (.alt 4 (.alt 5 (.alt 6 (.alt 7 (.hoist 8 (.hoist 9 (.alt 10 .done .nil))) .nil) .nil) .nil) (.alt 5 (.alt 4 (.alt 6 (.alt 7 (.hoist 8 (.hoist 9 (.alt 10 .done .nil))) .nil) .nil) (.alt 6 (.alt 4 (.alt 7 (.hoist 8 (.hoist 9 (.alt 10 .done .nil))) .nil) .nil) .nil)) .nil)))))
theorem radd_spec : ∀ (d : Nat) (p : Int) (pw : Sp) (w : List Int) (ob0 : Nat → Option Ob) (n : Int) (l : List ANode), 0 ≤ p → p + d ≤ 100 → d ≤ 10 → w.length = 2 ^ d → (∀ x ∈ w, 0 ≤ x ∧ x ≤ 1048575) → l.length + 2 ^ d ≤ 100000 → RSat ob0 1000 1001 n l →
    Does Try.prog 68 [.one (.ptr 1000 0 0 0), .one (slr 1 iv pw w), .one (vi p)] ob0 (fun r ob => r = .val (.one (vi (addF d p w l).1)) ∧ RSat ob 1000 1001 n (addF d p w l).2) := by
  intro d
  induction d with
  | zero =>
    intro p pw w ob0 n l hp0 hp1 hd hw hall hl hg
    obtain ⟨g1, ⟨ex0, g2⟩⟩ := hg
    refine does_of' 95 [.tmp 6] Try.func68 rfl rfl rfl (show 3 ≤ 95 by decide) fun Q hQ => ?_
    refine V_reg_k (by decide) fun K hK => ?_
    simp
    refine hK _ (V_seq_k fun K1 hK1 => V_reg_k (by decide) fun K hK => ?_)
    simp
    refine hK _ (V_cond (t := true) (by simp [hw]) (by simp) (fun _ => ?_) (fun h => by cases h))
    refine V_reg_k (by decide) fun K hK => ?_
    obtain ⟨x, rfl⟩ : ∃ x, w = [x] := List.length_eq_one_iff.1 hw
    have hx := hall x (by simp)
    have hw1 : IntKind.i64.wrap (-1 - x) = -1 - x := wrap_i64 (by omega) (by omega)
    simp [rows_cons, hw1]
    refine hK _ (V_ret (hQ _ ⟨_, [(1000, 1000), (1001, 1001)], by simp [resL]; rfl, by decide, by simp, ?_⟩).2)
    simp [packS, SV.mapC, V1.mapC, C.lift, C.ren0, Ren.at, Ren.ob, Ren.inv, Ob.mapC, RSat, g1, g2, addF]
  | succ d ih =>
    intro p pw w ob0 n l hp0 hp1 hd hw hall hl hg
    obtain ⟨g1, ⟨ex0, g2⟩⟩ := hg
    have hpow : 2 ^ (d + 1) = 2 ^ d + 2 ^ d := by omega
    have hpd : 2 ^ d ≤ 1024 := by
      have : ∀ d ≤ 10, 2 ^ d ≤ 1024 := by decide
      exact this d (by omega)
    obtain ⟨M, hM⟩ : ∃ M, M = 2 ^ d := ⟨_, rfl⟩
    have hM1 : 1 ≤ M := by rw [hM]; exact Nat.one_le_two_pow
    have hwl : w.length = M + M := by rw [hw, hpow, hM]
    refine does_of' 95 [.tmp 6] Try.func68 rfl rfl rfl (show 3 ≤ 95 by decide) fun Q hQ => ?_
    have fin : ∀ (s : S) (v : Int), s.sl 6 = .val (.one (vi v)) → v = (addF (d + 1) p w l).1 → RSat s.ob 1000 1001 n (addF (d + 1) p w l).2 → Q .ret s := fun s v e6 hv hgs => by
      obtain ⟨h1, ⟨ex, h2⟩⟩ := hgs
      refine (hQ _ ⟨[.one (vi v)], [(1000, 1000), (1001, 1001)], by simp [resL, e6], by decide, by simp, ?_⟩).2
      simp [packS, SV.mapC, V1.mapC, C.lift, C.ren0, Ren.at, Ren.ob, Ren.inv, Ob.mapC, RSat, h1, h2, hv]
    refine V_reg_k (by decide) fun K hK => ?_
    simp
    refine hK _ (V_seq_k fun K1 hK1 => V_reg_k (by decide) fun K hK => ?_)
    simp
    refine hK _ (V_cond (t := false) (by simp [hwl]; omega) (by simp) (fun h => by cases h) (fun _ => V_skip (hK1 _ (V_reg_k (by decide) fun K hK => ?_))))
    simp
    refine hK _ (V_reg_k (by decide) fun K hK => ?_)
    simp
    refine hK _ (V_seq_k fun K2 hK2 => V_reg_k (by decide) fun K hK => ?_)
    simp
    refine hK _ (V_block (V_loop_k (fun m s => ∃ k ex7 ex8, k ≤ M ∧ m = M - k ∧ s.sl 0 = .val (.one (.ptr 1000 0 0 0)) ∧ s.sl 1 = .val (.one (slr 1 iv pw w)) ∧ s.sl 2 = .val (.one (vi p)) ∧ s.sl 7 = .val (.one (.own 7)) ∧ s.sl 8 = .val (.one (.own 8)) ∧ s.sl 9 = .val (.one (vi (2 * k))) ∧
        s.ob 7 = some (.row 3 [vi 0] (rows iv (evens w k)) [] ex7) ∧ s.ob 8 = some (.row 3 [vi 0] (rows iv (odds w k)) [] ex8) ∧ RSat s.ob 1000 1001 n l) M ⟨0, true, true, by omega, by omega, by simp, by simp, by simp, by simp, by simp, by simp, by simp [evens], by simp [odds], by simp [RSat, g1, g2]⟩ ?_))
    rintro m s ⟨k, ex7, ex8, hk, rfl, h0, h1, h2, h7, h8, h9, q7, q8, hgs⟩ K3 hK3
    refine V_seq_k fun K4 hK4 => V_reg_k (by decide) fun K hK => ?_
    simp [h9, h1]
    refine hK _ (V_cond (t := decide (2 * (k : Int) < w.length)) (by simp) (by simp) (fun h => ?_) (fun h => ?_))
    · simp at h
      have hkM : k < M := by omega
      obtain ⟨x1, hx1⟩ : ∃ x, x = w.getD (2 * k) 0 := ⟨_, rfl⟩
      obtain ⟨x2, hx2⟩ : ∃ x, x = w.getD (2 * k + 1) 0 := ⟨_, rfl⟩
      have e1 : w[2 * k]? = some x1 := by rw [hx1]; rw [List.getD_eq_getElem?_getD, List.getElem?_eq_getElem (by omega)]; rfl
      have e2 : w[2 * k + 1]? = some x2 := by rw [hx2]; rw [List.getD_eq_getElem?_getD, List.getElem?_eq_getElem (by omega)]; rfl
      have t1 : (2 * (k : Int)).toNat = 2 * k := by omega
      have t2 : (2 * (k : Int) + 1).toNat = 2 * k + 1 := by omega
      have w1 : IntKind.i64.wrap (2 * (k : Int) + 1) = 2 * k + 1 := wrap_i64 (by omega) (by omega)
      have w2 : IntKind.i64.wrap (2 * (k : Int) + 2) = 2 * k + 2 := wrap_i64 (by omega) (by omega)
      obtain ⟨g1, ⟨ex1, g2⟩⟩ := hgs
      have hb : (k + 1) * 8 ≤ 140737488355328 := by omega
      refine V_skip (hK4 _ (V_seq_k fun K5 hK5 => V_block (V_reg_k (by decide) fun K hK => ?_)))
      simp [hb, h0, h1, h2, h7, h8, h9, q7, q8, t1, t2, w1, e1, e2, rows_get?]
      refine ⟨by omega, hK _ (V_reg_e (by decide) fun K6 hK6 => ?_)⟩
      simp [hb, h0, h1, h2, h7, h8, h9, q7, q8, t1, t2, w1, e1, e2, rows_get?]
      refine ⟨by omega, hK6 _ (hK5 _ (V_reg_e (by decide) fun K7 hK7 => ?_))⟩
      simp [h9, w2]
      refine hK7 _ (hK3 (M - (k + 1)) _ (by omega) ⟨k + 1, false, false, by omega, rfl, by simp [h0], by simp [h1], by simp [h2], by simp, by simp [h8], by simp; omega, ?_, ?_, ?_⟩)
      · rw [evens_succ, ← hx1]; simp [q7, rows_cons]
      · rw [odds_succ, ← hx2]; simp [q8, rows_cons]
      · simp [RSat, g1, g2]
    · simp at h
      have hkM : k = M := by omega
      subst hkM
      have wp1 : IntKind.i64.wrap (p + 1) = p + 1 := wrap_i64 (by omega) (by omega)
      obtain ⟨E, hE⟩ : ∃ E, E = evens w k := ⟨_, rfl⟩
      obtain ⟨O, hO⟩ : ∃ O, O = odds w k := ⟨_, rfl⟩
      have eqE : evens w (2 ^ d) = E := by rw [hE, hM]
      have eqO : odds w (2 ^ d) = O := by rw [hO, hM]
      have allE : ∀ x ∈ E, 0 ≤ x ∧ x ≤ 1048575 := by rw [hE]; exact evens_all hall (by omega)
      have allO : ∀ x ∈ O, 0 ≤ x ∧ x ≤ 1048575 := by rw [hO]; exact odds_all hall (by omega)
      have lenE : E.length = 2 ^ d := by rw [hE, ← hM]; simp
      have lenO : O.length = 2 ^ d := by rw [hO, ← hM]; simp
      obtain ⟨r1, hr1⟩ : ∃ r1, r1 = addF d (p + 1) E l := ⟨_, rfl⟩
      obtain ⟨r2, hr2⟩ : ∃ r2, r2 = addF d (p + 1) O r1.2 := ⟨_, rfl⟩
      have hlen1 := addF_len d (p + 1) E l
      have hlen2 := addF_len d (p + 1) O r1.2
      rw [← hr1] at hlen1
      rw [← hr2] at hlen2
      have hres : addF (d + 1) p w l = if r1.1 = r2.1 then (r1.1, r2.2) else if ⟨p, r1.1, r2.1⟩ ∈ r2.2 then ((r2.2.idxOf ⟨p, r1.1, r2.1⟩ : Nat), r2.2) else ((r2.2.length : Nat), r2.2 ++ [⟨p, r1.1, r2.1⟩]) := by
        rw [addF, eqE, eqO, ← hr1, ← hr2]
      obtain ⟨g1, ⟨ex1, g2⟩⟩ := hgs
      rw [← hE] at q7
      rw [← hO] at q8
      refine V_exit (show K2 _ from hK2 _ (V_reg_k (by decide) fun K hK => ?_))
      simp [h0, h2, h7, wp1]
      refine callRS_V (i := 1000) (j := 1001) (n := n) (l := l) 1 1001 (by decide) ⟨by simp [g1], ⟨ex1, by simp [g2]⟩⟩ (by decide) rfl (by decide) (by decide) (by rfl) rfl rfl (args := [.one (.ptr 1000 0 0 0), .one (slr 1 iv ⟨true, [], ex7⟩ E), .one (vi (p + 1))]) (by simp [S.hand, SV.mapC, V1.mapC, C.lift, C.out0, Ren.at, C.frz, q7]) (fun ob1 hob1 => ih (p + 1) ⟨true, [], ex7⟩ E ob1 n l (by omega) (by omega) (by omega) lenE allE (by omega) hob1) ?_
      rintro res ob' ⟨rfl, hg'⟩
      rw [← hr1] at hg'
      refine ⟨n, r1.2, hg', fun s' hs' hoth hsl => ?_⟩
      have o8 := hoth 8 (by decide) (by decide)
      simp [Ob.mapC, q8] at o8
      simp [← hr1, SV.mapC, V1.mapC, C.lift, C.ren0]
      obtain ⟨f1, ⟨ex2, f2⟩⟩ := hs'
      refine hK _ (V_reg_k (by decide) fun K hK => ?_)
      simp [hsl, SV.mapC, V1.mapC, C.lift, C.drop0, h0, h2, h8, wp1]
      refine callRS_V (i := 1000) (j := 1001) (n := n) (l := r1.2) 1 1001 (by decide) ⟨by simp [f1], ⟨ex2, by simp [f2]⟩⟩ (by decide) rfl (by decide) (by decide) (by rfl) rfl rfl (args := [.one (.ptr 1000 0 0 0), .one (slr 1 iv ⟨true, [], ex8⟩ O), .one (vi (p + 1))]) (by simp [S.hand, SV.mapC, V1.mapC, C.lift, C.out0, Ren.at, C.frz, o8]) (fun ob1 hob1 => ih (p + 1) ⟨true, [], ex8⟩ O ob1 n r1.2 (by omega) (by omega) (by omega) lenO allO (by omega) hob1) ?_
      rintro res2 ob2 ⟨rfl, hg2⟩
      rw [← hr2] at hg2
      refine ⟨n, r2.2, hg2, fun s2 hs2 hoth2 hsl2 => ?_⟩
      obtain ⟨f1', ⟨ex3, f2'⟩⟩ := hs2
      simp [← hr2, SV.mapC, V1.mapC, C.lift, C.ren0]
      refine hK _ (V_seq_k fun K8 hK8 => V_reg_k (by decide) fun K hK => ?_)
      simp [hsl2, hsl, SV.mapC, V1.mapC, C.lift, C.drop0]
      refine hK _ (V_cond (t := decide (r1.1 = r2.1)) (by simp) (by simp) (fun hab => ?_) (fun hab => ?_))
      · simp at hab
        refine V_reg_k (by decide) fun K hK => ?_
        simp [hsl2, hsl, SV.mapC, V1.mapC, C.lift, C.drop0]
        refine hK _ (V_ret (fin _ r1.1 (by simp) (by rw [hres, if_pos hab]) ?_))
        rw [hres, if_pos hab]
        exact ⟨by simp [f1'], ⟨ex3, by simp [f2']⟩⟩
      · simp at hab
        rw [if_neg hab] at hres
        obtain ⟨x, hx⟩ : ∃ x : ANode, x = ⟨p, r1.1, r2.1⟩ := ⟨_, rfl⟩
        rw [← hx] at hres
        have hxv : x.vs = [.int .i64 p, .int .i64 r1.1, .int .i64 r2.1] := by rw [hx]; rfl
        refine V_skip (hK8 _ (V_reg_k (by decide) fun K hK => ?_))
        simp [hsl2, hsl, SV.mapC, V1.mapC, C.lift, C.drop0, h2]
        refine vo_of rfl (V_build (by decide) (by decide) T.z44 fo44 (by simp [bldC]; rfl) ?_)
        simp
        refine hK _ (V_seq_k fun K9 hK9 => V_reg_k (by decide) fun K hK => ?_)
        simp
        refine hK _ (V_block (V_loop_k (fun m s => ∃ i : Nat, i ≤ r2.2.length ∧ m = r2.2.length - i ∧ s.sl 0 = .val (.one (.ptr 1000 0 0 0)) ∧ s.sl 12 = .val (.one (.ptr 12 0 0 0)) ∧ s.sl 13 = .val (.one (vi i)) ∧ s.ob 12 = some (.box 44 (x.vs.map .v)) ∧ RSat s.ob 1000 1001 n r2.2 ∧ x ∉ r2.2.take i) r2.2.length ⟨0, by omega, by omega, by simp [hsl2, hsl, SV.mapC, V1.mapC, C.lift, C.drop0, h0], by simp, by simp, by simp [hxv], ⟨by simp [f1'], ⟨ex3, by simp [f2']⟩⟩, by simp⟩ ?_))
        rintro m s3 ⟨i, hi, rfl, c0, c12, c13, o12, ⟨e1, ex4, e2⟩, hnot⟩ K10 hK10
        refine V_seq_k fun K11 hK11 => V_reg_k (by decide) fun K hK => ?_
        simp [c13, c0, e1, e2]
        refine hK _ (V_cond (t := decide ((i : Int) < r2.2.length)) (by simp) (by simp) (fun h => ?_) (fun h => ?_))
        · simp at h
          have hy := getE h
          obtain ⟨y, hye⟩ : ∃ y, y = r2.2[i] := ⟨_, rfl⟩
          rw [← hye] at hy
          have hw1 : IntKind.i64.wrap ((i : Int) + 1) = i + 1 := wrap_i64 (by omega) (by omega)
          refine V_skip (hK11 _ (V_seq_k fun K12 hK12 => V_block (V_regt_k tr68_18 mixed (by decide +kernel) (by decide +kernel) (by decide) (by simp [Tr.lit, tr68_18]; rfl) fun K hK => ?_)))
          have cont : ∀ s' : S, s'.sl 77 = .val (.one (vb (decide (y = x)))) → s'.sl 0 = .val (.one (.ptr 1000 0 0 0)) → s'.sl 12 = .val (.one (.ptr 12 0 0 0)) → s'.sl 13 = .val (.one (vi i)) → s'.ob = s3.ob → K s' := by
            intro s' c77 c0 c12 c13 hob
            refine hK _ (V_cond (t := decide (y = x)) (by simp [c77]) (by simp) (fun heq => ?_) (fun hne => ?_))
            · simp only [decide_eq_true_eq] at heq
              have hmem : x ∈ r2.2 := by rw [← heq]; exact List.mem_of_getElem? hy
              have hidx : r2.2.idxOf x = i := by
                have h4 : r2.2 = r2.2.take i ++ (y :: r2.2.drop (i + 1)) := by
                  rw [hye]; exact (List.take_append_drop i r2.2).symm.trans (by rw [List.drop_eq_getElem_cons h])
                rw [h4, List.idxOf_append, if_neg hnot, heq, List.idxOf_cons_self, List.length_take]
                omega
              rw [if_pos hmem, hidx] at hres
              refine V_reg_k (by decide) fun K hK => ?_
              simp [c13]
              refine hK _ (V_ret (fin _ i (by simp) (by rw [hres]) ?_))
              rw [hres]
              exact ⟨by simp [hob, e1], ⟨ex4, by simp [hob, e2]⟩⟩
            · simp only [decide_eq_false_iff_not] at hne
              refine V_skip (hK12 _ (V_reg_e (by decide) fun K13 hK13 => ?_))
              simp [c13, hw1]
              refine hK13 _ (hK10 (r2.2.length - (i + 1)) _ (by omega) ⟨i + 1, by omega, rfl, by simp [c0], by simp [c12], by simp, by simp [hob, o12], ⟨by simp [hob, e1], ⟨ex4, by simp [hob, e2]⟩⟩, ?_⟩)
              rw [List.take_succ_eq_append_getElem h, ← hye]
              simp [hnot, Ne.symm hne]
          simp [c0, c12, c13, e1, e2, o12, rows_get ANode.vs hy, ANode.vs]
          repeat' (first | exact h | refine And.intro ?_ ?_)
          all_goals exact ⟨_, W_eqv (va := .agg y.vs.toArray) (vb := .agg x.vs.toArray) (by decide) (by simp [SV.toV, cellsV, C.toV, ANode.vs]) (by simp [SV.toV, cellsV, C.toV, ANode.vs]) (eqq44 _ _ y x) rfl, cont _ (by simp) (by simp [c0]) (by simp [c12]) (by simp [c13]) (by simp)⟩
        · simp at h
          have hiL : i = r2.2.length := by omega
          subst hiL
          rw [List.take_length] at hnot
          rw [if_neg hnot] at hres
          refine V_exit (show K9 _ from hK9 _ (V_regt_k tr68_20 mixed (by decide +kernel) (by decide +kernel) (by decide) (by simp [Tr.lit, tr68_20]; rfl) fun K hK => ?_))
          have hb : (r2.2.length + 1) * 24 ≤ 140737488355328 := by omega
          have contE : ∀ s4 : S, s4.sl 0 = .val (.one (.ptr 1000 0 0 0)) → RSat s4.ob 1000 1001 n (r2.2 ++ [x]) → K s4 := by
            intro s4 c0 hgs4
            obtain ⟨u1, ⟨ex5, u2⟩⟩ := hgs4
            have hw1 : IntKind.i64.wrap (((r2.2 ++ [x]).length : Int) - 1) = r2.2.length := by simp; exact wrap_i64 (by omega) (by omega)
            refine hK _ (V_reg_k (by decide) fun K hK => ?_)
            simp [c0, u1, u2]
            simp at hw1
            simp [hw1]
            refine hK _ (V_ret (fin _ r2.2.length (by simp) (by rw [hres]) (by rw [hres]; exact ⟨by simp [u1], ⟨ex5, by simp [u2]⟩⟩)))
          simp [hb, c0, c12, o12, e1, e2, hxv]
          refine ⟨?_, ?_, ?_⟩ <;> exact contE _ (by simp [c0]) ⟨by simp [e1], ⟨false, by simp [e2, rows_cons, hxv]⟩⟩
end Go.Proofs.Ytjjmomkjjdilnaa
