/- What functions of the laid program do, as contracts over the engine. Conditions: each theorem bears its own. -/
import Derived.Test.YtjjmomkjjdilnaaAd0
set_option linter.all false
set_option maxRecDepth 100000
namespace Go.Proofs.Ytjjmomkjjdilnaa
open Go Go.Eng Go.Proofs Go.Proofs.Ytjjmomkjjdilnaa.T
-- tree 65 4
def tr65_4 : Tr := .hoist 0 (.hoist 2 (.alt 1 (.hoist 4 (.alt 3 (.hoist 5 .done) .nil)) (.alt 3 (.alt 1 (.hoist 4 (.hoist 5 .done)) .nil) .nil)))
-- tree 65 8 EARLY all
def tr65_8 : Tr := .hoist 0 (.hoist 1 (.hoist 2 (.hoist 3 (.hoist 7 (.hoist 8 (.hoist 9 (.hoist 10 (.hoist 11 (.early 4 (.early 12 (.alt 5 (.alt 6 (.alt 13 (.alt 14 (.hoist 15 (.hoist 16 .done)) .nil) .nil) (.alt 13 (.alt 6 (.alt 14 (.hoist 15 (.hoist 16 .done)) .nil) .nil) .nil)) (.alt 13 (.alt 5 (.alt 6 (.alt 14 (.hoist 15 (.hoist 16 .done)) .nil) .nil) .nil) .nil))))))))))))
-- tree 65 14
def tr65_14 : Tr := .hoist 0 (.hoist 1 (.hoist 2 (.alt 3 (.alt 4 (.alt 5 (.hoist 6 (.hoist 7 (.hoist 9 (.hoist 8 (.hoist 10 .done))))) .nil) .nil) (.alt 4 (.alt 3 (.alt 5 (.hoist 6 (.hoist 7 (.hoist 9 (.hoist 8 (.hoist 10 .done))))) .nil) .nil) .nil))))
-- tree 65 17
def tr65_17 : Tr := .hoist 0 (.hoist 1 (.hoist 2 (.hoist 5 (.alt 3 (.alt 4 (.alt 6 .done .nil) .nil) (.alt 4 (.alt 3 (.alt 6 .done .nil) .nil) .nil)))))
-- tree 65 18
def tr65_18 : Tr := .hoist 0 (.hoist 1 (.hoist 2 (.hoist 3 (.alt 4 (.alt 5 (.alt 6 (.alt 7 (.hoist 8 (.hoist 9 (.alt 10 .done .nil))) .nil) .nil) .nil) (.alt 5 (.alt 4 (.alt 6 (.alt 7 (.hoist 8 (.hoist 9 (.alt 10 .done .nil))) .nil) .nil) (.alt 6 (.alt 4 (.alt 7 (.hoist 8 (.hoist 9 (.alt 10 .done .nil))) .nil) .nil) .nil)) .nil)))))
theorem kinds_iv (l : List Int) : kindsC [vi 0] (rows iv l) := rows_kinds iv (fun x j v h => by
  match j with
  | 0 => simp at h; subst h; rfl
  | j + 1 => simp at h) l
theorem rows_rep' (n : Nat) : rows iv (List.replicate n 0) = List.replicate n [vi 0] := by simp [rows]
theorem add_spec : ∀ (d : Nat) (p : Int) (pw : Sp) (w : List Int) (ob0 : Nat → Option Ob) (n : Int) (l : List ANode), 0 ≤ p → p + d ≤ 100 → d ≤ 10 → w.length = 2 ^ d → (∀ x ∈ w, 0 ≤ x ∧ x ≤ 1048575) → l.Nodup → l.length + 2 ^ d ≤ 100000 → GS ob0 n l (idxs l) →
    Does Try.prog 65 [.one (.ptr 1000 0 0 0), .one (slr 1 iv pw w), .one (vi p)] ob0 (fun r ob => r = .val (.one (vi (addF d p w l).1)) ∧ GS ob n (addF d p w l).2 (idxs (addF d p w l).2)) := by
  intro d
  induction d with
  | zero =>
    intro p pw w ob0 n l hp0 hp1 hd hw hall hnd hl hg
    obtain ⟨g1, ⟨ex0, g2⟩, g3⟩ := hg
    refine does_of' 103 [.tmp 6] Try.func65 rfl rfl rfl (show 3 ≤ 103 by decide) fun Q hQ => ?_
    refine V_reg_k (by decide) fun K hK => ?_
    simp
    refine hK _ (V_seq_k fun K1 hK1 => V_reg_k (by decide) fun K hK => ?_)
    simp
    refine hK _ (V_cond (t := true) (by simp [hw]) (by simp) (fun _ => ?_) (fun h => by cases h))
    refine V_reg_k (by decide) fun K hK => ?_
    obtain ⟨x, rfl⟩ : ∃ x, w = [x] := List.length_eq_one_iff.1 hw
    have hx := hall x (by simp)
    have hw1 : IntKind.i64.wrap (-1 - x) = -1 - x := wrap_i64 (by omega) (by omega)
    simp [rows_cons, hw1]
    refine hK _ (V_ret (hQ _ ⟨_, mu 1000 1001 1002, by simp [resL]; rfl, by decide, by simp, ?_⟩).2)
    simp [packS, SV.mapC, V1.mapC, C.lift, C.ren0, Ren.at, Ren.ob, Ren.inv, Ob.mapC, GSat, g1, g2, g3, addF]
  | succ d ih =>
    intro p pw w ob0 n l hp0 hp1 hd hw hall hnd hl hg
    have hg' := hg
    obtain ⟨g1, ⟨ex0, g2⟩, g3⟩ := hg
    have hpow : 2 ^ (d + 1) = 2 ^ d + 2 ^ d := by omega
    have hpd : 2 ^ d ≤ 1024 := by
      have : ∀ d ≤ 10, 2 ^ d ≤ 1024 := by decide
      exact this d (by omega)
    obtain ⟨M, hM⟩ : ∃ M, M = 2 ^ d := ⟨_, rfl⟩
    have hM1 : 1 ≤ M := by rw [hM]; exact Nat.one_le_two_pow
    have hwl : w.length = M + M := by rw [hw, hpow, hM]
    refine does_of' 103 [.tmp 6] Try.func65 rfl rfl rfl (show 3 ≤ 103 by decide) fun Q hQ => ?_
    have fin : ∀ (s : S) (v : Int), s.sl 6 = .val (.one (vi v)) → v = (addF (d + 1) p w l).1 → GSat s.ob 1000 1001 1002 n (addF (d + 1) p w l).2 (idxs (addF (d + 1) p w l).2) → Q .ret s := fun s v e6 hv hgs => by
      obtain ⟨h1, ⟨ex, h2⟩, h3⟩ := hgs
      refine (hQ _ ⟨[.one (vi v)], mu 1000 1001 1002, by simp [resL, e6], by decide, by simp, ?_⟩).2
      simp [packS, SV.mapC, V1.mapC, C.lift, C.ren0, Ren.at, Ren.ob, Ren.inv, Ob.mapC, GSat, h1, h2, h3, hv]
    refine V_reg_k (by decide) fun K hK => ?_
    simp
    refine hK _ (V_seq_k fun K1 hK1 => V_reg_k (by decide) fun K hK => ?_)
    simp
    refine hK _ (V_cond (t := false) (by simp [hwl]; omega) (by simp) (fun h => by cases h) (fun _ => V_skip (hK1 _ (V_reg_k (by decide) fun K hK => ?_))))
    have hw2 : IntKind.i64.wrap ((w.length : Int) / 2) = M := by
      rw [hwl, show ((M + M : Nat) : Int) / 2 = M by omega]
      exact wrap_i64 (by omega) (by omega)
    simp [hw2]
    refine hK _ (V_regt_k tr65_4 mixed (by decide +kernel) (by decide +kernel) (by decide) (by simp [Tr.lit, tr65_4]; rfl) fun K hK => ?_)
    have contA : ∀ s' : S, s'.sl 0 = .val (.one (.ptr 1000 0 0 0)) → s'.sl 1 = .val (.one (slr 1 iv pw w)) → s'.sl 2 = .val (.one (vi p)) → s'.sl 8 = .val (.one (.own 25)) → s'.sl 9 = .val (.one (.own 27)) → s'.ob 25 = some (.row 3 [vi 0] (rows iv []) (rows iv (List.replicate M 0)) true) → s'.ob 27 = some (.row 3 [vi 0] (rows iv []) (rows iv (List.replicate M 0)) true) → GSat s'.ob 1000 1001 1002 n l (idxs l) → K s' := by
      intro s' h0 h1 h2 h8 h9 h25 h27 hgs
      refine hK _ (V_forget (id := 25) h25 (kinds_iv _) (V_forget (id := 27) (by simpa using h27) (kinds_iv _) (V_seq_k fun K2 hK2 => V_reg_k (by decide) fun K hK => ?_)))
      simp
      refine hK _ (V_block (V_loop_k (fun m s => ∃ k ex25 ex27, k ≤ M ∧ m = M - k ∧ s.sl 0 = .val (.one (.ptr 1000 0 0 0)) ∧ s.sl 1 = .val (.one (slr 1 iv pw w)) ∧ s.sl 2 = .val (.one (vi p)) ∧ s.sl 8 = .val (.one (.own 25)) ∧ s.sl 9 = .val (.one (.own 27)) ∧ s.sl 10 = .val (.one (vi (2 * k))) ∧
        s.ob 25 = some (.row 3 [vi 0] (rows iv (evens w k)) [] ex25) ∧ s.ob 27 = some (.row 3 [vi 0] (rows iv (odds w k)) [] ex27) ∧ GSat s.ob 1000 1001 1002 n l (idxs l)) M ⟨0, false, false, by omega, by omega, by simp [h0], by simp [h1], by simp [h2], by simp [h8], by simp [h9], by simp, by simp [evens], by simp [odds], by simpa [GSat] using hgs⟩ ?_))
      rintro m s ⟨k, ex25, ex27, hk, rfl, h0, h1, h2, h8, h9, h10, q25, q27, hgs⟩ K3 hK3
      refine V_seq_k fun K4 hK4 => V_reg_k (by decide) fun K hK => ?_
      simp [h10, h1]
      refine hK _ (V_cond (t := decide (2 * (k : Int) < w.length)) (by simp) (by simp) (fun h => ?_) (fun h => ?_))
      · simp at h
        have hkM : k < M := by omega
        obtain ⟨x1, hx1⟩ : ∃ x, x = w.getD (2 * k) 0 := ⟨_, rfl⟩
        obtain ⟨x2, hx2⟩ : ∃ x, x = w.getD (2 * k + 1) 0 := ⟨_, rfl⟩
        have e1 : w[2 * k]? = some x1 := by rw [hx1]; rw [List.getD_eq_getElem?_getD, List.getElem?_eq_getElem (by omega)]; rfl
        have e2 : w[2 * k + 1]? = some x2 := by rw [hx2]; rw [List.getD_eq_getElem?_getD, List.getElem?_eq_getElem (by omega)]; rfl
        have t1 : (2 * (k : Int)).toNat = 2 * k := by omega
        have t2 : (2 * (k : Int) + 1).toNat = 2 * k + 1 := by omega
        have w1 : IntKind.i64.wrap (2 * (k : Int) + 1) = 2 * k + 1 := wrap_i64 (by omega) (by omega)
        have w2 : IntKind.i64.wrap (2 * (k : Int) + 2) = 2 * k + 2 := wrap_i64 (by omega) (by omega)
        obtain ⟨g1, ⟨ex1, g2⟩, g3⟩ := hgs
        refine V_skip (hK4 _ (V_seq_k fun K5 hK5 => V_block (V_regt_e tr65_8 mixed (by decide +kernel) (by decide +kernel) (by decide) (by simp [Tr.lit, tr65_8]; rfl) fun K hK => ?_)))
        have contB : ∀ s' : S, s'.sl 0 = .val (.one (.ptr 1000 0 0 0)) → s'.sl 1 = .val (.one (slr 1 iv pw w)) → s'.sl 2 = .val (.one (vi p)) → s'.sl 8 = .val (.one (.own 25)) → s'.sl 9 = .val (.one (.own 27)) → s'.sl 10 = .val (.one (vi (2 * k))) → s'.ob 25 = some (.row 3 [vi 0] (rows iv (evens w k ++ [x1])) [] false) → s'.ob 27 = some (.row 3 [vi 0] (rows iv (odds w k ++ [x2])) [] false) → GSat s'.ob 1000 1001 1002 n l (idxs l) → K s' := by
          intro s' h0 h1 h2 h8 h9 h10 q25 q27 hgs
          refine hK _ (hK5 _ (V_reg_e (by decide) fun K6 hK6 => ?_))
          simp [h10, w2]
          exact hK6 _ (hK3 (M - (k + 1)) _ (by omega) ⟨k + 1, false, false, by omega, rfl, by simp [h0], by simp [h1], by simp [h2], by simp [h8], by simp [h9], by simp; omega, by rw [evens_succ, ← hx1]; exact q25, by rw [odds_succ, ← hx2]; exact q27, hgs⟩)
        have hb : (k + 1) * 8 ≤ 140737488355328 := by omega
        simp [hb, h0, h1, h2, h8, h9, h10, q25, q27, t1, t2, w1, e1, e2, rows_get?]
        refine ⟨by omega, by omega, ⟨?_, ?_⟩, ?_⟩ <;>
          exact contB _ (by simp [h0]) (by simp [h1]) (by simp [h2]) (by simp [h8]) (by simp [h9]) (by simp [h10]) (by simp [q25, rows_cons]) (by simp [q27, rows_cons]) (by simp [GSat, g1, g2, g3])
      · simp at h
        have hkM : k = M := by omega
        subst hkM
        have wp1 : IntKind.i64.wrap (p + 1) = p + 1 := wrap_i64 (by omega) (by omega)
        obtain ⟨E, hE⟩ : ∃ E, E = evens w k := ⟨_, rfl⟩
        obtain ⟨O, hO⟩ : ∃ O, O = odds w k := ⟨_, rfl⟩
        have eqE : evens w (2 ^ d) = E := by rw [hE, hM]
        have eqO : odds w (2 ^ d) = O := by rw [hO, hM]
        have allE : ∀ x ∈ E, 0 ≤ x ∧ x ≤ 1048575 := by rw [hE]; exact evens_all hall (by omega)
        have allO : ∀ x ∈ O, 0 ≤ x ∧ x ≤ 1048575 := by rw [hO]; exact odds_all hall (by omega)
        have lenE : E.length = 2 ^ d := by rw [hE, ← hM]; simp
        have lenO : O.length = 2 ^ d := by rw [hO, ← hM]; simp
        obtain ⟨r1, hr1⟩ : ∃ r1, r1 = addF d (p + 1) E l := ⟨_, rfl⟩
        obtain ⟨r2, hr2⟩ : ∃ r2, r2 = addF d (p + 1) O r1.2 := ⟨_, rfl⟩
        have hlen1 := addF_len d (p + 1) E l
        have hlen2 := addF_len d (p + 1) O r1.2
        have hn1 := addF_nodup d (p + 1) E l hnd
        rw [← hr1] at hlen1 hn1
        have hn2 := addF_nodup d (p + 1) O r1.2 hn1
        rw [← hr2] at hlen2 hn2
        have hres : addF (d + 1) p w l = if r1.1 = r2.1 then (r1.1, r2.2) else if ⟨p, r1.1, r2.1⟩ ∈ r2.2 then ((r2.2.idxOf ⟨p, r1.1, r2.1⟩ : Nat), r2.2) else ((r2.2.length : Nat), r2.2 ++ [⟨p, r1.1, r2.1⟩]) := by
          rw [addF, eqE, eqO, ← hr1, ← hr2]
        obtain ⟨g1, ⟨ex1, g2⟩, g3⟩ := hgs
        rw [← hE] at q25
        rw [← hO] at q27
        refine V_exit (show K2 _ from hK2 _ (V_reg_k (by decide) fun K hK => ?_))
        simp [h2]
        refine vo_of rfl (V_build (by decide) (by decide) T.z44 fo44 (by simp [bldC]; rfl) ?_)
        simp
        refine hK _ (V_reg_k (by decide) fun K hK => ?_)
        simp [h0, h2, h8, wp1]
        refine callGS_V (i := 1000) (j := 1001) (m := 1002) (n := n) (l := l) (es := idxs l) 1 ⟨by simp [g1], ⟨ex1, by simp [g2]⟩, by simp [g3]⟩ (by decide) rfl (by decide) (by decide) (by rfl) rfl rfl (args := [.one (.ptr 1000 0 0 0), .one (slr 1 iv ⟨true, [], ex25⟩ E), .one (vi (p + 1))]) (by simp [S.hand, SV.mapC, V1.mapC, C.lift, C.out0, Ren.at, C.frz, q25]) (fun ob1 hob1 => ih (p + 1) ⟨true, [], ex25⟩ E ob1 n l (by omega) (by omega) (by omega) lenE allE hnd (by omega) hob1) ?_
        rintro res ob' ⟨rfl, hg'⟩
        rw [← hr1] at hg'
        refine ⟨n, r1.2, idxs r1.2, hg', fun s' hs' hoth hsl => ?_⟩
        have o11 := hoth 11 (by decide) (by decide) (by decide)
        have o27 := hoth 27 (by decide) (by decide) (by decide)
        simp [Ob.mapC, C.lift, C.drop0, q27] at o11 o27
        simp [← hr1, SV.mapC, V1.mapC, C.lift, C.ren0, C.drop0, hsl, h0, h2, h9, o11]
        obtain ⟨f1, ⟨ex2, f2⟩, f3⟩ := hs'
        refine hK _ (V_reg_k (by decide) fun K hK => ?_)
        simp [hsl, SV.mapC, V1.mapC, C.lift, C.drop0, h0, h2, h9, wp1]
        refine callGS_V (i := 1000) (j := 1001) (m := 1002) (n := n) (l := r1.2) (es := idxs r1.2) 1 ⟨by simp [f1], ⟨ex2, by simp [f2]⟩, by simp [f3]⟩ (by decide) rfl (by decide) (by decide) (by rfl) rfl rfl (args := [.one (.ptr 1000 0 0 0), .one (slr 1 iv ⟨true, [], ex27⟩ O), .one (vi (p + 1))]) (by simp [S.hand, SV.mapC, V1.mapC, C.lift, C.out0, Ren.at, C.frz, o27]) (fun ob1 hob1 => ih (p + 1) ⟨true, [], ex27⟩ O ob1 n r1.2 (by omega) (by omega) (by omega) lenO allO hn1 (by omega) hob1) ?_
        rintro res2 ob2 ⟨rfl, hg2⟩
        rw [← hr2] at hg2
        refine ⟨n, r2.2, idxs r2.2, hg2, fun s2 hs2 hoth2 hsl2 => ?_⟩
        obtain ⟨f1', ⟨ex3, f2'⟩, f3'⟩ := hs2
        have p11 := hoth2 11 (by decide) (by decide) (by decide)
        simp [Ob.mapC, C.lift, C.drop0] at p11
        simp [← hr2, SV.mapC, V1.mapC, C.lift, C.ren0, C.drop0, hsl2, hsl, h0, h2, p11]
        refine hK _ (V_seq_k fun K8 hK8 => V_reg_k (by decide) fun K hK => ?_)
        simp [hsl2, hsl, SV.mapC, V1.mapC, C.lift, C.drop0]
        refine hK _ (V_cond (t := decide (r1.1 = r2.1)) (by simp) (by simp) (fun hab => ?_) (fun hab => ?_))
        · simp at hab
          refine V_reg_k (by decide) fun K hK => ?_
          simp [hsl2, hsl, SV.mapC, V1.mapC, C.lift, C.drop0]
          refine hK _ (V_ret (fin _ r1.1 (by simp) (by rw [hres, if_pos hab]) ?_))
          rw [hres, if_pos hab]
          exact ⟨by simp [f1'], ⟨ex3, by simp [f2']⟩, by simp [f3']⟩
        · simp at hab
          rw [if_neg hab] at hres
          obtain ⟨x, hx⟩ : ∃ x : ANode, x = ⟨p, r1.1, r2.1⟩ := ⟨_, rfl⟩
          rw [← hx] at hres
          refine V_skip (hK8 _ (V_regt_k tr65_14 mixed (by decide +kernel) (by decide +kernel) (by decide) (by simp [Tr.lit, tr65_14]; rfl) fun K hK => ?_))
          have hxv : x.vs = [.int .i64 p, .int .i64 r1.1, .int .i64 r2.1] := by rw [hx]; rfl
          have contC : ∀ (s' : S) (i : Int) (there : Bool), s'.sl 0 = .val (.one (.ptr 1000 0 0 0)) → s'.sl 11 = .val (.one (.ptr 11 0 0 0)) → s'.sl 12 = .val (.one (vi i)) → s'.sl 13 = .val (.one (vb there)) → s'.ob 11 = some (.box 44 (x.vs.map .v)) → GSat s'.ob 1000 1001 1002 n r2.2 (idxs r2.2) → (if there then x ∈ r2.2 ∧ i = r2.2.idxOf x else x ∉ r2.2) → K s' := by
            intro s' i there c0 c11 c12 c13 o11 hgs' hth
            refine hK _ (V_seq_k fun K9 hK9 => V_reg_k (by decide) fun K hK => ?_)
            simp [c13]
            refine hK _ (V_cond (t := !there) (by simp) (by simp) (fun ht => ?_) (fun ht => ?_))
            · simp at ht
              subst ht
              simp at hth
              rw [if_neg hth] at hres
              obtain ⟨e1, ⟨ex4, e2⟩, e3⟩ := hgs'
              refine V_reg_k (by decide) fun K hK => ?_
              simp [c0, e1, e2]
              refine hK _ (V_regt_k tr65_17 mixed (by decide +kernel) (by decide +kernel) (by decide) (by simp [Tr.lit, tr65_17]; rfl) fun K hK => ?_)
              have contD : ∀ s3 : S, s3.sl 0 = .val (.one (.ptr 1000 0 0 0)) → s3.sl 11 = .val (.one (.ptr 11 0 0 0)) → s3.sl 12 = .val (.one (vi r2.2.length)) → s3.ob 11 = some (.box 44 (x.vs.map .v)) → GSat s3.ob 1000 1001 1002 n r2.2 (idxs (r2.2 ++ [x])) → K s3 := by
                intro s3 c0 c11 c12 o11 hgs3
                obtain ⟨e1, ⟨ex4, e2⟩, e3⟩ := hgs3
                refine hK _ (V_regt_e tr65_18 mixed (by decide +kernel) (by decide +kernel) (by decide) (by simp [Tr.lit, tr65_18]; rfl) fun K hK => ?_)
                have contE : ∀ s4 : S, s4.sl 12 = .val (.one (vi r2.2.length)) → GSat s4.ob 1000 1001 1002 n (r2.2 ++ [x]) (idxs (r2.2 ++ [x])) → K s4 := by
                  intro s4 c12 hgs4
                  refine hK _ (hK9 _ (V_reg_k (by decide) fun K hK => ?_))
                  simp [c12]
                  refine hK _ (V_ret (fin _ r2.2.length (by simp) (by rw [hres]) (by rw [hres]; exact hgs4)))
                have hb : (r2.2.length + 1) * 24 ≤ 140737488355328 := by omega
                simp [hb, c0, c11, o11, e1, e2, e3, hxv]
                refine ⟨?_, ?_, ?_⟩ <;> exact contE _ (by simp [c12]) ⟨by simp [e1], ⟨false, by simp [e2, rows_cons, hxv]⟩, by simp [e3]⟩
              simp [c0, c11, o11, e1, hxv]
              refine ⟨?_, ?_⟩ <;>
              · refine vo_of rfl (V_mapUpdate (G := isNode) (id := 1002) (es := idxs r2.2) (kv := .agg x.vs.toArray) (v := .int .i64 r2.2.length) (by decide) (by simp) (by simp [e3]) (by simp [SV.toV, cellsV, C.toV, hxv]) rfl Try.underlying110 key44 ⟨x, rfl⟩ (fun q hq => ?_) (fun _ => ?_) (fun j u hju => ?_))
                · obtain ⟨y, _, i, rfl⟩ := idxs_key hq; exact ⟨y, rfl⟩
                · rw [← idxs_app]
                  simp
                  exact contD _ (by simp [c0]) (by simp [c11]) (by simp) (by simp [o11]) ⟨by simp [e1], ⟨ex4, by simp [e2]⟩, by simp⟩
                · exact absurd (idxs_mem (List.mem_of_getElem? hju) hn2).1 hth
            · simp at ht
              subst ht
              simp at hth
              rw [if_pos hth.1] at hres
              refine V_skip (hK9 _ (V_reg_k (by decide) fun K hK => ?_))
              simp [c12]
              refine hK _ (V_ret (fin _ i (by simp) (by rw [hres]; exact hth.2) (by rw [hres]; exact hgs')))
          simp [hsl2, hsl, SV.mapC, V1.mapC, C.lift, C.drop0, h0, f1']
          refine ⟨?_, ?_⟩ <;>
          · refine vo_of rfl (V_lookup (G := isNode) (id := 1002) (es := idxs r2.2) (kv := .agg x.vs.toArray) (z := .int .i64 0) (by decide) (by decide) (by simp) (by simp [f3']) (by simp [SV.toV, cellsV, C.toV, hxv]) Try.underlying110 key44 ⟨x, rfl⟩ (fun q hq => ?_) (fun w => Try.zeroValue3 w) rfl (fun q hq => ?_) (fun hno => ?_) (fun v hv => ?_))
            · obtain ⟨y, _, i, rfl⟩ := idxs_key hq; exact ⟨y, rfl⟩
            · obtain ⟨y, _, i, rfl⟩ := idxs_key hq; rfl
            · simp
              exact contC _ 0 false (by simp [hsl2, hsl, SV.mapC, V1.mapC, C.lift, C.drop0, h0]) (by simp [hsl2, hsl, SV.mapC, V1.mapC, C.lift, C.drop0]) (by simp) (by simp) (by simp [hxv]) ⟨by simp [f1'], ⟨ex3, by simp [f2']⟩, by simp [f3']⟩ (by simpa using idxs_no hno)
            · obtain ⟨m1, rfl⟩ := idxs_mem hv hn2
              simp
              exact contC _ (r2.2.idxOf x) true (by simp [hsl2, hsl, SV.mapC, V1.mapC, C.lift, C.drop0, h0]) (by simp [hsl2, hsl, SV.mapC, V1.mapC, C.lift, C.drop0]) (by simp) (by simp) (by simp [hxv]) ⟨by simp [f1'], ⟨ex3, by simp [f2']⟩, by simp [f3']⟩ (by simpa using m1)
    simp [hw2]
    refine ⟨⟨by omega, ?_⟩, ⟨by omega, ?_⟩⟩ <;>
      exact contA _ (by simp) (by simp) (by simp) (by simp) (by simp) (by simp [rows_rep']) (by simp [rows_rep']) (by simp [GSat, g1, g2, g3])
end Go.Proofs.Ytjjmomkjjdilnaa
