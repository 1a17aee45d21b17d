/- What functions of the laid program do, as contracts over the engine. Conditions: each theorem bears its own. -/
import Derived.Test.YtjjmomkjjdilnaaL3a
set_option linter.all false
set_option maxRecDepth 100000
namespace Go.Proofs.Ytjjmomkjjdilnaa
open Go Go.Eng Go.Proofs Go.Proofs.Ytjjmomkjjdilnaa.T
/-- Lists of numbers that are read. -/
def listsC (ls : List (Sp × List Int)) : List (List C) := ls.map fun p => [slr 1 iv p.1 p.2]
@[simp] theorem listsC_len (ls : List (Sp × List Int)) : (listsC ls).length = ls.length := by simp [listsC]
theorem listsC_get {ls : List (Sp × List Int)} {i : Nat} {p : Sp × List Int} (h : ls[i]? = some p) : (listsC ls)[i]? = some [slr 1 iv p.1 p.2] := by simp [listsC, h]
theorem guardStore_walk (t : Bool) (ys : List (List C)) (ex : Bool) (n : Int) (ls : List (Sp × List Int)) :
    Does Try.prog 3 [.one (vi n), .one (.sl t 1 (listsC ls) ys ex)] (fun _ => none) (fun r _ => r = .val (.one (vb true))) := by
  refine does_of' 140 [.tmp 4] Try.func3 rfl rfl rfl (show 2 ≤ 140 by decide) fun Q hQ => ?_
  have fin : ∀ (s : S), s.sl 4 = .val (.one (vb true)) → Q .ret s := fun s e4 => by
    refine (hQ _ ⟨[.one (vb true)], [], by simp [resL, e4], rfl, by simp, ?_⟩).2
    simp [packS, SV.mapC, V1.mapC, C.lift, C.ren0]
  refine V_reg_k (by decide) fun K hK => ?_
  simp
  refine hK _ (V_reg_k (by decide) fun K hK => ?_)
  simp
  refine callM_V 1 [(0, 500), (1, 501), (2, 502)] (by decide) (by decide) rfl (by decide) (by decide) (by rfl) rfl rfl (args := [.one (vi n)]) (by simp [S.hand, SV.mapC, V1.mapC, C.lift, C.out0]) (gnew_spec n) ?_
  intro res ob' hp
  by_cases hn : n < 0 ∨ 8 < n
  · rw [if_pos hn] at hp
    obtain rfl := hp
    simp [SV.mapC, V1.mapC, C.lift, C.ren0]
    refine hK _ (V_reg_k (by decide) fun K hK => ?_)
    simp [SV.mapC, V1.mapC, C.lift, C.drop0]
    refine call0_V 1 rfl (by decide) (by decide) (by rfl) rfl rfl (args := [.one (vi n)]) (by simp [S.hand, SV.mapC, V1.mapC, C.lift, C.out0, C.drop0]) (rnew_spec n) ?_
    intro res2 ob2 hp2
    rw [if_pos hn] at hp2
    obtain rfl := hp2
    simp [SV.mapC, V1.mapC, C.lift, C.ren0]
    refine hK _ (V_seq_k fun K1 hK1 => V_reg_k (by decide) fun K hK => ?_)
    simp [guardS]
    refine V_of_W (by decide) (W_eqv (va := .pointer none) (vb := .pointer none) (by decide) (by simp [SV.toV, C.toV]) (by simp [SV.toV, C.toV]) (nilp23 _ _) rfl) ?_
    simp [guardS]
    refine V_of_W (by decide) (W_eqv (va := .pointer none) (vb := .pointer none) (by decide) (by simp [SV.toV, C.toV]) (by simp [SV.toV, C.toV]) (nilp27 _ _) rfl) ?_
    simp [guardS, binC]
    refine hK _ (V_cond (t := false) (by simp) (by simp) (fun h => by cases h) (fun _ => V_skip (hK1 _ (V_seq_k fun K1 hK1 => V_reg_k (by decide) fun K hK => ?_))))
    simp
    refine V_of_W (by decide) (W_eqv (va := .pointer none) (vb := .pointer none) (by decide) (by simp [SV.toV, C.toV]) (by simp [SV.toV, C.toV]) (nilp27 _ _) rfl) ?_
    simp [guardS]
    refine hK _ (V_cond (t := true) (by simp) (by simp) (fun _ => ?_) (fun h => by cases h))
    refine V_reg_k (by decide) fun K hK => ?_
    simp
    exact hK _ (V_ret (fin _ (by simp)))
  · rw [if_neg hn] at hp
    obtain ⟨rfl, p0, p1, p2⟩ := hp
    simp [SV.mapC, V1.mapC, C.lift, C.ren0, Ren.at]
    refine hK _ (V_reg_k (by decide) fun K hK => ?_)
    simp [SV.mapC, V1.mapC, C.lift, C.drop0]
    refine callM_V 1 [(0, 600), (1, 601)] (by decide) (by decide) rfl (by decide) (by decide) (by rfl) rfl rfl (args := [.one (vi n)]) (by simp [S.hand, SV.mapC, V1.mapC, C.lift, C.out0, C.drop0]) (rnew_spec n) ?_
    intro res2 ob2 hp2
    rw [if_neg hn] at hp2
    obtain ⟨rfl, u0, u1⟩ := hp2
    simp [SV.mapC, V1.mapC, C.lift, C.ren0, Ren.at]
    obtain ⟨m, rfl⟩ : ∃ m : Nat, n = m := ⟨n.toNat, by omega⟩
    have hm8 : m ≤ 8 := by omega
    refine hK _ (V_seq_k fun K1 hK1 => V_reg_k (by decide) fun K hK => ?_)
    have contA : ∀ s' : S, s'.sl 37 = .val (.one (vb false)) → s'.sl 1 = .val (.one (.sl t 1 (listsC ls) ys ex)) → s'.sl 5 = .val (.one (.ptr 500 0 0 0)) → s'.sl 7 = .val (.one (.ptr 600 0 0 0)) → GSat s'.ob 500 501 502 m [] (idxs []) → RSat s'.ob 600 601 m [] → K s' := by
      intro s' c37 c1 c5 c7 hg hr
      refine hK _ (V_cond (t := false) (by simp [c37]) (by simp) (fun h => by cases h) (fun _ => V_skip (hK1 _ (V_seq_k fun K1 hK1 => V_reg_k (by decide) fun K hK => ?_))))
      simp [c7]
      refine V_nilcmp (c := .ptr 600 0 0 0) (.inl rfl) (.inl rfl) (by decide) (by decide) (by simp) rfl (.inr ⟨by simp, rfl⟩) (.inl ⟨⟨_, Try.underlying27⟩, rfl⟩) ?_
      simp [guardS, c1]
      refine hK _ (V_cond (t := decide (40 < (ls.length : Int))) (by simp) (by simp) (fun h => ?_) (fun h => ?_))
      · refine V_reg_k (by decide) fun K hK => ?_
        simp
        exact hK _ (V_ret (fin _ (by simp)))
      · simp at h
        refine V_skip (hK1 _ (V_seq_k fun K2 hK2 => V_reg_k (by decide) fun K hK => ?_))
        simp
        refine hK _ (V_block (V_loop_k (fun c s => ∃ (i : Nat) (l : List ANode), i ≤ ls.length ∧ c = ls.length - i ∧ s.sl 9 = .val (.one (vi i)) ∧ s.sl 1 = .val (.one (.sl t 1 (listsC ls) ys ex)) ∧ s.sl 5 = .val (.one (.ptr 500 0 0 0)) ∧ s.sl 7 = .val (.one (.ptr 600 0 0 0)) ∧ GSat s.ob 500 501 502 m l (idxs l) ∧ RSat s.ob 600 601 m l ∧ l.Nodup ∧ l.length ≤ 4096) ls.length ⟨0, [], by omega, by omega, by simp, by simp [c1], by simp [c5], by simp [c7], ⟨by simp [hg.1], hg.2.1.imp fun e h => by simp [h], by simp [hg.2.2]⟩, ⟨by simp [hr.1], hr.2.imp fun e h => by simp [h]⟩, by simp, by simp⟩ ?_))
        rintro c s ⟨i, l, hi, rfl, d9, d1, d5, d7, ⟨g1, ⟨ex1, g2⟩, g3⟩, ⟨r1, ⟨ex2, r2⟩⟩, hnd, hl⟩ K3 hK3
        refine V_seq_k fun K4 hK4 => V_reg_k (by decide) fun K hK => ?_
        simp [d9, d1]
        refine hK _ (V_cond (t := decide ((i : Int) < ls.length)) (by simp) (by simp) (fun h => ?_) (fun h => ?_))
        · simp at h
          have hx := getE h
          obtain ⟨p, hp⟩ : ∃ p, p = ls[i] := ⟨_, rfl⟩
          rw [← hp] at hx
          refine V_skip (hK4 _ (V_seq_k fun K5 hK5 => V_block (V_seq_k fun K6 hK6 => V_reg_k (by decide) fun K hK => ?_)))
          simp [d9, d1, listsC_get hx]
          refine hK _ (V_cond (t := decide (260 < (p.2.length : Int))) (by simp) (by simp) (fun h => ?_) (fun h => ?_))
          · refine V_reg_k (by decide) fun K hK => ?_
            simp
            exact hK _ (V_ret (fin _ (by simp)))
          · simp at h
            have hpl : p.2.length < 2 ^ 40 := by omega
            refine V_skip (hK6 _ (V_reg_k (by decide) fun K hK => ?_))
            simp [d9, d1, listsC_get hx]
            refine call1_V 1 61 0 (by decide) rfl (by decide) (by decide) (by rfl) rfl rfl (args := [.one (slr 1 iv ⟨t || p.1.t, p.1.ys, p.1.ex⟩ p.2)]) (by simp [S.hand, SV.mapC, V1.mapC, C.lift, C.out0]) (lentInts_spec _ p.2 (by omega)) ?_
            rintro res ob' ⟨rfl, ho⟩
            simp [SV.mapC, V1.mapC, C.lift, C.ren0, Ren.at]
            have contB : ∀ s' : S, s'.sl 9 = .val (.one (vi i)) → s'.sl 1 = .val (.one (.sl t 1 (listsC ls) ys ex)) → s'.sl 5 = .val (.one (.ptr 500 0 0 0)) → s'.sl 7 = .val (.one (.ptr 600 0 0 0)) → s'.sl 10 = .val (.one (.own 61)) → s'.ob 61 = some (.row 3 [vi 0] (rows iv p.2) (rows iv (lentMarks p.2.length)) true) → GSat s'.ob 500 501 502 m l (idxs l) → RSat s'.ob 600 601 m l → K s' := by
              clear ho
              intro s' e9 e1 e5 e7 e10 o61 hg2 hr2
              refine hK _ (V_reg_k (by decide) fun K hK => ?_)
              simp [e5, e10]
              refine callGS_V (i := 500) (j := 501) (m := 502) (n := m) (l := l) (es := idxs l) 1 (by simpa [GSat] using hg2) (by decide) rfl (by decide) (by decide) (by rfl) rfl rfl (args := [.one (.ptr 1000 0 0 0), .one (slr 1 iv ⟨true, rows iv (lentMarks p.2.length), true⟩ p.2)]) (by simp [S.hand, SV.mapC, V1.mapC, C.lift, C.out0, Ren.at, C.frz, o61]) (fun ob1 hob1 => gAdd_spec ⟨true, rows iv (lentMarks p.2.length), true⟩ p.2 ob1 m l hm8 hpl hl hnd hob1) ?_
              rintro res ob' ⟨rfl, hg'⟩
              obtain ⟨st, hst⟩ : ∃ st, st = storeF m p.2 l := ⟨_, rfl⟩
              rw [← hst] at hg'
              refine ⟨m, st.2, idxs st.2, hg', fun s2 hs2 hoth hsl => ?_⟩
              have o61' := hoth 61 (by decide) (by decide) (by decide)
              have o600 := hoth 600 (by decide) (by decide) (by decide)
              have o601 := hoth 601 (by decide) (by decide) (by decide)
              obtain ⟨r1, ⟨ex2, r2⟩⟩ := hr2
              simp [Ob.mapC, C.lift, C.drop0, o61] at o61'
              simp [Ob.mapC, C.lift, C.drop0, r1] at o600
              simp [Ob.mapC, C.lift, C.drop0, r2] at o601
              simp [← hst, SV.mapC, V1.mapC, C.lift, C.ren0]
              refine hK _ (V_reg_k (by decide) fun K hK => ?_)
              simp [hsl, SV.mapC, V1.mapC, C.lift, C.drop0, e9, e1, e5, e7, e10, listsC_get hx]
              refine callRS_V (i := 600) (j := 601) (n := m) (l := l) 1 0 (by decide) ⟨by simp [o600], ⟨ex2, by simp [o601]⟩⟩ (by decide) rfl (by decide) (by decide) (by rfl) rfl rfl (args := [.one (.ptr 1000 0 0 0), .one (slr 1 iv ⟨t || p.1.t, p.1.ys, p.1.ex⟩ p.2)]) (by simp [S.hand, SV.mapC, V1.mapC, C.lift, C.out0, Ren.at]) (fun ob1 hob1 => rAdd_spec ⟨t || p.1.t, p.1.ys, p.1.ex⟩ p.2 ob1 m l hm8 hpl hl hob1) ?_
              rintro res ob3 ⟨rfl, hg3⟩
              rw [← hst] at hg3
              refine ⟨m, st.2, hg3, fun s3 hs3 hoth3 hsl3 => ?_⟩
              have q61 := hoth3 61 (by decide) (by decide)
              have q500 := hoth3 500 (by decide) (by decide)
              have q501 := hoth3 501 (by decide) (by decide)
              have q502 := hoth3 502 (by decide) (by decide)
              obtain ⟨v1, ⟨ex3, v2⟩, v3⟩ := hs2
              simp [Ob.mapC, o61'] at q61
              simp [Ob.mapC, C.lift, C.drop0, v1] at q500
              simp [Ob.mapC, v2] at q501
              simp [Ob.mapC, v3] at q502
              simp [← hst, SV.mapC, V1.mapC, C.lift, C.ren0]
              have hsn : st.2.Nodup := by rw [hst]; exact storeF_nodup m p.2 l hnd
              have hsl4 : st.2.length ≤ 4096 := by rw [hst]; exact storeF_len m p.2 l hl
              have contC : ∀ s' : S, s'.sl 9 = .val (.one (vi i)) → s'.sl 1 = .val (.one (.sl t 1 (listsC ls) ys ex)) → s'.sl 5 = .val (.one (.ptr 500 0 0 0)) → s'.sl 7 = .val (.one (.ptr 600 0 0 0)) → s'.sl 10 = .val (.one (.own 61)) → s'.sl 11 = .val (.one (vi st.1.1)) → s'.sl 12 = .val (.one (vi st.1.2)) → s'.sl 13 = .val (.one (vi st.1.1)) → s'.sl 14 = .val (.one (vi st.1.2)) → s'.ob 61 = some (.row 3 [vi 0] (rows iv p.2) (rows iv (lentMarks p.2.length)) true) → GSat s'.ob 500 501 502 m st.2 (idxs st.2) → RSat s'.ob 600 601 m st.2 → K s' := by
                intro s' e9 e1 e5 e7 e10 e11 e12 e13 e14 o61 hgs hrs
                refine hK _ (V_regt_k tr3_15 mixed (by decide +kernel) (by decide +kernel) (by decide) (by simp [Tr.lit, tr3_15]; rfl) fun K hK => ?_)
                have contD : ∀ s' : S, s'.sl 9 = .val (.one (vi i)) → s'.sl 1 = .val (.one (.sl t 1 (listsC ls) ys ex)) → s'.sl 5 = .val (.one (.ptr 500 0 0 0)) → s'.sl 7 = .val (.one (.ptr 600 0 0 0)) → s'.sl 103 = .val (.one (vb false)) → GSat s'.ob 500 501 502 m st.2 (idxs st.2) → RSat s'.ob 600 601 m st.2 → K s' := by
                  intro s' e9 e1 e5 e7 e103 ⟨a1, ⟨exa, a2⟩, a3⟩ ⟨b1, ⟨exb, b2⟩⟩
                  have hw1 : IntKind.i64.wrap ((i : Int) + 1) = i + 1 := wrap_i64 (by omega) (by omega)
                  refine hK _ (V_cond (t := false) (by simp [e103]) (by simp) (fun h => by cases h) (fun _ => V_skip (hK5 _ (V_reg_e (by decide) fun K6 hK6 => ?_))))
                  simp [e9, hw1]
                  exact hK6 _ (hK3 (ls.length - (i + 1)) _ (by omega) ⟨i + 1, st.2, by omega, rfl, by simp, by simp [e1], by simp [e5], by simp [e7], ⟨by simp [a1], ⟨exa, by simp [a2]⟩, by simp [a3]⟩, ⟨by simp [b1], ⟨exb, by simp [b2]⟩⟩, hsn, hsl4⟩)
                obtain ⟨a1, ⟨exa, a2⟩, a3⟩ := hgs
                obtain ⟨b1, ⟨exb, b2⟩⟩ := hrs
                simp [guardS, e9, e1, e5, e7, e10, e11, e12, e13, e14, listsC_get hx]
                refine call0_V 1 rfl (by decide) (by decide) (by rfl) rfl rfl (args := [.one (.sl true 1 (rows iv p.2) (rows iv (lentMarks p.2.length)) true), .one (slr 1 iv ⟨t || p.1.t, p.1.ys, p.1.ex⟩ p.2)]) (by simp [S.hand, SV.mapC, V1.mapC, C.lift, C.out0, C.frz, Ren.at, o61]) (keptInts_spec ⟨t || p.1.t, p.1.ys, p.1.ex⟩ true p.2 (lentMarks p.2.length) p.2 (by omega) (by simp [lentMarks]; omega)) ?_
                rintro res ob' rfl
                simp [guardS, SV.mapC, V1.mapC, C.lift, C.ren0, e5, e7, b1]
                refine ⟨?_, ?_⟩
                · refine callGS_V (i := 500) (j := 501) (m := 502) (n := m) (l := st.2) (es := idxs st.2) 1 ⟨by simp [a1], ⟨exa, by simp [a2]⟩, by simp [a3]⟩ (by decide) rfl (by decide) (by decide) (by rfl) rfl rfl (args := [.one (.ptr 1000 0 0 0)]) (by simp [S.hand, SV.mapC, V1.mapC, C.lift, C.out0, Ren.at]) (fun ob1 h => len_spec ob1 m st.2 (idxs st.2) h) ?_
                  rintro res ob' ⟨rfl, hg'⟩
                  refine ⟨m, st.2, idxs st.2, hg', fun s5 hs5 hoth5 hsl5 => ?_⟩
                  have z600 := hoth5 600 (by decide) (by decide) (by decide)
                  have z601 := hoth5 601 (by decide) (by decide) (by decide)
                  simp [Ob.mapC, C.lift, C.drop0, b1] at z600
                  simp [Ob.mapC, b2] at z601
                  simp [guardS, hsl5, SV.mapC, V1.mapC, C.lift, C.ren0, C.drop0, z600, z601]
                  exact contD _ (by simp [hsl5, SV.mapC, V1.mapC, C.lift, C.drop0, e9]) (by simp [hsl5, SV.mapC, V1.mapC, C.lift, C.drop0, e1]) (by simp [hsl5, SV.mapC, V1.mapC, C.lift, C.drop0, e5]) (by simp [hsl5, SV.mapC, V1.mapC, C.lift, C.drop0, e7]) (by simp) (by simpa [GSat] using hs5) ⟨by simp [z600], ⟨exb, by simp [z601]⟩⟩
                · simp [guardS, b2]
                  refine callGS_V (i := 500) (j := 501) (m := 502) (n := m) (l := st.2) (es := idxs st.2) 1 ⟨by simp [a1], ⟨exa, by simp [a2]⟩, by simp [a3]⟩ (by decide) rfl (by decide) (by decide) (by rfl) rfl rfl (args := [.one (.ptr 1000 0 0 0)]) (by simp [S.hand, SV.mapC, V1.mapC, C.lift, C.out0, Ren.at, e5]) (fun ob1 h => len_spec ob1 m st.2 (idxs st.2) h) ?_
                  rintro res ob' ⟨rfl, hg'⟩
                  refine ⟨m, st.2, idxs st.2, hg', fun s5 hs5 hoth5 hsl5 => ?_⟩
                  have z600 := hoth5 600 (by decide) (by decide) (by decide)
                  have z601 := hoth5 601 (by decide) (by decide) (by decide)
                  simp [Ob.mapC, C.lift, C.drop0, b1] at z600
                  simp [Ob.mapC, b2] at z601
                  simp [guardS, hsl5, SV.mapC, V1.mapC, C.lift, C.ren0, C.drop0, z600, z601]
                  exact contD _ (by simp [hsl5, SV.mapC, V1.mapC, C.lift, C.drop0, e9]) (by simp [hsl5, SV.mapC, V1.mapC, C.lift, C.drop0, e1]) (by simp [hsl5, SV.mapC, V1.mapC, C.lift, C.drop0, e5]) (by simp [hsl5, SV.mapC, V1.mapC, C.lift, C.drop0, e7]) (by simp) (by simpa [GSat] using hs5) ⟨by simp [z600], ⟨exb, by simp [z601]⟩⟩
              exact contC _ (by simp [hsl3, hsl, SV.mapC, V1.mapC, C.lift, C.drop0, e9]) (by simp [hsl3, hsl, SV.mapC, V1.mapC, C.lift, C.drop0, e1]) (by simp [hsl3, hsl, SV.mapC, V1.mapC, C.lift, C.drop0, e5]) (by simp [hsl3, hsl, SV.mapC, V1.mapC, C.lift, C.drop0, e7]) (by simp [hsl3, hsl, SV.mapC, V1.mapC, C.lift, C.drop0, e10]) (by simp [hsl3, hsl, SV.mapC, V1.mapC, C.lift, C.drop0]) (by simp [hsl3, hsl, SV.mapC, V1.mapC, C.lift, C.drop0]) (by simp) (by simp) (by simp [q61]) ⟨by simp [q500], ⟨ex3, by simp [q501]⟩, by simp [q502]⟩ (by simpa [RSat] using hs3)
            refine contB _ (by simp [SV.mapC, V1.mapC, C.lift, C.drop0, d9]) (by simp [SV.mapC, V1.mapC, C.lift, C.drop0, d1]) (by simp [SV.mapC, V1.mapC, C.lift, C.drop0, d5, badB, Ren.at, Ren.inv]) (by simp [SV.mapC, V1.mapC, C.lift, C.drop0, d7, badB, Ren.at, Ren.inv]) (by simp) (by simp [back_ob, Ren.inv, ho, Ob.mapC, lentMarks, C.lift, C.ren0]) ⟨?_, ⟨ex1, ?_⟩, ?_⟩ ⟨?_, ⟨ex2, ?_⟩⟩
            all_goals simp [back_ob, Ren.inv, Ren.at, g1, g2, g3, r1, r2, Ob.mapC, C.lift, C.drop0, badB]
        · simp at h
          refine V_exit (show K2 _ from hK2 _ (V_reg_k (by decide) fun K hK => ?_))
          simp [d5]
          refine callGSn_V (i := 500) (j := 501) (m := 502) (n := m) (l := l) (es := idxs l) 1 105 (by decide) (by decide) ⟨by simp [g1], ⟨ex1, by simp [g2]⟩, by simp [g3]⟩ (by decide) rfl (by decide) (by decide) (by rfl) rfl rfl (args := [.one (.ptr 1000 0 0 0)]) (by simp [S.hand, SV.mapC, V1.mapC, C.lift, C.out0, Ren.at]) (fun ob1 h => nodes_spec ob1 m l (idxs l) (by omega) h) ?_
          rintro res ob' ⟨rfl, ⟨exq, hq0⟩, hg'⟩
          refine ⟨m, l, idxs l, hg', fun s5 hs5 h105 hoth5 hsl5 => ?_⟩
          have z600 := hoth5 600 (by decide) (by decide) (by decide) (by decide)
          have z601 := hoth5 601 (by decide) (by decide) (by decide) (by decide)
          simp [Ob.mapC, C.lift, C.drop0, r1] at z600
          simp [Ob.mapC, r2] at z601
          simp [hq0, Ob.mapC, C.lift, C.ren0] at h105
          simp [hsl5, SV.mapC, V1.mapC, C.lift, C.ren0, C.drop0, Ren.at, d5]
          obtain ⟨y1, ⟨ey, y2⟩, y3⟩ := hs5
          refine callGSn_V (i := 500) (j := 501) (m := 502) (n := m) (l := l) (es := idxs l) 1 107 (by decide) (by decide) ⟨by simp [y1], ⟨ey, by simp [y2]⟩, by simp [y3]⟩ (by decide) rfl (by decide) (by decide) (by rfl) rfl rfl (args := [.one (.ptr 1000 0 0 0)]) (by simp [S.hand, SV.mapC, V1.mapC, C.lift, C.out0, Ren.at]) (fun ob1 h => nodes_spec ob1 m l (idxs l) (by omega) h) ?_
          rintro res ob'' ⟨rfl, ⟨exq2, hq2⟩, hg2⟩
          refine ⟨m, l, idxs l, hg2, fun s6 hs6 h107 hoth6 hsl6 => ?_⟩
          have w600 := hoth6 600 (by decide) (by decide) (by decide) (by decide)
          have w601 := hoth6 601 (by decide) (by decide) (by decide) (by decide)
          have w105 := hoth6 105 (by decide) (by decide) (by decide) (by decide)
          simp [Ob.mapC, C.lift, C.drop0, z600] at w600
          simp [Ob.mapC, z601] at w601
          simp [Ob.mapC, C.lift, C.drop0, h105] at w105
          simp [hq2, Ob.mapC, C.lift, C.ren0] at h107
          simp [hsl6, hsl5, SV.mapC, V1.mapC, C.lift, C.ren0, C.drop0, Ren.at]
          have contE : ∀ s' : S, s'.sl 5 = .val (.one (.ptr 500 0 0 0)) → s'.sl 7 = .val (.one (.ptr 600 0 0 0)) → s'.sl 15 = .val (.one (.own 105)) → s'.sl 16 = .val (.one (.own 107)) → s'.ob 105 = some (.row 44 z44 (rows ANode.vs l) [] exq) → s'.ob 107 = some (.row 44 z44 (rows ANode.vs l) [] exq2) → GSat s'.ob 500 501 502 m l (idxs l) → RSat s'.ob 600 601 m l → K s' := by
            clear h105 h107 y1 y2 y3
            intro s' e5 e7 e15 e16 o105 o107 ⟨a1, ⟨exa, a2⟩, a3⟩ ⟨b1, ⟨exb, b2⟩⟩
            refine hK _ (V_seq_k fun K7 hK7 => V_reg_k (by decide) fun K hK => ?_)
            simp [e15, e7, b1]
            refine call0_V 1 rfl (by decide) (by decide) (by rfl) rfl rfl (args := [.one (slr 3 ANode.vs ⟨true, [], exq⟩ l), .one (slr 3 ANode.vs ⟨true, [], exb⟩ l)]) (by simp [S.hand, SV.mapC, V1.mapC, C.lift, C.out0, C.frz, Ren.at, o105, b2]) (sameNodes_spec _ _ l l (by omega)) ?_
            rintro res ob' rfl
            simp [SV.mapC, V1.mapC, C.lift, C.ren0]
            refine hK _ (V_cond (t := false) (by simp) (by simp) (fun h => by cases h) (fun _ => V_skip (hK7 _ (V_seq_k fun K8 hK8 => V_reg_k (by decide) fun K hK => ?_))))
            simp
            refine hK _ (V_block (V_loop_k (fun c s => ∃ (i : Nat) (l2 : List ANode), l2.length = l.length ∧ i ≤ l.length ∧ c = l.length - i ∧ s.sl 17 = .val (.one (vi i)) ∧ s.sl 5 = .val (.one (.ptr 500 0 0 0)) ∧ s.sl 7 = .val (.one (.ptr 600 0 0 0)) ∧ s.sl 15 = .val (.one (.own 105)) ∧ s.sl 16 = .val (.one (.own 107)) ∧ s.ob 105 = some (.row 44 z44 (rows ANode.vs l2) [] exq) ∧ s.ob 107 = some (.row 44 z44 (rows ANode.vs l) [] exq2) ∧ GSat s.ob 500 501 502 m l (idxs l) ∧ RSat s.ob 600 601 m l) l.length ⟨0, l, rfl, by omega, by omega, by simp, by simp [e5], by simp [e7], by simp [e15], by simp [e16], by simp [o105], by simp [o107], ⟨by simp [a1], ⟨exa, by simp [a2]⟩, by simp [a3]⟩, ⟨by simp [b1], ⟨exb, by simp [b2]⟩⟩⟩ ?_))
            rintro c s ⟨i, l2, hl2, hi, rfl, d17, d5, d7, d15, d16, o105, o107, ⟨a1, ⟨exa, a2⟩, a3⟩, ⟨b1, ⟨exb, b2⟩⟩⟩ K9 hK9
            refine V_seq_k fun K10 hK10 => V_reg_k (by decide) fun K hK => ?_
            simp [d17, d15, o105]
            refine hK _ (V_cond (t := decide ((i : Int) < l2.length)) (by simp) (by simp) (fun h => ?_) (fun h => ?_))
            · simp at h
              have hw1 : IntKind.i64.wrap ((i : Int) + 1) = i + 1 := wrap_i64 (by omega) (by omega)
              have hy := getE h
              refine V_skip (hK10 _ (V_seq_k fun K11 hK11 => V_block (V_reg_e (by decide) fun K12 hK12 => ?_)))
              simp [d17, d15]
              refine vo_of rfl (V_build (by decide) (by decide) T.z44 fo44 (by simp [bldC]; rfl) ?_)
              simp [d17, d15, o105, rows_get ANode.vs hy, ANode.vs]
              refine ⟨h, hK12 _ (hK11 _ (V_reg_e (by decide) fun K13 hK13 => ?_))⟩
              simp [d17, hw1]
              refine hK13 _ (hK9 (l.length - (i + 1)) _ (by omega) ⟨i + 1, l2.set i ⟨77, 0, 0⟩, by simp [hl2], by omega, rfl, by simp, by simp [d5], by simp [d7], by simp [d15], by simp [d16], ?_, by simp [o107], ⟨by simp [a1], ⟨exa, by simp [a2]⟩, by simp [a3]⟩, ⟨by simp [b1], ⟨exb, by simp [b2]⟩⟩⟩)
              have := rows_set ANode.vs l2 i ⟨77, 0, 0⟩
              simp [ANode.vs] at this
              simp [this]
            · refine V_exit (show K8 _ from hK8 _ (V_regt_k tr3_24 mixed (by decide +kernel) (by decide +kernel) (by decide) (by simp [Tr.lit, tr3_24]; rfl) fun K hK => ?_))
              have contF : ∀ s' : S, s'.sl 4 = .val (.one (vb true)) → K s' := fun s' e4 => hK _ (V_ret (fin _ e4))
              simp [guardS, d5, d7, d15, d16, b1]
              refine call0_V 1 rfl (by decide) (by decide) (by rfl) rfl rfl (args := [.one (slr 3 ANode.vs ⟨true, [], exq2⟩ l), .one (slr 3 ANode.vs ⟨true, [], exb⟩ l)]) (by simp [S.hand, SV.mapC, V1.mapC, C.lift, C.out0, C.frz, Ren.at, o107, b2]) (sameNodes_spec _ _ l l (by omega)) ?_
              rintro res ob' rfl
              simp [guardS, SV.mapC, V1.mapC, C.lift, C.ren0, d5, d7, b1]
              refine ⟨?_, ?_⟩
              · refine callGSn_V (i := 500) (j := 501) (m := 502) (n := m) (l := l) (es := idxs l) 1 133 (by decide) (by decide) ⟨by simp [a1], ⟨exa, by simp [a2]⟩, by simp [a3]⟩ (by decide) rfl (by decide) (by decide) (by rfl) rfl rfl (args := [.one (.ptr 1000 0 0 0)]) (by simp [S.hand, SV.mapC, V1.mapC, C.lift, C.out0, Ren.at]) (fun ob1 h => nodes_spec ob1 m l (idxs l) (by omega) h) ?_
                rintro res ob3 ⟨rfl, ⟨exq3, hq3⟩, hg3⟩
                refine ⟨m, l, idxs l, hg3, fun s7 hs7 h133 hoth7 hsl7 => ?_⟩
                have z600 := hoth7 600 (by decide) (by decide) (by decide) (by decide)
                have z601 := hoth7 601 (by decide) (by decide) (by decide) (by decide)
                simp [Ob.mapC, C.lift, C.drop0, b1] at z600
                simp [Ob.mapC, b2] at z601
                simp [hq3, Ob.mapC, C.lift, C.ren0] at h133
                simp [guardS, hsl7, SV.mapC, V1.mapC, C.lift, C.ren0, C.drop0, Ren.at, z600, z601]
                refine call0_V 1 rfl (by decide) (by decide) (by rfl) rfl rfl (args := [.one (slr 3 ANode.vs ⟨true, [], exq3⟩ l), .one (slr 3 ANode.vs ⟨true, [], exb⟩ l)]) (by simp [S.hand, hsl7, SV.mapC, V1.mapC, C.lift, C.out0, C.frz, C.drop0, Ren.at, h133, z601]) (sameNodes_spec _ _ l l (by omega)) ?_
                rintro res ob4 rfl
                simp [guardS, hsl7, SV.mapC, V1.mapC, C.lift, C.ren0, C.drop0]
                exact contF _ (by simp)
              · refine callGSn_V (i := 500) (j := 501) (m := 502) (n := m) (l := l) (es := idxs l) 1 133 (by decide) (by decide) ⟨by simp [a1], ⟨exa, by simp [a2]⟩, by simp [a3]⟩ (by decide) rfl (by decide) (by decide) (by rfl) rfl rfl (args := [.one (.ptr 1000 0 0 0)]) (by simp [S.hand, SV.mapC, V1.mapC, C.lift, C.out0, Ren.at]) (fun ob1 h => nodes_spec ob1 m l (idxs l) (by omega) h) ?_
                rintro res ob3 ⟨rfl, ⟨exq3, hq3⟩, hg3⟩
                refine ⟨m, l, idxs l, hg3, fun s7 hs7 h133 hoth7 hsl7 => ?_⟩
                have z600 := hoth7 600 (by decide) (by decide) (by decide) (by decide)
                have z601 := hoth7 601 (by decide) (by decide) (by decide) (by decide)
                simp [Ob.mapC, C.lift, C.drop0, b1] at z600
                simp [Ob.mapC, b2] at z601
                simp [hq3, Ob.mapC, C.lift, C.ren0] at h133
                simp [guardS, hsl7, SV.mapC, V1.mapC, C.lift, C.ren0, C.drop0, Ren.at, z600, z601]
                refine call0_V 1 rfl (by decide) (by decide) (by rfl) rfl rfl (args := [.one (slr 3 ANode.vs ⟨true, [], exq3⟩ l), .one (slr 3 ANode.vs ⟨true, [], exb⟩ l)]) (by simp [S.hand, hsl7, SV.mapC, V1.mapC, C.lift, C.out0, C.frz, C.drop0, Ren.at, h133, z601]) (sameNodes_spec _ _ l l (by omega)) ?_
                rintro res ob4 rfl
                simp [guardS, hsl7, SV.mapC, V1.mapC, C.lift, C.ren0, C.drop0]
                exact contF _ (by simp)
          exact contE _ (by simp [hsl6, hsl5, SV.mapC, V1.mapC, C.lift, C.drop0, d5]) (by simp [hsl6, hsl5, SV.mapC, V1.mapC, C.lift, C.drop0, d7]) (by simp) (by simp) (by simp [w105]) (by simp [h107]) (by simpa [GSat] using hs6) ⟨by simp [w600], ⟨ex2, by simp [w601]⟩⟩
    simp [guardS, SV.mapC, V1.mapC, C.lift, C.drop0]
    refine V_nilcmp (c := .ptr 500 0 0 0) (.inl rfl) (.inl rfl) (by decide) (by decide) (by simp [SV.mapC, V1.mapC, C.lift, C.drop0, badB, Ren.at, Ren.inv]) rfl (.inr ⟨by simp, rfl⟩) (.inl ⟨un112, rfl⟩) ?_
    simp [guardS]
    refine V_nilcmp (c := .ptr 600 0 0 0) (.inl rfl) (.inl rfl) (by decide) (by decide) (by simp) rfl (.inr ⟨by simp, rfl⟩) (.inl ⟨⟨_, Try.underlying27⟩, rfl⟩) ?_
    simp [guardS]
    refine contA _ (by simp) (by simp [SV.mapC, V1.mapC, C.lift, C.drop0]) (by simp [SV.mapC, V1.mapC, C.lift, C.drop0, badB, Ren.at, Ren.inv]) (by simp) ⟨?_, ⟨true, ?_⟩, ?_⟩ ⟨?_, ⟨true, ?_⟩⟩
    all_goals simp [back_ob, Ren.inv, Ren.at, p0, p1, p2, u0, u1, Ob.mapC, C.lift, C.drop0, C.ren0, badB, idxs]
end Go.Proofs.Ytjjmomkjjdilnaa
