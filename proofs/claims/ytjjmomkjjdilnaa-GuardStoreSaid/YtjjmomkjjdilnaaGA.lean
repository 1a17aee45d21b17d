/- What functions of the laid program do, as contracts over the engine. Conditions: each theorem bears its own. -/
import Derived.Test.YtjjmomkjjdilnaaDf
set_option linter.all false
set_option maxRecDepth 100000
namespace Go.Proofs.Ytjjmomkjjdilnaa
open Go Go.Eng Go.Proofs Go.Proofs.Ytjjmomkjjdilnaa.T
theorem addF_take : ∀ (d : Nat) (p : Int) (w : List Int) (l : List ANode), (addF d p w l).2.take l.length = l
  | 0, p, w, l => by simp [addF]
  | d + 1, p, w, l => by
    have h1 := addF_take d (p + 1) (evens w (2 ^ d)) l
    have h2 := addF_take d (p + 1) (odds w (2 ^ d)) (addF d (p + 1) (evens w (2 ^ d)) l).2
    have l1 := addF_len d (p + 1) (evens w (2 ^ d)) l
    have l2 := addF_len d (p + 1) (odds w (2 ^ d)) (addF d (p + 1) (evens w (2 ^ d)) l).2
    have h3 : (addF d (p + 1) (odds w (2 ^ d)) (addF d (p + 1) (evens w (2 ^ d)) l).2).2.take l.length = l := by
      have h4 := congrArg (List.take l.length) h2
      rw [List.take_take, Nat.min_eq_left l1.1, h1] at h4
      exact h4
    rw [addF]
    split
    · exact h3
    · split
      · exact h3
      · rw [List.take_append_of_le_length (by omega)]
        exact h3
theorem kindsC_app {z : List C} {xs ys : List (List C)} (h1 : kindsC z xs) (h2 : kindsC z ys) : kindsC z (xs ++ ys) := fun y hy => by
  rcases List.mem_append.1 hy with h | h
  · exact h1 y h
  · exact h2 y h
theorem kindsC_sub44 {id : Nat} {ys : List (List C)} (h : kindsC z44 ys) (hl : ∀ y ∈ ys, y.length = z44.length) : kindsC z44 (subR id (fun _ => .un) ys) := fun y hy j c hc => by
  obtain ⟨y0, h0, rfl⟩ := List.mem_map.1 hy
  rw [List.getElem?_map] at hc
  obtain ⟨c0, hc0, rfl⟩ := Option.map_eq_some_iff.1 hc
  have hk := h y0 h0 j c0 hc0
  have hj : j < 3 := by
    have := (List.getElem?_eq_some_iff.1 hc0).1
    rw [hl y0 h0] at this
    exact this
  have hz : z44.getD j .un = vi 0 := by
    match j, hj with
    | 0, _ => rfl
    | 1, _ => rfl
    | 2, _ => rfl
  rw [hz] at hk ⊢
  cases c0 with
  | v x => exact hk
  | _ => simp [kindC] at hk
theorem kinds_vs (l : List ANode) : kindsC z44 (rows ANode.vs l) := rows_kinds ANode.vs (fun x j v h => by
  match j with
  | 0 => simp [ANode.vs] at h; subst h; rfl
  | 1 => simp [ANode.vs] at h; subst h; rfl
  | 2 => simp [ANode.vs] at h; subst h; rfl
  | j + 3 => simp [ANode.vs] at h) l
-- tree 13 14 LOUD 6
def tr13_14 : Tr := .hoist 0 (.hoist 1 (.hoist 2 (.hoist 3 (.alt 4 (.alt 5 (.alt 6 (.hoist 7 (.hoist 8 (.alt 9 .done .nil))) .nil) .nil) (.alt 5 (.alt 4 (.alt 6 (.hoist 7 (.hoist 8 (.alt 9 .done .nil))) .nil) .nil) .nil)))))
theorem gAdd_spec (pw : Sp) (w : List Int) (ob0 : Nat → Option Ob) (n : Nat) (l : List ANode) (hn : n ≤ 8) (hw : w.length < 2 ^ 40) (hl : l.length ≤ 4096) (hnd : l.Nodup) (hg : GS ob0 n l (idxs l)) :
    Does Try.prog 13 [.one (.ptr 1000 0 0 0), .one (slr 1 iv pw w)] ob0 (fun r ob => r = .tup [.one (vi (storeF n w l).1.1), .one (vi (storeF n w l).1.2)] ∧ GS ob n (storeF n w l).2 (idxs (storeF n w l).2)) := by
  obtain ⟨g1, ⟨ex0, g2⟩, g3⟩ := hg
  have hsh := shl1 hn
  have h256 := pow8 hn
  obtain ⟨M, hM⟩ : ∃ M : Nat, M = 2 ^ n := ⟨_, rfl⟩
  have hMc : ((2 : Int) ^ n) = (M : Int) := by rw [hM]; simp
  rw [← hM] at hsh h256
  refine does_of' 63 [.tmp 4, .tmp 5] Try.func13 rfl rfl rfl (show 2 ≤ 63 by decide) fun Q hQ => ?_
  have fin : ∀ (s : S) (a b : Int) (l' : List ANode), s.sl 4 = .val (.one (vi a)) → s.sl 5 = .val (.one (vi b)) → GSat s.ob 1000 1001 1002 n l' (idxs l') → storeF n w l = ((a, b), l') → Q .ret s := fun s a b l' e4 e5 hgs he => by
    obtain ⟨h1, ⟨ex, h2⟩, h3⟩ := hgs
    refine (hQ _ ⟨[.one (vi a), .one (vi b)], mu 1000 1001 1002, by simp [resL, e4, e5], by decide, by simp, ?_⟩).2
    rw [he]
    simp [packS, SV.mapC, V1.mapC, C.lift, C.ren0, Ren.at, Ren.ob, Ren.inv, Ob.mapC, GSat, h1, h2, h3]
  refine V_reg_k (by decide) fun K hK => ?_
  simp
  refine hK _ (V_seq_k fun K1 hK1 => V_reg_k (by decide) fun K hK => ?_)
  simp
  refine callGS_V (i := 1000) (j := 1001) (m := 1002) (n := n) (l := l) (es := idxs l) 1 ⟨by simp [g1], ⟨ex0, by simp [g2]⟩, by simp [g3]⟩ (by decide) rfl (by decide) (by decide) (by rfl) rfl rfl (args := [.one (.ptr 1000 0 0 0)]) (by simp [S.hand, SV.mapC, V1.mapC, C.lift, C.out0, Ren.at]) (fun ob1 h => none_spec ob1 n l (idxs l) h) ?_
  rintro res ob' ⟨rfl, hg'⟩
  refine ⟨n, l, idxs l, hg', fun s' hs' _ hsl => ?_⟩
  clear g1 g2 g3
  obtain ⟨g1, ⟨ex1, g2⟩, g3⟩ := hs'
  simp [SV.mapC, V1.mapC, C.lift, C.ren0]
  refine hK _ (V_cond (t := false) (by simp) (by simp) (fun h => by cases h) (fun _ => V_skip (hK1 _ (V_seq_k fun K1 hK1 => V_reg_k (by decide) fun K hK => ?_))))
  simp [hsl, SV.mapC, V1.mapC, C.lift, C.drop0, g1, IntKind.bits, hsh]
  refine hK _ (V_cond (t := decide ((w.length : Int) ≠ M)) (by simp [hMc]) (by simp) (fun h => ?_) (fun h => ?_))
  · simp only [decide_eq_true_eq, ne_eq] at h
    refine V_reg_k (by decide) fun K hK => ?_
    simp
    refine hK _ (V_ret (fin _ 0 2 l (by simp) (by simp) ⟨by simp [g1], ⟨ex1, by simp [g2]⟩, by simp [g3]⟩ ?_))
    rw [storeF, if_neg (fun hh => h (by rw [hh.1, hM]))]
  · simp only [decide_eq_false_iff_not, ne_eq, Decidable.not_not] at h
    have hwM : w.length = M := by omega
    refine V_skip (hK1 _ (V_seq_k fun K2 hK2 => V_reg_k (by decide) fun K hK => ?_))
    simp [hsl, SV.mapC, V1.mapC, C.lift, C.drop0]
    refine hK _ (V_block (V_loop_k (fun m s => ∃ k : Nat, k ≤ M ∧ m = M - k ∧ s.sl 0 = .val (.one (.ptr 1000 0 0 0)) ∧ s.sl 1 = .val (.one (slr 1 iv pw w)) ∧ s.sl 20 = .val (.one (slr 1 iv pw w)) ∧ s.sl 21 = .val (.one (vi M)) ∧ s.sl 22 = .val (.one (vi k)) ∧ GSat s.ob 1000 1001 1002 n l (idxs l) ∧ ∀ x ∈ w.take k, 0 ≤ x ∧ x ≤ 1048575) M ⟨0, by omega, by omega, by simp [hsl, SV.mapC, V1.mapC, C.lift, C.drop0], by simp [hsl, SV.mapC, V1.mapC, C.lift, C.drop0], by simp, by simp [hwM], by simp, ⟨by simp [g1], ⟨ex1, by simp [g2]⟩, by simp [g3]⟩, by simp⟩ ?_))
    rintro m s ⟨k, hk, rfl, c0, c1, c20, c21, c22, ⟨q1, ⟨ex1, q2⟩, q3⟩, hall⟩ K3 hK3
    refine V_reg_k (by decide) fun K hK => ?_
    simp [c22, c21]
    refine hK _ (V_seq_k fun K4 hK4 => V_cond (t := decide ((k : Int) < M)) (by simp) (by simp) (fun h => ?_) (fun h => ?_))
    · simp at h
      have hx := getE (show k < w.length by omega)
      obtain ⟨x, hxe⟩ : ∃ x, x = w[k] := ⟨_, rfl⟩
      rw [← hxe] at hx
      have hw1 : IntKind.i64.wrap ((k : Int) + 1) = k + 1 := wrap_i64 (by omega) (by omega)
      refine V_skip (hK4 _ (V_seq_k fun K5 hK5 => V_block (V_reg_k (by decide) fun K hK => ?_)))
      simp [c20, c22, rows_get iv hx]
      refine hK _ (V_reg_k (by decide) fun K hK => ?_)
      have bad : ∀ s', s'.sl 31 = .val (.one (vb true)) → s'.ob = s.ob → ¬ (0 ≤ x ∧ x ≤ 1048575) → K s' := fun s' e34 hob hxb => by
        refine hK _ (V_cond (t := true) (by simp [e34]) (by simp) (fun _ => ?_) (fun h => by cases h))
        refine V_reg_k (by decide) fun K hK => ?_
        simp
        refine hK _ (V_ret (fin _ 0 2 l (by simp) (by simp) ⟨by simp [hob, q1], ⟨ex1, by simp [hob, q2]⟩, by simp [hob, q3]⟩ ?_))
        rw [storeF, if_neg (fun hh => hxb (hh.2 x (List.mem_of_getElem? hx)))]
      by_cases d1 : x < 0
      · simp [guardS, d1]
        exact bad _ (by simp) (by simp) (by omega)
      by_cases d2 : 1048575 < x
      · simp [guardS, d1, d2]
        exact bad _ (by simp) (by simp) (by omega)
      simp [guardS, d1, d2]
      refine hK _ (V_cond (t := false) (by simp) (by simp) (fun h => by cases h) (fun _ => V_skip (hK5 _ (V_reg_e (by decide) fun K6 hK6 => ?_))))
      simp [c22, hw1]
      refine hK6 _ (hK3 (M - (k + 1)) _ (by omega) ⟨k + 1, by omega, rfl, by simp [c0], by simp [c1], by simp [c20], by simp [c21], by simp, ⟨by simp [q1], ⟨ex1, by simp [q2]⟩, by simp [q3]⟩, fun y hy => ?_⟩)
      rw [List.take_succ_eq_append_getElem (by omega), ← hxe] at hy
      simp at hy
      rcases hy with hy | rfl
      · exact hall y hy
      · omega
    · simp at h
      have hkM : k = M := by omega
      subst hkM
      rw [List.take_of_length_le (by omega)] at hall
      obtain ⟨r, hr⟩ : ∃ r, r = addF n 0 w l := ⟨_, rfl⟩
      have hres : storeF n w l = if r.2.length > 4096 then ((0, 11), l) else ((r.1, 0), r.2) := by
        rw [storeF, if_pos ⟨by omega, hall⟩, hr]
      have hlen := addF_len n 0 w l
      have hn2 := addF_nodup n 0 w l hnd
      rw [← hr] at hlen hn2
      refine V_exit (show K2 _ from hK2 _ (V_reg_k (by decide) fun K hK => ?_))
      simp [c0, q1, q2]
      refine hK _ (V_reg_k (by decide) fun K hK => ?_)
      simp [c0, c1]
      refine callGS_V (i := 1000) (j := 1001) (m := 1002) (n := n) (l := l) (es := idxs l) 1 ⟨by simp [q1], ⟨ex1, by simp [q2]⟩, by simp [q3]⟩ (by decide) rfl (by decide) (by decide) (by rfl) rfl rfl (args := [.one (.ptr 1000 0 0 0), .one (slr 1 iv pw w), .one (vi 0)]) (by simp [S.hand, SV.mapC, V1.mapC, C.lift, C.out0, Ren.at]) (fun ob1 hob1 => add_spec n 0 pw w ob1 n l (by omega) (by omega) (by omega) (by omega) hall hnd (by omega) hob1) ?_
      rintro res ob' ⟨rfl, hg'⟩
      rw [← hr] at hg'
      refine ⟨n, r.2, idxs r.2, hg', fun s' hs' hoth hsl => ?_⟩
      have o8 := hoth 8 (by decide) (by decide) (by decide)
      simp [Ob.mapC, C.lift, C.drop0] at o8
      obtain ⟨f1, ⟨ex2, f2⟩, f3⟩ := hs'
      simp [← hr, SV.mapC, V1.mapC, C.lift, C.ren0]
      refine hK _ (V_seq_k fun K8 hK8 => V_reg_k (by decide) fun K hK => ?_)
      simp [hsl, SV.mapC, V1.mapC, C.lift, C.drop0, c0, f1, f2]
      refine hK _ (V_cond (t := decide (4096 < (r.2.length : Int))) (by simp) (by simp) (fun hb => ?_) (fun hb => ?_))
      · simp at hb
        rw [if_pos (by omega)] at hres
        have htk : r.2.take l.length = l := by rw [hr]; exact addF_take n 0 w l
        refine V_forget (id := 1001) (by simp [f2]; exact ⟨rfl, rfl, rfl, rfl, rfl⟩) (by simp) (V_open (id := 1001) (by simp; exact ⟨rfl, rfl, rfl⟩) fun ys hys1 hys2 => ?_)
        refine V_regt_k tr13_14 mixed (by decide +kernel) (by decide +kernel) (by decide) (by simp [Tr.lit, tr13_14]; rfl) fun K hK => ?_
        have contF : ∀ s3 : S, s3.sl 0 = .val (.one (.ptr 1000 0 0 0)) → s3.sl 8 = .val (.one (.ptr 8 0 0 0)) → s3.ob 8 = some (.box 3 [vi l.length]) → s3.ob 1000 = some (.box 112 [vi n, .own 1001, .mh 1002]) → (∃ ys, s3.ob 1001 = some (.row 44 z44 (rows ANode.vs l) ys true) ∧ kindsC z44 ys) → s3.ob 1002 = some (.mp (idxs r.2)) → K s3 := by
          intro s3 b0 b8 ob8 o1000 ⟨ys, o1001, hk⟩ o1002
          refine hK _ (V_forget (id := 1001) o1001 hk (V_reg_k (by decide) fun K hK => ?_))
          simp [b0, o1000]
          refine vo_of rfl (V_makeFunc [.ptr 8 0 0 0] (by decide) (by decide) (by simp [b8]) rfl ?_)
          simp
          refine call_V rfl (by decide) (by decide) (by rfl) rfl rfl [(1002, 1000), (8, 1001)] [(1000, 1002), (1001, 8)] 1 (args := [.one (.mh 1000), .one (.fn 67 [.ptr 1001 0 0 0])]) (by simp [S.hand, SV.mapC, V1.mapC, C.lift, C.out0, Ren.at]) (by decide) (by decide) (by decide) (fun p hp => ?_) (deleteFunc_spec r.2 l.length _ hn2 (by simp [outOb, Ren.inv, o1002, Ob.mapC]) (by simp [outOb, Ren.inv, ob8, Ob.mapC, C.lift, C.out0])) ?_
          · simp at hp
            rcases hp with rfl | rfl
            · exact .inr (.inr (by simp [keepB, Ren.at, o1002]))
            · exact .inl (by decide)
          · rintro res ob' ⟨r1, r2⟩
            refine ⟨fun p hp hkp => ?_, ?_⟩
            · simp at hp
              rcases hp with rfl | rfl
              · simp [keptOk, o1002, r1]
              · simp [keptOk, ob8, r2]
            · simp
              refine hK _ (V_reg_k (by decide) fun K hK => ?_)
              simp
              refine hK _ (V_ret (fin _ 0 11 l (by simp) (by simp) ⟨?_, ⟨false, ?_⟩, ?_⟩ hres))
              · simp [back_ob, Ren.inv, Ren.at, o1000, Ob.mapC, C.lift, C.drop0, badB, keepB, o1002]
              · simp [back_ob, Ren.inv, Ren.at, Ob.mapC]
              · simp [back_ob, Ren.inv, Ren.at, r1, Ob.mapC, htk]
        simp [hsl, SV.mapC, V1.mapC, C.lift, C.drop0, c0, f1, o8]
        refine ⟨?_, ?_⟩ <;>
        · refine vo_of rfl (V_cut (by decide) (by decide) (id := 1001) (n := l.length) (e := 44) (z := z44) (xs := rows ANode.vs r.2) (ys := ys) (by simp) (by simp) (k := .i64) (m := l.length) (by simp) rfl (by simp; omega) el38 rfl ?_)
          simp [f1]
          exact contF _ (by simp [hsl, SV.mapC, V1.mapC, C.lift, C.drop0, c0]) (by simp [hsl, SV.mapC, V1.mapC, C.lift, C.drop0]) (by simp [o8]) (by simp) ⟨_, by simp [List.take_append_of_le_length, List.length_take, hlen.1, htk]; rfl, kindsC_sub44 (fun y hy => kindsC_app (kinds_vs r.2) hys2 y (List.mem_of_mem_drop hy)) (fun y hy => (List.mem_append.1 (List.mem_of_mem_drop hy)).elim (fun h => by obtain ⟨v, _, rfl⟩ := List.mem_map.1 h; simp [ANode.vs]) (hys1 y))⟩ (by simp [f3])
      · simp at hb
        rw [if_neg (by omega)] at hres
        refine V_skip (hK8 _ (V_reg_k (by decide) fun K hK => ?_))
        simp
        refine hK _ (V_ret (fin _ r.1 0 r.2 (by simp) (by simp) ⟨by simp [f1], ⟨ex2, by simp [f2]⟩, by simp [f3]⟩ hres))
end Go.Proofs.Ytjjmomkjjdilnaa
