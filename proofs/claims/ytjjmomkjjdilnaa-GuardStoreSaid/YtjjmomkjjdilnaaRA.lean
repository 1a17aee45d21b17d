/- What functions of the laid program do, as contracts over the engine. Conditions: each theorem bears its own. -/
import Derived.Test.YtjjmomkjjdilnaaRd
set_option linter.all false
set_option maxRecDepth 100000
namespace Go.Proofs.Ytjjmomkjjdilnaa
open Go Go.Eng Go.Proofs Go.Proofs.Ytjjmomkjjdilnaa.T
/-- What a store answers to a list, and its nodes then. -/
def storeF (n : Nat) (w : List Int) (l : List ANode) : (Int × Int) × List ANode :=
  if w.length = 2 ^ n ∧ (∀ x ∈ w, 0 ≤ x ∧ x ≤ 1048575) then
    if (addF n 0 w l).2.length > 4096 then ((0, 11), l) else (((addF n 0 w l).1, 0), (addF n 0 w l).2)
  else ((0, 2), l)
theorem shl1 {n : Nat} (h : n ≤ 8) : IntKind.i64.wrap (2 ^ (min n 64)) = ((2 ^ n : Nat) : Int) := by
  have : ∀ n ≤ 8, IntKind.i64.wrap (2 ^ (min n 64)) = ((2 ^ n : Nat) : Int) := by decide
  exact this n h
theorem pow8 {n : Nat} (h : n ≤ 8) : 2 ^ n ≤ 256 := by
  have : ∀ n ≤ 8, 2 ^ n ≤ 256 := by decide
  exact this n h
theorem rAdd_spec (pw : Sp) (w : List Int) (ob0 : Nat → Option Ob) (n : Nat) (l : List ANode) (hn : n ≤ 8) (hw : w.length < 2 ^ 40) (hl : l.length ≤ 4096) (hg : RSat ob0 1000 1001 n l) :
    Does Try.prog 14 [.one (.ptr 1000 0 0 0), .one (slr 1 iv pw w)] ob0 (fun r ob => r = .tup [.one (vi (storeF n w l).1.1), .one (vi (storeF n w l).1.2)] ∧ RSat ob 1000 0 n (storeF n w l).2) := by
  obtain ⟨g1, ⟨ex0, g2⟩⟩ := hg
  have hsh := shl1 hn
  have h256 := pow8 hn
  obtain ⟨M, hM⟩ : ∃ M : Nat, M = 2 ^ n := ⟨_, rfl⟩
  have hMc : ((2 : Int) ^ n) = (M : Int) := by rw [hM]; simp
  rw [← hM] at hsh h256
  refine does_of' 59 [.tmp 4, .tmp 5] Try.func14 rfl rfl rfl (show 2 ≤ 59 by decide) fun Q hQ => ?_
  have fin : ∀ (s : S) (j : Nat) (a b : Int) (l' : List ANode), s.sl 4 = .val (.one (vi a)) → s.sl 5 = .val (.one (vi b)) → j ≠ 1000 → RSat s.ob 1000 j n l' → storeF n w l = ((a, b), l') → Q .ret s := fun s j a b l' e4 e5 hj hgs he => by
    obtain ⟨h1, ⟨ex, h2⟩⟩ := hgs
    refine (hQ _ ⟨[.one (vi a), .one (vi b)], [(1000, 1000), (j, 0)], by simp [resL, e4, e5], by simp [Ren.ok, Ne.symm hj], by simp, ?_⟩).2
    rw [he]
    simp [packS, SV.mapC, V1.mapC, C.lift, C.ren0, Ren.at, Ren.ob, Ren.inv, Ob.mapC, RSat, h1, h2, Ne.symm hj]
  refine V_reg_k (by decide) fun K hK => ?_
  simp
  refine hK _ (V_seq_k fun K1 hK1 => V_reg_k (by decide) fun K hK => ?_)
  simp [g1, IntKind.bits, hsh]
  refine hK _ (V_cond (t := decide ((w.length : Int) ≠ M)) (by simp [hMc]) (by simp) (fun h => ?_) (fun h => ?_))
  · simp only [decide_eq_true_eq, ne_eq] at h
    refine V_reg_k (by decide) fun K hK => ?_
    simp
    refine hK _ (V_ret (fin _ 1001 0 2 l (by simp) (by simp) (by decide) ⟨by simp [g1], ⟨ex0, by simp [g2]⟩⟩ ?_))
    rw [storeF, if_neg (fun hh => h (by rw [hh.1, hM]))]
  · simp only [decide_eq_false_iff_not, ne_eq, Decidable.not_not] at h
    have hwM : w.length = M := by omega
    refine V_skip (hK1 _ (V_seq_k fun K2 hK2 => V_reg_k (by decide) fun K hK => ?_))
    simp
    refine hK _ (V_block (V_loop_k (fun m s => ∃ k : Nat, k ≤ M ∧ m = M - k ∧ s.sl 0 = .val (.one (.ptr 1000 0 0 0)) ∧ s.sl 1 = .val (.one (slr 1 iv pw w)) ∧ s.sl 6 = .val (.one (vi k)) ∧ RSat s.ob 1000 1001 n l ∧ ∀ x ∈ w.take k, 0 ≤ x ∧ x ≤ 1048575) M ⟨0, by omega, by omega, by simp, by simp, by simp, ⟨by simp [g1], ⟨ex0, by simp [g2]⟩⟩, by simp⟩ ?_))
    rintro m s ⟨k, hk, rfl, c0, c1, c6, ⟨q1, ex1, q2⟩, hall⟩ K3 hK3
    refine V_seq_k fun K4 hK4 => V_reg_k (by decide) fun K hK => ?_
    simp [c6, c1]
    refine hK _ (V_cond (t := decide ((k : Int) < w.length)) (by simp) (by simp) (fun h => ?_) (fun h => ?_))
    · simp at h
      have hx := getE h
      obtain ⟨x, hxe⟩ : ∃ x, x = w[k] := ⟨_, rfl⟩
      rw [← hxe] at hx
      have hw1 : IntKind.i64.wrap ((k : Int) + 1) = k + 1 := wrap_i64 (by omega) (by omega)
      refine V_skip (hK4 _ (V_seq_k fun K5 hK5 => V_block (V_reg_k (by decide) fun K hK => ?_)))
      have bad : ∀ s', s'.sl 34 = .val (.one (vb true)) → s'.ob = s.ob → ¬ (0 ≤ x ∧ x ≤ 1048575) → K s' := fun s' e34 hob hxb => by
        refine hK _ (V_cond (t := true) (by simp [e34]) (by simp) (fun _ => ?_) (fun h => by cases h))
        refine V_reg_k (by decide) fun K hK => ?_
        simp
        refine hK _ (V_ret (fin _ 1001 0 2 l (by simp) (by simp) (by decide) ⟨by simp [hob, q1], ⟨ex1, by simp [hob, q2]⟩⟩ ?_))
        rw [storeF, if_neg (fun hh => hxb (hh.2 x (List.mem_of_getElem? hx)))]
      by_cases d1 : x < 0
      · simp [guardS, c1, c6, rows_get iv hx, d1]
        exact bad _ (by simp) (by simp) (by omega)
      by_cases d2 : 1048575 < x
      · simp [guardS, c1, c6, rows_get iv hx, d1, d2]
        exact bad _ (by simp) (by simp) (by omega)
      simp [guardS, c1, c6, rows_get iv hx, d1, d2]
      refine hK _ (V_cond (t := false) (by simp) (by simp) (fun h => by cases h) (fun _ => V_skip (hK5 _ (V_reg_e (by decide) fun K6 hK6 => ?_))))
      simp [c6, hw1]
      refine hK6 _ (hK3 (M - (k + 1)) _ (by omega) ⟨k + 1, by omega, rfl, by simp [c0], by simp [c1], by simp, ⟨by simp [q1], ⟨ex1, by simp [q2]⟩⟩, fun y hy => ?_⟩)
      rw [List.take_succ_eq_append_getElem h, ← hxe] at hy
      simp at hy
      rcases hy with hy | rfl
      · exact hall y hy
      · omega
    · simp at h
      have hkM : k = M := by omega
      subst hkM
      rw [List.take_of_length_le (by omega)] at hall
      obtain ⟨r, hr⟩ : ∃ r, r = addF n 0 w l := ⟨_, rfl⟩
      have hres : storeF n w l = if r.2.length > 4096 then ((0, 11), l) else ((r.1, 0), r.2) := by
        rw [storeF, if_pos ⟨by omega, hall⟩, hr]
      refine V_exit (show K2 _ from hK2 _ (V_reg_k (by decide) fun K hK => ?_))
      simp [c0, q1]
      refine hK _ (V_reg_k (by decide) fun K hK => ?_)
      have hb : l.length * 24 ≤ 140737488355328 := by omega
      simp [c0, q1, q2, hb]
      refine hK _ (V_reg_k (by decide) fun K hK => ?_)
      simp [c0, c1]
      refine callRS_V (i := 1000) (j := 40) (n := n) (l := l) 1 1001 (by decide) ⟨by simp [q1], ⟨false, by simp⟩⟩ (by decide) rfl (by decide) (by decide) (by rfl) rfl rfl (args := [.one (.ptr 1000 0 0 0), .one (slr 1 iv pw w), .one (vi 0)]) (by simp [S.hand, SV.mapC, V1.mapC, C.lift, C.out0, Ren.at]) (fun ob1 hob1 => radd_spec n 0 pw w ob1 n l (by omega) (by omega) (by omega) (by omega) hall (by omega) hob1) ?_
      rintro res ob' ⟨rfl, hg'⟩
      rw [← hr] at hg'
      refine ⟨n, r.2, hg', fun s' hs' hoth hsl => ?_⟩
      have o1 := hoth 1001 (by decide) (by decide)
      simp [Ob.mapC, q2] at o1
      obtain ⟨f1, ⟨ex2, f2⟩⟩ := hs'
      simp [← hr, SV.mapC, V1.mapC, C.lift, C.ren0]
      refine hK _ (V_seq_k fun K8 hK8 => V_reg_k (by decide) fun K hK => ?_)
      simp [hsl, SV.mapC, V1.mapC, C.lift, C.drop0, c0, f1, f2]
      refine hK _ (V_cond (t := decide (4096 < (r.2.length : Int))) (by simp) (by simp) (fun hb => ?_) (fun hb => ?_))
      · simp at hb
        rw [if_pos (by omega)] at hres
        refine V_reg_k (by decide) fun K hK => ?_
        simp [hsl, SV.mapC, V1.mapC, C.lift, C.drop0, c0, f1]
        refine hK _ (V_reg_k (by decide) fun K hK => ?_)
        simp
        refine hK _ (V_ret (fin _ 1001 0 11 l (by simp) (by simp) (by decide) ⟨by simp, ⟨ex1, by simp [o1]⟩⟩ hres))
      · simp at hb
        rw [if_neg (by omega)] at hres
        refine V_skip (hK8 _ (V_reg_k (by decide) fun K hK => ?_))
        simp
        refine hK _ (V_ret (fin _ 40 r.1 0 r.2 (by simp) (by simp) (by decide) ⟨by simp [f1], ⟨ex2, by simp [f2]⟩⟩ hres))
end Go.Proofs.Ytjjmomkjjdilnaa
