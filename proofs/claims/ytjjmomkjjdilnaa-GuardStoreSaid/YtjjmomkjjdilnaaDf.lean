/- What functions of the laid program do, as contracts over the engine. Conditions: each theorem bears its own. -/
import Derived.Test.YtjjmomkjjdilnaaDf0
import Derived.Maps.RangeRun
set_option linter.all false
set_option maxRecDepth 100000
namespace Go.Proofs.Ytjjmomkjjdilnaa
open Go Go.Eng Go.Proofs Go.Proofs.Ytjjmomkjjdilnaa.T
open Go.RowKit
open Go.ChangeMaps (setBlock modify_eq_set)
theorem del_spec (x : ANode) (i was : Int) (t : Bool) : Does Try.prog 67 [.agg (x.vs.map .v), .one (vi i), .one (.fp t [vi was])] (fun _ => none) (fun r _ => r = .val (.one (vb (decide (was ≤ i))))) := by
  refine does_of' 9 [.tmp 5] Try.func67 rfl rfl rfl (show 3 ≤ 9 by decide) fun Q hQ => ?_
  refine V_reg_k (by decide) fun K hK => ?_
  simp [ANode.vs]
  refine hK _ (V_reg_k (by decide) fun K hK => ?_)
  simp
  refine hK _ (V_ret (hQ _ ⟨_, [], by simp [resL]; rfl, rfl, by simp, ?_⟩).2)
  simp [packS, SV.mapC, V1.mapC, C.lift, C.ren0]
theorem wpList_val {P : Program} {ops : Array Oper} {Q : Exit → Act → World → Prop} {o : Oper} {rest : List Oper} {a : Act} {w w' : World} {v : Value} (hg : o.guard = none) (hrun : (execOp a.eval o).run P w = .ok (.value v) w') (h : wpList P ops Q rest (a.put o.dst v) w') : wpList P ops Q (o :: rest) a w := by
  unfold wpList
  rw [if_pos (by simp [Region.wanted, hg])]
  refine .inl ?_
  show Oper.upon P o a _ Q _
  rw [hrun, Oper.upon_value]
  exact h
theorem cell_iter {w : World} {r : Nat} {m : Option Nat} {s c : Nat} {seen : Array Nat} (h : w.heap[r]? = some (.mapIter m s seen c)) (o : Nat) : w.cell? ⟨r, o, none⟩ = none := by
  simp [World.cell?, h]
theorem cell_map {w : World} {r : Nat} {es : Array MapEntry} {c : Nat} (h : w.heap[r]? = some (.map es c)) (o : Nat) : w.cell? ⟨r, o, none⟩ = none := by
  simp [World.cell?, h]
theorem set_same {w : World} {b : Nat} {o o' : Obj} (h : w.heap[b]? = some o) : (setBlock w b o').heap[b]? = some o' := by
  have hlt : b < w.heap.size := (Array.getElem?_eq_some_iff.1 h).1
  simp only [setBlock]
  rw [Array.getElem?_setIfInBounds_self_of_lt hlt]
theorem set_other {w : World} {b i : Nat} {o' : Obj} (h : i ≠ b) : (setBlock w b o').heap[i]? = w.heap[i]? := by
  simp only [setBlock]
  rw [Array.getElem?_setIfInBounds_ne (Ne.symm h)]
theorem left_len (es : Array MapEntry) (seen : Array Nat) : (leftOf es seen).size = (es.toList.filter fun e => !seen.contains e.born).length := by
  unfold leftOf
  rw [← Array.length_toList]
  simp
theorem left_le {es es' : Array MapEntry} (h : es'.toList.Sublist es.toList) (seen : Array Nat) : (leftOf es' seen).size ≤ (leftOf es seen).size := by
  rw [left_len, left_len]
  exact (h.filter _).length_le
/-- The loop's knowledge. -/
def leftN (bm r : Nat) (w : World) : Nat := match w.heap[bm]?, w.heap[r]? with
  | some (.map es _), some (.mapIter _ _ seen _) => (leftOf es seen).size
  | _, _ => 0
structure DF (Γ : Fr) (bm r : Nat) (was : Nat) (clock : Nat) (hv : Nat → Value) (F : Nat → Prop) (s : S) (a : Act) (w : World) (ents : Array MapEntry) (seen : Array Nat) (c0 : Nat) : Prop where
  rel : R Γ hv F s a w
  fm : F bm
  fr : F r
  s0 : s.sl 0 = .val (.one (.v (.map (some bm))))
  s1 : s.sl 1 = .val (.one (.fn 67 [.ptr 1001 0 0 0]))
  s7 : s.sl 7 = .val (.one (.v (.pointer (some ⟨r, 0, none⟩))))
  box : s.ob 1001 = some (.box 3 [vi was])
  hm : w.heap[bm]? = some (.map ents clock)
  hr : w.heap[r]? = some (.mapIter (some bm) clock seen c0)
  hc : clock ≤ c0
  st : stampsOk ents clock
theorem eval_put_self {a : Act} {d : Nat} {v : Value} (h : d < a.tmps.size) : (a.put (some d) v).eval (.tmp d) = v := by
  simp [Act.eval, Act.put, h]
theorem deleteFunc_spec (l : List ANode) (was : Nat) (ob0 : Nat → Option Ob) (hnd : l.Nodup) (h1 : ob0 1000 = some (.mp (idxs l))) (h2 : ob0 1001 = some (.box 3 [vi was])) :
    Does Try.prog 66 [.one (.mh 1000), .one (.fn 67 [.ptr 1001 0 0 0])] ob0 (fun _ ob => ob 1000 = some (.mp (idxs (l.take was))) ∧ ob 1001 = some (.box 3 [vi was])) := by
  refine does_of' 19 [] Try.func66 rfl rfl rfl (show 2 ≤ 19 by decide) fun Q hQ => ?_
  intro Γ hv F a w hN hR
  have h1' : (argS [.one (.mh 1000), .one (.fn 67 [.ptr 1001 0 0 0])] ob0).ob 1000 = some (.mp (idxs l)) := h1
  have h2' : (argS [.one (.mh 1000), .one (.fn 67 [.ptr 1001 0 0 0])] ob0).ob 1001 = some (.box 3 [vi was]) := h2
  obtain ⟨bm, ents0, clock, m1, m2, m3, m4⟩ := hR.map_at (id := 1000) h1'
  obtain ⟨hmine, hbm, _⟩ := hR.blk 1000 _ bm h1' (by rw [m1]; rfl)
  have hpin : ∀ v, Γ.K 1000 = some v → pinOk (.map (some bm)) v := fun v hk => by
    have := hR.pin 1000 v hk ⟨_, h1'⟩
    rwa [m1] at this
  have hR1 := hR.hide h1' m1
  obtain ⟨r, hr⟩ : ∃ r, r = w.heap.size := ⟨_, rfl⟩
  have hrm : r ≠ bm := by omega
  have hR2 := hR1.turnF (w' := w.alloc (.mapIter (some bm) clock #[] clock)) (fun _ => False) (fun b => (F b ∨ b = bm) ∨ b = r) rfl rfl rfl (by simp) (fun b hb _ => Below.heap_alloc _ _ _ hb) (fun _ h => h.elim) (fun _ h => h.elim) (fun b h => .inl h) (fun b h => h.imp id (fun e => by subst e; subst hr; simp))
  have e0 : a.eval (.tmp 0) = .map (some bm) := by
    have := hR1.slots 0
    exact this.1
  have hsz : a.tmps.size = 19 := hR.size.trans hN
  have hw1m : (w.alloc (.mapIter (some bm) clock #[] clock)).heap[bm]? = some (.map ents0 clock) := (Below.heap_alloc _ _ _ hbm).trans m2
  have hw1r : (w.alloc (.mapIter (some bm) clock #[] clock)).heap[r]? = some (.mapIter (some bm) clock #[] clock) := by rw [hr]; exact heap_alloc_new w _
  refine wp_seq (wp_region_list ?_)
  refine wpList_val rfl (v := .map (some bm)) (w' := w) (by simp [execOp, e0]) (wpList_val rfl (v := .pointer (some ⟨r, 0, none⟩)) (w' := w.alloc (.mapIter (some bm) clock #[] clock)) ?_ ?_)
  · have : (a.put (some 6) (.map (some bm))).eval (.tmp 6) = .map (some bm) := eval_put_self (by omega)
    simp only [execOp, this, Sem.run_bind, run_range_map w 110 _ _ bm ents0 clock Try.underlying110 m2, hr]
    rfl
  obtain ⟨sI, hsI⟩ : ∃ sI, sI = (((argS [.one (.mh 1000), .one (.fn 67 [.ptr 1001 0 0 0])] ob0).sub 1000 (hideG bm) none).put 6 (.val (.one (.v (.map (some bm)))))).put 7 (.val (.one (.v (.pointer (some ⟨r, 0, none⟩))))) := ⟨_, rfl⟩
  have hD : DF Γ bm r was clock hv (fun b => (F b ∨ b = bm) ∨ b = r) sI ((a.put (some 6) (.map (some bm))).put (some 7) (.pointer (some ⟨r, 0, none⟩))) (w.alloc (.mapIter (some bm) clock #[] clock)) ents0 #[] clock :=
    { rel := by
        rw [hsI]
        exact (hR2.put (d := 6) (by omega) (x := .val (.one (.v (.map (some bm))))) ⟨rfl, rfl⟩).put (d := 7) (by omega) (x := .val (.one (.v (.pointer (some ⟨r, 0, none⟩))))) ⟨rfl, rfl⟩
      fm := .inl (.inr rfl), fr := .inr rfl, s0 := by rw [hsI]; rfl, s1 := by rw [hsI]; rfl, s7 := by rw [hsI]; rfl, box := by rw [hsI]; simp [S.sub, h2], hm := hw1m, hr := hw1r, hc := Nat.le_refl _, st := m4 }
  have hk0 : ents0.toList = ents0.toList.filter (keepE was #[]) := (List.filter_eq_self.2 fun x _ => by simp [keepE]).symm
  have key0 : ∀ e ∈ ents0.toList, ∃ x : ANode, ∃ i : Nat, e.key = .agg x.vs.toArray ∧ e.val = .int .i64 i := fun e he => by
    have : (e.key, e.val) ∈ idxs l := by rw [← m3]; exact List.mem_map.2 ⟨e, he, rfl⟩
    obtain ⟨x, _, i, hx⟩ := idxs_key this
    simp only [Prod.mk.injEq] at hx
    exact ⟨x, i, hx.1, hx.2⟩
  have keysN : (ents0.toList.map (·.key)).Nodup := by
    have h5 : ents0.toList.map (·.key) = l.map fun y => Value.agg y.vs.toArray := by
      have : ents0.toList.map (·.key) = (ents0.toList.map fun e => (e.key, e.val)).map (·.1) := by simp
      rw [this, m3, idxs, List.map_map]
      have hz : l.zipIdx.map Prod.fst = l := by simp
      have h6 : (l.map fun y => Value.agg y.vs.toArray) = (l.zipIdx.map Prod.fst).map fun y => Value.agg y.vs.toArray := by rw [hz]
      rw [h6, List.map_map]
      rfl
    rw [h5]
    exact List.Pairwise.map _ (fun y z hyz h => hyz (vs_inj (by simpa using h))) hnd
  refine wp_block (wp_loop (fun a w => ∃ hv F s ents seen c0, DF Γ bm r was clock hv F s a w ents seen c0 ∧ ents.toList = ents0.toList.filter (keepE was seen)) (fun _ w => leftN bm r w) ⟨_, _, _, _, _, _, hD, hk0⟩ ?_)
  clear hD hw1m hw1r hsz e0 hR2 hR1
  rintro a w ⟨hv, F, s, ents, seen, c0, hD, hE⟩
  have hsz : a.tmps.size = 19 := hD.rel.size.trans hN
  have e7 : a.eval (.tmp 7) = .pointer (some ⟨r, 0, none⟩) := by
    have := hD.rel.slots 7
    rw [hD.s7] at this
    exact this.1
  refine wp_seq (wp_region_list ?_)
  rcases run_next_at (P := Try.prog) w 0 r bm clock c0 seen ents clock hD.hr hD.hm hD.st.1 hD.hc with ⟨h0, hrun⟩ | ⟨e, he, w1, hw1, hrun⟩
  · -- nothing is left
    refine wpList_val rfl (v := .tuple #[.bool false]) (w' := w) (by simp only [execOp, e7, Sem.run_bind, hrun]; rfl) (wpList_val rfl (v := .bool false) (w' := w) ?_ ?_)
    · have : (a.put (some 8) (.tuple #[.bool false])).eval (.tmp 8) = .tuple #[.bool false] := eval_put_self (by omega)
      simp [execOp, this, Instr.extract]
    · refine wp_seq (wp_cond (t := false) (eval_put_self (by simp [Act.put]; omega)) (wp_exit ?_))
      have hall := all_seen ents seen h0
      have hfin := keep_end hE hall
      have hR' := ((hD.rel.put (d := 8) (by omega) (x := .un) (u := .tuple #[.bool false]) trivial).put (d := 9) (by omega) (x := .un) (u := .bool false) trivial).final (bi := 1001) (mi := 1000) (vs := [.int .i64 was]) hD.box (by decide) hD.fm hD.hm hD.st hpin
      refine ⟨_, _, _, (hQ _ ⟨[], [(1000, 1000), (1001, 1001)], by simp [resL], by decide, by simp, ?_⟩).1, hR'⟩
      simp [Ren.ob, Ren.inv, Ob.mapC, C.lift, C.ren0]
      rw [hfin, filter_map_snd (fun v => decide (valI v < was)), m3]
      exact idxs_take l was
  · -- an entry has come
    have hRw : R Γ hv F s a w1 ∧ w1.heap = w.heap := by
      rcases hw1 with rfl | rfl
      · exact ⟨hD.rel, rfl⟩
      · exact ⟨hD.rel.drew, rfl⟩
    obtain ⟨hR1, hheap⟩ := hRw
    have hm1 : w1.heap[bm]? = some (.map ents clock) := by rw [hheap]; exact hD.hm
    have hr1 : w1.heap[r]? = some (.mapIter (some bm) clock seen c0) := by rw [hheap]; exact hD.hr
    obtain ⟨w2, hw2⟩ : ∃ w2, w2 = setBlock w1 r (.mapIter (some bm) clock (seen.push e.born) clock) := ⟨_, rfl⟩
    rw [← hw2] at hrun
    have hm2 : w2.heap[bm]? = some (.map ents clock) := by rw [hw2, set_other (Ne.symm hrm)]; exact hm1
    have hr2 : w2.heap[r]? = some (.mapIter (some bm) clock (seen.push e.born) clock) := by rw [hw2]; exact set_same hr1
    have hR2 : R Γ hv F s a w2 := hR1.turnF (fun b => b = r) F (by rw [hw2]; rfl) (by rw [hw2]; rfl) (by rw [hw2]; rfl) (by rw [hw2]; simp [setBlock]) (fun b _ hb => by rw [hw2]; exact set_other hb) (fun b hb => by rw [hb]; exact hD.fr) (fun b hb o => by subst hb; rw [cell_iter hr2, cell_iter hr1]) (fun _ h => h) (fun _ h => .inl h)
    obtain ⟨hem, hes⟩ := mem_left he
    have hem0 : e ∈ ents0.toList := by rw [hE] at hem; exact (List.mem_filter.1 hem).1
    obtain ⟨x, i, hkey, hval⟩ := key0 e hem0
    rw [hkey, hval] at hrun
    refine wpList_val rfl (v := .tuple #[.bool true, .agg x.vs.toArray, .int .i64 i]) (w' := w2) (by simp only [execOp, e7, Sem.run_bind, hrun]; rfl) (wpList_val rfl (v := .bool true) (w' := w2) ?_ ?_)
    · have : (a.put (some 8) (.tuple #[.bool true, .agg x.vs.toArray, .int .i64 i])).eval (.tmp 8) = .tuple #[.bool true, .agg x.vs.toArray, .int .i64 i] := eval_put_self (by omega)
      simp [execOp, this, Instr.extract]
    have hR3 := (hR2.put (d := 8) (by omega) (x := .un) (u := .tuple #[.bool true, .agg x.vs.toArray, .int .i64 i]) trivial).put (d := 9) (by omega) (x := .un) (u := .bool true) trivial
    refine wp_seq (wp_cond (t := true) (eval_put_self (by simp [Act.put]; omega)) (wp_skip (wp_block (wp_seq (wp_region_list ?_)))))
    have e7' : (((a.put (some 8) (.tuple #[.bool true, .agg x.vs.toArray, .int .i64 i])).put (some 9) (.bool true)).eval (.tmp 7)) = .pointer (some ⟨r, 0, none⟩) := by
      have := hR3.slots 7
      simp only [put_sl, hD.s7] at this
      exact this.1
    have hent := run_entry_at (P := Try.prog) w2 r bm clock seen ents clock e hr2 hm2 hem hD.st.2
    rw [hkey, hval] at hent
    refine wpList_val rfl (v := .tuple #[.agg x.vs.toArray, .int .i64 i]) (w' := w2) (by simp only [execOp, e7', Sem.run_bind, hent]; rfl) ?_
    have hR4 := hR3.put (d := 10) (by omega) (x := .tup [.agg (x.vs.map .v), .one (vi i)]) (u := .tuple #[.agg x.vs.toArray, .int .i64 i]) ⟨_, rfl, rfl, fun j y u hy hu => by
      match j with
      | 0 => simp at hy hu; subst hy hu; exact ⟨x.vs, rfl, hds_plain (by simp [ANode.vs]; exact ⟨rfl, rfl, rfl⟩)⟩
      | 1 => simp at hy hu; subst hy hu; exact ⟨rfl, rfl⟩
      | j + 2 => simp at hy⟩
    refine list_stable hN (Γ.t F) w2 _ ?_ (K := fun s' => s'.sl 0 = .val (.one (.v (.map (some bm)))) ∧ s'.sl 1 = .val (.one (.fn 67 [.ptr 1001 0 0 0])) ∧ s'.sl 7 = .val (.one (.v (.pointer (some ⟨r, 0, none⟩)))) ∧ s'.ob 1001 = some (.box 3 [vi was]) ∧ s'.sl 4 = .val (.one (.ptr 4 0 0 0)) ∧ s'.sl 5 = .val (.one (vi i)) ∧ s'.ob 4 = some (.box 44 (x.vs.map .v))) (by decide) (by simp [hD.s0, hD.s1, hD.s7, hD.box, ANode.vs]) hR4 (fun _ h => h) (fun _ _ => rfl)
    rintro hv5 F5 s5 a5 w5 ⟨c0', c1, c7, cb, c4, c5, cx⟩ hR5 hs5 ht5
    have hF5m : F5 bm := hR5.t_mine (ht5 bm (.inr hD.fm)) hmine
    have hmr : Γ.mine r := (hD.rel.fz r hD.fr).1
    have hF5r : F5 r := hR5.t_mine (ht5 r (.inr hD.fr)) hmr
    have hm5 : w5.heap[bm]? = some (.map ents clock) := (hs5 bm (.inr hD.fm)).trans hm2
    have hr5 : w5.heap[r]? = some (.mapIter (some bm) clock (seen.push e.born) clock) := (hs5 r (.inr hD.fr)).trans hr2
    refine wp_seq (wp_region_list ?_)
    refine list_stable hN (Γ.t F5) w5 _ ?hQ (K := fun s' => s'.sl 0 = .val (.one (.v (.map (some bm)))) ∧ s'.sl 1 = .val (.one (.fn 67 [.ptr 1001 0 0 0])) ∧ s'.sl 7 = .val (.one (.v (.pointer (some ⟨r, 0, none⟩)))) ∧ s'.ob 1001 = some (.box 3 [vi was]) ∧ s'.sl 4 = .val (.one (.ptr 4 0 0 0)) ∧ s'.ob 4 = some (.box 44 (x.vs.map .v)) ∧ s'.sl 16 = .val (.one (vb (decide ((was : Int) ≤ i))))) (by decide) ?hV hR5 (fun _ h => h) (fun _ _ => rfl)
    case hV =>
      simp [c0', c1, c7, cb, c4, c5, cx, ANode.vs]
      refine call0_V 1 rfl (by decide) (by decide) (by rfl) (by simp [c1]; rfl) rfl (args := [.agg (x.vs.map .v), .one (vi i), .one (.fp true [vi was])]) (by simp [S.hand, SV.mapC, V1.mapC, C.lift, C.out0, C.frz, Ren.at, cb, c5, ANode.vs]) (del_spec x i was true) ?_
      rintro res ob' rfl
      simp [SV.mapC, V1.mapC, C.lift, C.ren0, c0', c1, c7, cb, c4, c5, cx, ANode.vs]
    rintro hv6 F6 s6 a6 w6 ⟨d0, d1, d7, db, d4, dx, d16⟩ hR6 hs6 ht6
    have hF6m : F6 bm := hR6.t_mine (ht6 bm (.inr hF5m)) hmine
    have hF6r : F6 r := hR6.t_mine (ht6 r (.inr hF5r)) hmr
    have hm6 : w6.heap[bm]? = some (.map ents clock) := (hs6 bm (.inr hF5m)).trans hm5
    have hr6 : w6.heap[r]? = some (.mapIter (some bm) clock (seen.push e.born) clock) := (hs6 r (.inr hF5r)).trans hr5
    have e16 : a6.eval (.tmp 16) = .bool (decide ((was : Int) ≤ i)) := by
      have := hR6.slots 16
      rw [d16] at this
      exact hd_bool this
    have hlt := left_shrinks ents seen e he
    have hold : leftN bm r w = (leftOf ents seen).size := by simp only [leftN, hD.hm, hD.hr]
    refine wp_cond_split e16 (fun hge => ?_) (fun hlt' => wp_skip ?_)
    · simp at hge
      refine wp_region_list ?_
      have hsz6 : a6.tmps.size = 19 := hR6.size.trans hN
      have e0' : a6.eval (.tmp 0) = .map (some bm) := by
        have := hR6.slots 0
        rw [d0] at this
        exact this.1
      have hR7 := hR6.put (d := 17) (by omega) (x := .val (.one (.v (.map (some bm))))) (u := .map (some bm)) ⟨rfl, rfl⟩
      refine wpList_val rfl (v := .map (some bm)) (w' := w6) (by simp [execOp, e0']) ?_
      obtain ⟨v18, q1, q2⟩ := hR7.look_ok (P := Try.prog) (o := { dst := some 18, op := Op.load 44 (Operand.tmp 4), type := 44, pos := "maps.go:72", after := #[], guard := none }) (p := True) (x := .val (.agg (x.vs.map .v))) (by decide) (by simp [lookC, d4, dx, ANode.vs]) trivial
      obtain rfl : v18 = .agg x.vs.toArray := toV_hd (by simp [SV.toV, cellsV, C.toV, ANode.vs]) q2
      refine wpList_val rfl (v := .agg x.vs.toArray) (w' := w6) q1 ?_
      have hR8 := hR7.put (d := 18) (by omega) (x := .val (.agg (x.vs.map .v))) (u := .agg x.vs.toArray) q2
      have e17 : (((a6.put (some 17) (.map (some bm))).put (some 18) (.agg x.vs.toArray)).eval (.tmp 17)) = .map (some bm) := by
        have := hR8.slots 17
        exact this.1
      have e18 : (((a6.put (some 17) (.map (some bm))).put (some 18) (.agg x.vs.toArray)).eval (.tmp 18)) = .agg x.vs.toArray := eval_put_self (by simp [Act.put]; omega)
      have hsub : ∀ en ∈ ents.toList, en ∈ ents0.toList := fun en hen => by rw [hE] at hen; exact (List.mem_filter.1 hen).1
      have hents : ∀ en ∈ ents.toList, isNode en.key := fun en hen => by
        obtain ⟨y, _, hy, _⟩ := key0 en (hsub en hen)
        exact ⟨y, hy⟩
      rcases key44.find w6 (x := .agg x.vs.toArray) ⟨x, rfl⟩ ents.toList hents with ⟨_, f2⟩ | ⟨j, en, f1, f2, f3⟩
      · exact absurd hkey (f2 e hem)
      · have hen : en = e := nodup_map_inj keysN (hsub en (List.mem_of_getElem? f2)) hem0 (f3.trans hkey.symm)
        subst hen
        have hjlt : j < ents.size := by
          have := (List.getElem?_eq_some_iff.1 f2).1
          simpa using this
        obtain ⟨w7, hw7⟩ : ∃ w7, w7 = setBlock w6 bm (.map (ents.eraseIdxIfInBounds j) clock) := ⟨_, rfl⟩
        have hdel : (Builtin.delete_ #[110, 44] 0 #[.map (some bm), .agg x.vs.toArray]).run Try.prog w6 = .ok (.tuple #[]) w7 := by
          simp [Builtin.delete_, run_underlying Try.underlying110, MapKept.run_getObj_map hm6, key44.check w6 _ ⟨x, rfl⟩, f1, MapKept.run_setObj_map _ hm6, Result.andThen, hw7, setBlock]
        refine wpList_val rfl (v := .tuple #[]) (w' := w7) (by simp [execOp, resolve, invoke, builtin, e17, e18, hdel]) ?_
        have hl7 : (ents.eraseIdxIfInBounds j).toList = ents.toList.filter (fun y => y.born != en.born) := by
          rw [← erase_born hD.st.2 f2, Array.eraseIdxIfInBounds, dif_pos hjlt, Array.toList_eraseIdx]
        have hm7 : w7.heap[bm]? = some (.map (ents.eraseIdxIfInBounds j) clock) := by rw [hw7]; exact set_same hm6
        have hr7 : w7.heap[r]? = some (.mapIter (some bm) clock (seen.push en.born) clock) := by rw [hw7, set_other hrm]; exact hr6
        have hR9 := hR8.turnF (w' := w7) (fun b => b = bm) F6 (by rw [hw7]; rfl) (by rw [hw7]; rfl) (by rw [hw7]; rfl) (by rw [hw7]; simp [setBlock]) (fun b _ hb => by rw [hw7]; exact set_other hb) (fun b hb => by rw [hb]; exact hF6m) (fun b hb o => by subst hb; rw [cell_map hm7, cell_map hm6]) (fun _ h => h) (fun _ h => .inl h)
        refine ⟨⟨hv6, F6, _, ents.eraseIdxIfInBounds j, seen.push en.born, clock, { rel := hR9, fm := hF6m, fr := hF6r, s0 := by simp [d0], s1 := by simp [d1], s7 := by simp [d7], box := by simp [db], hm := hm7, hr := hr7, hc := Nat.le_refl _, st := ⟨fun y hy => ?_, ?_⟩ }, ?_⟩, ?_⟩
        · rw [hl7] at hy
          exact hD.st.1 y (List.mem_filter.1 hy).1
        · rw [hl7]
          exact hD.st.2.sublist (List.filter_sublist.map _)
        · rw [hl7, hE, keep_gone m4.2 hem0 (by rw [hval]; simp [valI]; omega)]
        · rw [hold]
          simp only [leftN, hm7, hr7]
          refine Nat.lt_of_le_of_lt ?_ hlt
          exact left_le (by rw [hl7]; exact List.filter_sublist) _
    · simp at hlt'
      refine ⟨⟨hv6, F6, s6, ents, seen.push e.born, clock, { rel := hR6, fm := hF6m, fr := hF6r, s0 := d0, s1 := d1, s7 := d7, box := db, hm := hm6, hr := hr6, hc := Nat.le_refl _, st := hD.st }, ?_⟩, ?_⟩
      · rw [keep_stay m4.2 hem0 (by rw [hval]; simp [valI]; omega)]; exact hE
      · rw [hold]
        simp only [leftN, hm6, hr6]
        exact hlt
end Go.Proofs.Ytjjmomkjjdilnaa
