/- An engine that walks translated code over lists, numbers and objects: what each operation does to such a state, proved once against the model; part 2. Conditions: each theorem bears its own. -/
import Derived.Test.YtjjmomkjjdilnaaEngA
set_option linter.all false
namespace Go.Eng
open Go Go.RowKit
/-! ### maps -/
open Go.ChangeMaps (setBlock modify_eq_set)
open Go.Maps (Keyed)
open Go.WideMaps (KeyLaw)
/-- What a map asks of its keys. -/
structure KeyB (P : Program) (k : Nat) (G : Value → Prop) : Prop where
  check : ∀ (w : World) (em : Bool) {v : Value}, G v → (Instr.checkKey em 10000 k v).run P w = .ok () w
  find : ∀ (w : World) {x : Value}, G x → ∀ es : List MapEntry, (∀ e ∈ es, G e.key) →
    ((Instr.findKey k x es).run P w = .ok none w ∧ ∀ e ∈ es, e.key ≠ x) ∨ ∃ j e, (Instr.findKey k x es).run P w = .ok (some (j, e.val)) w ∧ es[j]? = some e ∧ e.key = x
  stays : ∀ (w : World) {v : Value}, G v → (Instr.keyThatStays v v).run P w = .ok v w
theorem KeyB.of_keyed {P : Program} {k : Nat} (K : Keyed P k) : KeyB P k (fun v => ∃ l, keyOf P k v = some l) :=
  ⟨fun w em _ ⟨_, h⟩ => K.check w em h, fun w _ ⟨_, h⟩ es hes => K.find w h es hes, fun w _ ⟨_, h⟩ => K.stays w h⟩
def C.toV : C → Option Value
  | .v x => some x
  | _ => none
def cellsV : List C → Option (List Value)
  | [] => some []
  | c :: cs => match c.toV, cellsV cs with
    | some x, some xs => some (x :: xs)
    | _, _ => none
/-- A plain value. -/
def SV.toV : SV → Option Value
  | .val (.one c) => c.toV
  | .val (.agg cs) => (cellsV cs).map fun l => .agg l.toArray
  | _ => none
theorem cellsV_hd {hv : Nat → Value} {live : Nat → Prop} {w : World} {okT okP : Nat → Prop} : ∀ {cs : List C} {vs us : List Value}, cellsV cs = some vs → HDs hv live w okT okP cs us → us = vs
  | [], vs, us, h, hd => by
    cases h
    exact List.eq_nil_of_length_eq_zero hd.1
  | c :: cs, vs, us, h, hd => by
    simp only [cellsV] at h
    split at h
    · rename_i x xs hx hxs
      cases h
      match us, hd with
      | [], hd => have := hd.1; simp at this
      | u :: us, hd =>
        have h1 := hd.2 0 c u rfl rfl
        have h2 := cellsV_hd hxs ⟨by simpa using hd.1, fun j c' u' hc hu => hd.2 (j + 1) c' u' hc hu⟩
        cases c with
        | v y =>
          simp only [C.toV, Option.some.injEq] at hx
          obtain rfl : u = y := h1.1
          rw [hx, h2]
        | _ => simp [C.toV] at hx
    · cases h
theorem toV_hd {hv : Nat → Value} {live : Nat → Prop} {w : World} {okT okP : Nat → Prop} {x : SV} {u v : Value} (h : x.toV = some v) (hd : x.HD hv live w okT okP u) : u = v := by
  cases x with
  | val x =>
    cases x with
    | one c =>
      cases c with
      | v y =>
        simp only [SV.toV, C.toV, Option.some.injEq] at h
        rw [← h]; exact hd.1
      | _ => simp [SV.toV, C.toV] at h
    | agg cs =>
      simp only [SV.toV] at h
      obtain ⟨vs, hvs, rfl⟩ := Option.map_eq_some_iff.1 h
      obtain ⟨us, rfl, hd⟩ := hd
      rw [cellsV_hd hvs hd]
  | tup => simp [SV.toV] at h
  | un => simp [SV.toV] at h
section
variable {P : Program} {Γ : Fr} {hv : Nat → Value} {F : Nat → Prop} {s : S} {a : Act} {w : World}
theorem R.map_at (h : R Γ hv F s a w) {id : Nat} {es : List (Value × Value)} (ho : s.ob id = some (.mp es)) : ∃ b ents clock, hv id = .map (some b) ∧ w.heap[b]? = some (.map ents clock) ∧ ents.toList.map (fun e => (e.key, e.val)) = es ∧ stampsOk ents clock := h.obs id _ ho
theorem stamps_push {ents : Array MapEntry} {clock : Nat} {k v : Value} (h : stampsOk ents clock) : stampsOk (ents.push ⟨k, v, clock⟩) (clock + 1) := by
  refine ⟨fun e he => ?_, ?_⟩
  · simp only [Array.toList_push, List.mem_append, List.mem_singleton] at he
    rcases he with he | rfl
    · have := h.1 e he; omega
    · simp
  · rw [Array.toList_push, List.map_append, List.nodup_append]
    refine ⟨h.2, by simp, fun a ha b hb => ?_⟩
    obtain ⟨e, he, rfl⟩ := List.mem_map.1 ha
    simp at hb
    subst hb
    have := h.1 e he
    omega
theorem stamps_modify {ents : Array MapEntry} {clock j : Nat} {k v : Value} (h : stampsOk ents clock) : stampsOk (ents.modify j (fun e' => { e' with key := k, val := v })) clock := by
  have hm : ∀ (l : List MapEntry) (j : Nat), (l.modify j (fun e' => { e' with key := k, val := v })).map (·.born) = l.map (·.born) := fun l => by
    induction l with
    | nil => intro j; cases j <;> simp
    | cons x l ih => intro j; cases j <;> simp [ih]
  refine ⟨fun e he => ?_, by rw [Array.toList_modify, hm]; exact h.2⟩
  have h1 : e.born ∈ (ents.modify j (fun e' => { e' with key := k, val := v })).toList.map (·.born) := List.mem_map.2 ⟨e, he, rfl⟩
  rw [Array.toList_modify, hm] at h1
  obtain ⟨e0, h0, h2⟩ := List.mem_map.1 h1
  rw [← h2]; exact h.1 e0 h0
theorem grown_setBlock {b : Nat} {o : Obj} : w.grownBy (setBlock w b o) (some b) := by
  refine ⟨rfl, rfl, rfl, by simp [setBlock], fun k _ hk => ?_⟩
  simp only [setBlock]
  rw [Array.getElem?_setIfInBounds_ne (fun e => hk (by rw [e]))]
theorem R.map_set (h : R Γ hv F s a w) {id b : Nat} {es : List (Value × Value)} (ho : s.ob id = some (.mp es)) (hb' : hv id = .map (some b)) (ents : Array MapEntry) (clock : Nat) (hst : stampsOk ents clock) :
    R Γ hv F (s.setOb id (.mp (ents.toList.map fun e => (e.key, e.val)))) a (setBlock w b (.map ents clock)) := by
  obtain ⟨b', ents0, clock0, e1, e2, _⟩ := h.map_at ho
  rw [hb'] at e1
  cases e1
  refine h.setOb_ ho (row := some b) (by rw [hb']; rfl) grown_setBlock ?_
  refine ⟨b, ents, clock, hb', ?_, rfl, hst⟩
  have hlt : b < w.heap.size := (Array.getElem?_eq_some_iff.1 e2).1
  simp only [setBlock]
  rw [Array.getElem?_setIfInBounds_self_of_lt hlt]
end
section
variable {P : Program} {N d ty : Nat} {dd : Option Nat} {ps : String} {af : Array Edge} {gd : Option (Nat × Bool)} {s : S} {K : S → Prop}
theorem V_makeMap {t : Nat} (hd : dstOk N ⟨some d, .makeMap t none, ty, ps, af, gd⟩ = true) (hK : K (s.newOb d (.mp []) (.val (.one (.mh d))))) : Oper.V P N ⟨some d, .makeMap t none, ty, ps, af, gd⟩ s K := by
  intro Γ hv F a w hN hR Q
  have hdl := dstOk_spec hd d rfl
  have hrun : (execOp a.eval ⟨some d, .makeMap t none, ty, ps, af, gd⟩).run P w = .ok (.value (.map (some w.heap.size))) (w.alloc (.map #[] 0)) := by
    simp [execOp, Instr.makeMap]
  show Oper.upon P _ a _ Q _
  rw [hrun, Oper.upon_value]
  refine ⟨_, F, _, hK, hR.newOb_ (hN ▸ hdl.1) hdl.2 (hR.away.alloc _) (by simp) (fun b hb => Below.heap_alloc _ _ _ hb) (fun b hb' => ?_) (fun live hlive => ?_) (fun live hl => ⟨hl, by simp, rfl⟩)⟩
  · simp only [hb, Option.some.injEq] at hb'
    subst hb'
    simp
  · exact ⟨w.heap.size, #[], 0, by simp, heap_alloc_new w _, rfl, by simp, by simp⟩
theorem V_lookup {t k e id : Nat} {x ix : Operand} {G : Value → Prop} {es : List (Value × Value)} {kv z : Value} {c : Bool} (hc : opConstOk ⟨some d, .lookup t x ix c, ty, ps, af, gd⟩ = true) (hd : dstOk N ⟨some d, .lookup t x ix c, ty, ps, af, gd⟩ = true)
    (hx : s.ev x = .val (.one (.mh id))) (ho : s.ob id = some (.mp es)) (hk : (s.ev ix).toV = some kv) (ht : P.underlying t = some (.map k e)) (KB : KeyB P k G) (hG : G kv) (hes : ∀ p ∈ es, G p.1) (hz : ∀ w, (zeroValue e).run P w = .ok z w) (hz1 : z.oneCell' = true) (hes1 : ∀ p ∈ es, p.2.oneCell' = true)
    (h0 : (∀ p ∈ es, p.1 ≠ kv) → K (s.put d (if c then .tup [.one (.v z), .one (vb false)] else .val (.one (.v z)))))
    (h1 : ∀ v, (kv, v) ∈ es → K (s.put d (if c then .tup [.one (.v v), .one (vb true)] else .val (.one (.v v))))) : Oper.V P N ⟨some d, .lookup t x ix c, ty, ps, af, gd⟩ s K := by
  intro Γ hv F a w hN hR Q
  have e1 := hR.ev x (opConst hc (by simp [Op.operands]))
  have e2 := hR.ev ix (opConst hc (by simp [Op.operands]))
  rw [hx] at e1
  have e3 := toV_hd hk e2
  obtain ⟨b, ents, clock, m1, m2, m3, m4⟩ := hR.map_at ho
  have e4 : a.eval x = .map (some b) := e1.2.1.trans m1
  have hents : ∀ en ∈ ents.toList, G en.key := fun en hen => hes (en.key, en.val) (by rw [← m3]; exact List.mem_map.2 ⟨en, hen, rfl⟩)
  have fin : ∀ (v : Value) (f : Bool), v.oneCell' = true → (Instr.lookup t (.map (some b)) kv c).run P w = .ok (if c then .tuple #[v, .bool f] else v) w → K (s.put d (if c then .tup [.one (.v v), .one (vb f)] else .val (.one (.v v)))) →
      Oper.wp P ⟨some d, .lookup t x ix c, ty, ps, af, gd⟩ a w (fun a' w' => ∃ hv' F' s', K s' ∧ R Γ hv' F' s' a' w') Q := fun v f hv1 hrun hKv => by
    have : (execOp a.eval ⟨some d, .lookup t x ix c, ty, ps, af, gd⟩).run P w = .ok (.value (if c then .tuple #[v, .bool f] else v)) w := by
      simp only [execOp, e3, e4, Sem.run_bind, hrun]; rfl
    show Oper.upon P _ a _ Q _
    rw [this, Oper.upon_value]
    refine ⟨hv, F, _, hKv, hR.put (hN ▸ (dstOk_spec hd d rfl).1) ?_⟩
    cases c
    · exact ⟨rfl, hv1⟩
    · refine ⟨[v, .bool f], rfl, rfl, fun j y u hy hu => ?_⟩
      match j with
      | 0 => simp at hy hu; subst hy hu; exact ⟨rfl, hv1⟩
      | 1 => simp at hy hu; subst hy hu; exact ⟨rfl, rfl⟩
      | j + 2 => simp at hy
  rcases KB.find w hG ents.toList hents with ⟨q1, q2⟩ | ⟨j, en, q1, q2, q3⟩
  · refine fin z false hz1 ?_ (h0 fun p hp => ?_)
    · simp [Instr.lookup, run_underlying ht, MapKept.run_getObj_map m2, KB.check w _ hG, q1, hz, Result.andThen]
    · rw [← m3] at hp
      obtain ⟨en, hen, rfl⟩ := List.mem_map.1 hp
      exact q2 en hen
  · have hmem : (kv, en.val) ∈ es := by rw [← m3]; exact List.mem_map.2 ⟨en, List.mem_of_getElem? q2, by rw [q3]⟩
    refine fin en.val true (hes1 _ hmem) ?_ (h1 _ hmem)
    simp [Instr.lookup, run_underlying ht, MapKept.run_getObj_map m2, KB.check w _ hG, q1, Result.andThen]
theorem V_mapUpdate {t k e id : Nat} {x ix y : Operand} {G : Value → Prop} {es : List (Value × Value)} {kv v : Value} (hc : opConstOk ⟨none, .mapUpdate t x ix y, ty, ps, af, gd⟩ = true)
    (hx : s.ev x = .val (.one (.mh id))) (ho : s.ob id = some (.mp es)) (hk : (s.ev ix).toV = some kv) (hy : (s.ev y).toV = some v) (ht : P.underlying t = some (.map k e)) (KB : KeyB P k G) (hG : G kv) (hes : ∀ p ∈ es, G p.1)
    (h0 : (∀ p ∈ es, p.1 ≠ kv) → K (s.setOb id (.mp (es ++ [(kv, v)]))))
    (h1 : ∀ (j : Nat) u, es[j]? = some (kv, u) → K (s.setOb id (.mp (es.set j (kv, v))))) : Oper.V P N ⟨none, .mapUpdate t x ix y, ty, ps, af, gd⟩ s K := by
  intro Γ hv F a w hN hR Q
  have e1 := hR.ev x (opConst hc (by simp [Op.operands]))
  have e2 := hR.ev ix (opConst hc (by simp [Op.operands]))
  have e3 := hR.ev y (opConst hc (by simp [Op.operands]))
  rw [hx] at e1
  have e4 := toV_hd hk e2
  have e5 := toV_hd hy e3
  obtain ⟨b, ents, clock, m1, m2, m3, m4⟩ := hR.map_at ho
  have e6 : a.eval x = .map (some b) := e1.2.1.trans m1
  have hents : ∀ en ∈ ents.toList, G en.key := fun en hen => hes (en.key, en.val) (by rw [← m3]; exact List.mem_map.2 ⟨en, hen, rfl⟩)
  have fin : ∀ (ents' : Array MapEntry) (clock' : Nat), stampsOk ents' clock' → (Instr.mapUpdate t (.map (some b)) kv v).run P w = .ok () (setBlock w b (.map ents' clock')) → K (s.setOb id (.mp (ents'.toList.map fun e => (e.key, e.val)))) →
      Oper.wp P ⟨none, .mapUpdate t x ix y, ty, ps, af, gd⟩ a w (fun a' w' => ∃ hv' F' s', K s' ∧ R Γ hv' F' s' a' w') Q := fun ents' clock' hst hrun hKv => by
    have : (execOp a.eval ⟨none, .mapUpdate t x ix y, ty, ps, af, gd⟩).run P w = .ok .skip (setBlock w b (.map ents' clock')) := by
      simp only [execOp, e4, e5, e6, Sem.run_bind, hrun]; rfl
    show Oper.upon P _ a _ Q _
    rw [this, Oper.upon_skip]
    exact ⟨hv, F, _, hKv, hR.map_set ho m1 ents' clock' hst⟩
  rcases KB.find w hG ents.toList hents with ⟨q1, q2⟩ | ⟨j, en, q1, q2, q3⟩
  · refine fin (ents.push ⟨kv, v, clock⟩) (clock + 1) (stamps_push m4) ?_ ?_
    · simp [Instr.mapUpdate, run_underlying ht, MapKept.run_getObj_map m2, KB.check w false hG, q1, MapKept.run_setObj_map _ m2, Result.andThen, setBlock]
    · rw [Array.toList_push, List.map_append, m3]
      refine h0 fun p hp => ?_
      rw [← m3] at hp
      obtain ⟨en, hen, rfl⟩ := List.mem_map.1 hp
      exact q2 en hen
  · have hj : ents[j]? = some en := by simpa using q2
    refine fin (ents.modify j (fun e' => { e' with key := kv, val := v })) clock (stamps_modify m4) ?_ ?_
    · simp [Instr.mapUpdate, run_underlying ht, MapKept.run_getObj_map m2, KB.check w false hG, q1, hj, q3, KB.stays w hG, MapKept.run_setObj_map _ m2, Result.andThen, setBlock]
    · have : (ents.modify j (fun e' => { e' with key := kv, val := v })).toList.map (fun e => (e.key, e.val)) = es.set j (kv, v) := by
        rw [Array.toList_modify, modify_eq_set _ _ _ _ q2, List.map_set, m3]
      rw [this]
      refine h1 j en.val ?_
      rw [← m3, List.getElem?_map, q2]
      simp [q3]
end
/-! ### struct values -/
def bldC (P : Program) (t : Nat) (s : S) : List (Nat × Operand) → List C → Option (List C)
  | [], cs => some cs
  | (f, x) :: ps, cs => match fldT P t f with
    | some (off, t') => match tyI P t' with
      | some y => match s.ev x with
        | .val v => if v.cells.length = y.sz ∧ off + y.sz ≤ cs.length then bldC P t s ps (cs.take off ++ v.cells ++ cs.drop (off + y.sz)) else none
        | _ => none
      | none => none
    | none => none
def fieldsOk (P : Program) (t : Nat) : Bool := match P.underlying t with
  | some (.struct fs) => fs.toList.all fun f => (P.info? f.type).isSome
  | _ => false
section
variable {P : Program} {Γ : Fr} {hv : Nat → Value} {F : Nat → Prop} {s : S} {a : Act} {w : World}
theorem run_places {w : World} : ∀ {l : List Field}, (∀ f ∈ l, (P.info? f.type).isSome = true) → (l.mapM (fun f : Field => (do pure (f.offset, ← sizeOf f.type) : Sem (Nat × Nat)))).run P w = .ok (l.map fun f => (f.offset, ((P.info? f.type).map (·.size)).getD 0)) w
  | [], _ => by simp
  | f :: l, h => by
    obtain ⟨i, hi⟩ := Option.isSome_iff_exists.1 (h f (by simp))
    have ih := run_places (w := w) (l := l) fun g hg => h g (List.mem_cons_of_mem _ hg)
    simp only [List.mapM_cons, Sem.run_bind, sizeOf, typeInfo, run_program, Result.andThen_ok, hi, Sem.run_pure] at ih ⊢
    rw [ih]
    simp [hi]
theorem R.bld (h : R Γ hv F s a w) {t : Nat} {fs : Array Field} (ht : P.underlying t = some (.struct fs)) : ∀ {ps : List (Nat × Operand)} {cs cs' : List C} {cells : Array Value}, bldC P t s ps cs = some cs' → (∀ p ∈ ps, ∀ v, p.2 = .const v → v.oneCell' = true) → HDs hv s.live w (Γ.t F) (Γ.p F) cs cells.toList →
    ∃ r, Instr.fill (fun x => (fs.toList.map fun f => (f.offset, ((P.info? f.type).map (·.size)).getD 0)).toArray[x]?) cells (ps.map fun p => (p.1, a.eval p.2)) = some r ∧ HDs hv s.live w (Γ.t F) (Γ.p F) cs' r.toList
  | [], cs, cs', cells, hb, _, hd => by cases hb; exact ⟨cells, rfl, hd⟩
  | (f, x) :: ps, cs, cs', cells, hb, hc, hd => by
    simp only [bldC] at hb
    split at hb
    · rename_i off t' hf
      split at hb
      · rename_i y hy
        split at hb
        · rename_i v hv1
          split at hb
          · rename_i hfit
            obtain ⟨hl, hfit⟩ := hfit
            have h1 := h.ev x (hc (f, x) (by simp))
            rw [hv1] at h1
            have h2 := V1.hd_cells (x := v) h1
            have hvl : (a.eval x).cells.size = y.sz := by rw [← Array.length_toList, h2.1, hl]
            have hcl : cells.size = cs.length := by rw [← Array.length_toList, hd.1]
            obtain ⟨fs', fx, e1, e2, e3, e4⟩ := fldT_some hf
            rw [ht] at e1
            cases e1
            obtain ⟨i, dd, hi, _, hsz, _⟩ := tyI_some hy
            have hplace : ((fs.toList.map fun f => (f.offset, ((P.info? f.type).map (·.size)).getD 0)).toArray[f]?) = some (off, y.sz) := by
              simp [e2, e3, e4, hi, hsz]
            have hfold := foldl_cells off (a.eval x).cells.toList 0 cells (by simp [hvl, hcl]; exact hfit)
            have hnew : HDs hv s.live w (Γ.t F) (Γ.p F) (cs.take off ++ v.cells ++ cs.drop (off + y.sz)) ((a.eval x).cells.zipIdx.foldl (fun cs (c, j) => cs.setIfInBounds (off + j) c) cells).toList := by
              rw [← Array.foldl_toList, Array.toList_zipIdx, hfold]
              simp only [Nat.add_zero, Array.length_toList, hvl]
              have a1 := hd.slice 0 off
              simp only [List.drop_zero] at a1
              exact (a1.append h2).append (hd.drop_ _)
            obtain ⟨r, hr1, hr2⟩ := h.bld ht hb (fun p hp => hc p (List.mem_cons_of_mem _ hp)) hnew
            refine ⟨r, ?_, hr2⟩
            simp only [List.map_cons, Instr.fill, hplace]
            rw [if_neg (by simp [hvl]; omega)]
            exact hr1
          · cases hb
        · cases hb
      · cases hb
    · cases hb
end
section
variable {P : Program} {N d ty : Nat} {ps : String} {af : Array Edge} {gd : Option (Nat × Bool)} {s : S} {K : S → Prop}
theorem V_build {t : Nat} {parts : Array (Nat × Operand)} {z cs : List C} (hc : opConstOk ⟨some d, .build t parts, ty, ps, af, gd⟩ = true) (hd : dstOk N ⟨some d, .build t parts, ty, ps, af, gd⟩ = true) (hz : zeroT' P t = some z) (hf : fieldsOk P t = true) (hb : bldC P t s parts.toList z = some cs)
    (hK : K (s.put d (.val (.agg cs)))) : Oper.V P N ⟨some d, .build t parts, ty, ps, af, gd⟩ s K := by
  refine V_put hd (fun Γ hv F a w hN hR => ?_) hK
  obtain ⟨i, zv, hi, hz1, rfl, hz3⟩ := zeroT'_some hz
  unfold fieldsOk at hf
  split at hf
  · rename_i fs ht
    obtain ⟨r, h1, h2⟩ := hR.bld (P := P) ht (cells := zv.cells) hb (fun p hp v hv => opConst hc (x := p.2) (by simp only [Op.operands]; simp; exact ⟨p.1, by simpa using hp⟩) v hv) (Dens.hds hR.pt (dens_const hz3))
    refine ⟨.agg r, ?_, r.toList, rfl, h2⟩
    have hpl := run_places (P := P) (w := w) (l := fs.toList) fun f hf' => List.all_eq_true.1 hf f hf'
    have hparts : (parts.map fun (i, x) => (i, a.eval x)).toList = parts.toList.map fun p => (p.1, a.eval p.2) := by simp
    simp only [execOp, Instr.build, Sem.run_bind, zeroValue, typeInfo, run_program, Result.andThen_ok, hi, hz1, Sem.run_pure, run_underlying ht]
    rw [Array.mapM_eq_mapM_toList]
    simp only [Sem.run_bind, map_eq_pure_bind]
    rw [hpl]
    simp only [Result.andThen_ok, Sem.run_pure, hparts, h1]
  · cases hf
end
/-! ### comparisons of other values -/
def C.nonNil : C → Bool
  | .ptr .. | .fp .. | .mh _ => true
  | _ => false
section
variable {P : Program} {N d ty : Nat} {ps : String} {af : Array Edge} {gd : Option (Nat × Bool)} {s : S} {K : S → Prop}
theorem V_eqv {op : BinOp} {t u : Nat} {x y : Operand} {va vb r : Value} (hc : opConstOk ⟨some d, .binOp op t x y u, ty, ps, af, gd⟩ = true) (hd : dstOk N ⟨some d, .binOp op t x y u, ty, ps, af, gd⟩ = true) (hx : (s.ev x).toV = some va) (hy : (s.ev y).toV = some vb)
    (hrun : ∀ w, (do eqGuard op t x y va vb; binOp op t va vb : Sem Value).run P w = .ok r w) (h1 : r.oneCell' = true) (hK : K (s.put d (.val (.one (.v r))))) : Oper.V P N ⟨some d, .binOp op t x y u, ty, ps, af, gd⟩ s K := by
  refine V_put (x := .val (.one (.v r))) hd (fun Γ hv F a w hN hR => ?_) hK
  have e1 := toV_hd hx (hR.ev x (opConst hc (by simp [Op.operands])))
  have e2 := toV_hd hy (hR.ev y (opConst hc (by simp [Op.operands])))
  refine ⟨r, ?_, rfl, h1⟩
  have := hrun w
  rw [← e1, ← e2] at this
  simp only [execOp, Sem.run_bind] at this ⊢
  rw [this]
  rfl
/-- A pointer or a map that there is, beside nil. -/
theorem V_nilcmp {op : BinOp} {t u : Nat} {x : Operand} {c : C} {n : Value} (hn : n = .pointer none ∨ n = .map none) (hop : op = .eql ∨ op = .neq) (hd : dstOk N ⟨some d, .binOp op t x (.const n) u, ty, ps, af, gd⟩ = true) (hc : opConstOk ⟨some d, .binOp op t x (.const n) u, ty, ps, af, gd⟩ = true)
    (hx : s.ev x = .val (.one c)) (hcn : c.nonNil = true) (hmp : (∃ id, c = .mh id ∧ ∃ es, s.ob id = some (.mp es)) ∧ n = .map none ∨ (∀ id, c ≠ .mh id) ∧ n = .pointer none) (htt : (∃ e, P.underlying t = some (.pointer e)) ∧ n = .pointer none ∨ (∃ k e, P.underlying t = some (.map k e)) ∧ n = .map none)
    (hK : K (s.put d (.val (.one (vb (op == .neq)))))) : Oper.V P N ⟨some d, .binOp op t x (.const n) u, ty, ps, af, gd⟩ s K := by
  refine V_put (x := .val (.one (vb (op == .neq)))) hd (fun Γ hv F a w hN hR => ?_) hK
  have e1 := hR.ev x (opConst hc (by simp [Op.operands]))
  rw [hx] at e1
  have hval : (n = .pointer none ∧ ∃ ad, a.eval x = .pointer (some ad)) ∨ (n = .map none ∧ ∃ b, a.eval x = .map (some b)) := by
    rcases hmp with ⟨⟨id, rfl, es, hes⟩, e⟩ | ⟨hne, e⟩
    · obtain ⟨b, _, _, m1, _⟩ := hR.map_at hes
      exact .inr ⟨e, b, e1.2.1.trans m1⟩
    · refine .inl ⟨e, ?_⟩
      cases c with
      | ptr i sz k o => obtain ⟨_, b, _, hu⟩ := e1; exact ⟨_, hu⟩
      | fp t cs => obtain ⟨b, o, hu, _⟩ := hR.load_fp e1; exact ⟨_, hu⟩
      | mh id => exact absurd rfl (hne id)
      | _ => simp [C.nonNil] at hcn
  refine ⟨.bool (op == .neq), ?_, rfl, rfl⟩
  have hev : a.eval (.const n) = n := rfl
  rcases hval with ⟨rfl, ad, hu⟩ | ⟨rfl, b, hu⟩
  · obtain ⟨e, he⟩ : ∃ e, P.underlying t = some (.pointer e) := by
      rcases htt with ⟨h, _⟩ | ⟨_, h⟩
      · exact h
      · cases h
    have heq : (Op.equal t (.pointer (some ad)) (.pointer none)).run P w = .ok false w := by
      show Sem.run P (Op.equalIn (9999 + 1) t _ _) w = _
      unfold Op.equalIn
      simp only [Sem.run_bind, run_underlying he, Result.andThen_ok, Sem.run_pure]
    rcases hop with rfl | rfl <;> simp [execOp, hu, hev, eqGuard, binOp, heq] <;> rfl
  · obtain ⟨k, e, he⟩ : ∃ k e, P.underlying t = some (.map k e) := by
      rcases htt with ⟨_, h⟩ | ⟨h, _⟩
      · cases h
      · exact h
    have heq : (Op.equal t (.map (some b)) (.map none)).run P w = .ok false w := by
      show Sem.run P (Op.equalIn (9999 + 1) t _ _) w = _
      unfold Op.equalIn
      simp only [Sem.run_bind, run_underlying he, Result.andThen_ok, Sem.run_pure]
    rcases hop with rfl | rfl <;> simp [execOp, hu, hev, eqGuard, binOp, heq] <;> rfl
end
/-! ### regions whose order is drawn -/
/-- An operation that puts this into its slot, and does nothing else, whatever the other slots hold. -/
def Oper.Y (P : Program) (N : Nat) (o : Oper) (x : SV) (s : S) : Prop := ∀ s1 : S, s1.ob = s.ob → (∀ y ∈ o.op.operands, s1.ev y = s.ev y) → ∀ K : S → Prop, K (s1.dst o.dst x) → Oper.V P N o s1 K
def wantedS (ops : Array Oper) (o : Oper) (s : S) : Option Bool := match o.guard with
  | none => some true
  | some (g, b) => (guardS ops g s).map (· == b)
def YAt (P : Program) (N : Nat) (ops : Array Oper) (o : Oper) (x : SV) (s : S) : Prop := (wantedS ops o s = some true ∧ Oper.Y P N o x s) ∨ (wantedS ops o s = some false ∧ x = .un)
def yOp (P : Program) (N : Nat) (ops : Array Oper) (i : Nat) (K : S → Prop) (s : S) : Prop := match ops[i]? with
  | none => K s
  | some o => ∃ x, YAt P N ops o x s ∧ K (s.dst o.dst x)
def yAny (P : Program) (N : Nat) (md : Region.Mode) (ops : Array Oper) (Q : S → Prop) : Nat → Array Bool → S → Prop
  | 0, listed, s => Region.ready md ops listed = [] ∧ Q s
  | fuel + 1, listed, s => (Region.ready md ops listed = [] → Q s) ∧ ∀ i ∈ Region.ready md ops listed, yOp P N ops i (yAny P N md ops Q fuel (listed.setIfInBounds i true)) s
def yl (P : Program) (N : Nat) (ops : Array Oper) (Q : S → Prop) : List Oper → S → Prop
  | [], s => Q s
  | o :: rest, s => ∃ x, YAt P N ops o x s ∧ yl P N ops Q rest (s.dst o.dst x)
section
variable {P : Program} {N : Nat} {ops : Array Oper} {md : Region.Mode} {s : S}
theorem put_comm (s : S) {d d' : Nat} (x y : SV) (h : d ≠ d') : (s.put d x).put d' y = (s.put d' y).put d x := by
  unfold S.put
  congr 1
  funext t
  by_cases e1 : t = d' <;> by_cases e2 : t = d <;> simp_all
theorem dst_comm (s : S) {d d' : Option Nat} (x y : SV) (h : ∀ i, d = some i → d' ≠ some i) : (s.dst d x).dst d' y = (s.dst d' y).dst d x := by
  cases d with
  | none => rfl
  | some d =>
    cases d' with
    | none => rfl
    | some d' => exact put_comm s x y fun e => h d rfl (by rw [e])
theorem dst_ob (s : S) (d : Option Nat) (x : SV) : (s.dst d x).ob = s.ob := by cases d <;> rfl
theorem dst_ev {o o' : Oper} (x : SV) (s : S) (h : ∀ d, o.dst = some d → d ∉ o'.looksAt ops) : ∀ y ∈ o'.op.operands, (s.dst o.dst x).ev y = s.ev y := fun y hy => by
  cases hd : o.dst with
  | none => rfl
  | some d =>
    cases y with
    | tmp t =>
      have h1 := h d hd
      simp only [S.dst, S.ev, S.put]
      rw [if_neg]
      rintro rfl
      exact h1 (List.mem_append_left _ (List.mem_filterMap.2 ⟨.tmp t, by simpa using hy, rfl⟩))
    | _ => rfl
theorem dst_wanted {o o' : Oper} (x : SV) (s : S) (h : ∀ d, o.dst = some d → d ∉ o'.looksAt ops) : wantedS ops o' (s.dst o.dst x) = wantedS ops o' s := by
  cases hd : o.dst with
  | none => rfl
  | some d =>
    have h1 := h d hd
    unfold wantedS
    cases hg : o'.guard with
    | none => rfl
    | some gb =>
      obtain ⟨g, b⟩ := gb
      simp only [Oper.looksAt, hg, List.mem_append, not_or] at h1
      have : guardS ops g (s.dst (some d) x) = guardS ops g s := by
        unfold guardS
        cases he : (ops[g]?).bind (·.dst) with
        | none => rfl
        | some d' =>
          have : d' ≠ d := fun e => by
            subst e
            exact h1.2 (by rw [he]; simp)
          simp only [S.dst, S.put, this, if_false]
      simp only [this]
theorem Y_of {o : Oper} {x : SV} (h : Oper.Y P N o x s) {s' : S} (h1 : s'.ob = s.ob) (h2 : ∀ y ∈ o.op.operands, s'.ev y = s.ev y) : Oper.Y P N o x s' := fun s1 e1 e2 K hK => h s1 (e1.trans h1) (fun y hy => (e2 y hy).trans (h2 y hy)) K hK
theorem YAt.put {o o' : Oper} {x y : SV} (h : YAt P N ops o' y s) (hn : ∀ d, o.dst = some d → d ∉ o'.looksAt ops) : YAt P N ops o' y (s.dst o.dst x) := by
  unfold YAt at *
  rw [dst_wanted x s hn]
  exact h.imp (fun ⟨a, b⟩ => ⟨a, Y_of b (dst_ob _ _ _) (dst_ev x s hn)⟩) (fun h => h)
theorem YAt.unput {o o' : Oper} {x y : SV} (h : YAt P N ops o' y (s.dst o.dst x)) (hn : ∀ d, o.dst = some d → d ∉ o'.looksAt ops) : YAt P N ops o' y s := by
  unfold YAt at *
  rw [dst_wanted x s hn] at h
  exact h.imp (fun ⟨a, b⟩ => ⟨a, Y_of b (dst_ob _ _ _).symm (fun z hz => (dst_ev x s hn z hz).symm)⟩) (fun h => h)
theorem yOp_mono {i : Nat} {K K' : S → Prop} (h : ∀ s, K s → K' s) (hh : yOp P N ops i K s) : yOp P N ops i K' s := by
  unfold yOp at *
  split
  · exact h _ (by simpa [*] using hh)
  · rename_i o ho
    simp only [ho] at hh
    obtain ⟨x, h1, h2⟩ := hh
    exact ⟨x, h1, h _ h2⟩
theorem yOp_put {j : Nat} {oi oj : Oper} {v : SV} (hj : ops[j]? = some oj) (hap : oi.apart ops oj = true) {K : S → Prop} (hy : YAt P N ops oi v s) (h : yOp P N ops j K (s.dst oi.dst v)) :
    yOp P N ops j (fun s' => YAt P N ops oi v s' ∧ K (s'.dst oi.dst v)) s := by
  obtain ⟨h1, h2, h3⟩ := Oper.apart_spec hap
  unfold yOp at *
  simp only [hj] at *
  obtain ⟨x, hx, hK⟩ := h
  exact ⟨x, hx.unput h1, hy.put h3, by rw [← dst_comm s v x (fun i hi => h2 i hi)]; exact hK⟩
theorem yAny_first {Q : S → Prop} {i : Nat} {oi : Oper} {v : SV} (hi : ops[i]? = some oi) :
    ∀ (fuel : Nat) (listed : Array Bool) (s : S),
      (∀ j oj, ops[j]? = some oj → j ≠ i → listed.getD j true = false → (∀ e ∈ oj.after, Region.binds md e = true → e.on ≠ i) → oi.apart ops oj = true) →
      i ∈ Region.ready md ops listed → YAt P N ops oi v s →
      yAny P N md ops Q fuel (listed.setIfInBounds i true) (s.dst oi.dst v) → yAny P N md ops Q (fuel + 1) listed s := by
  have qOp : ∀ {s : S} {K : S → Prop}, YAt P N ops oi v s → K (s.dst oi.dst v) → yOp P N ops i K s := fun hy h => by unfold yOp; simp only [hi]; exact ⟨v, hy, h⟩
  intro fuel
  induction fuel with
  | zero =>
    intro listed s _ hr hy H
    refine ⟨fun h => (by rw [h] at hr; cases hr), fun j hj => ?_⟩
    by_cases hji : j = i
    · subst hji; exact qOp hy H
    · have := ready_mono hj hji
      rw [H.1] at this
      cases this
  | succ fuel ih =>
    intro listed s hfree hr hy H
    refine ⟨fun h => (by rw [h] at hr; cases hr), fun j hj => ?_⟩
    by_cases hji : j = i
    · subst hji; exact qOp hy H
    · have h1 := H.2 j (ready_mono hj hji)
      obtain ⟨hjun, oj, hoj, hall⟩ := mem_ready.1 hj
      have hnot : ∀ e ∈ oj.after, Region.binds md e = true → e.on ≠ i := fun e he hb heq => by
        have h1 := hall e he hb
        have h0 := (mem_ready.1 hr).1
        rw [heq] at h1
        rcases Nat.lt_or_ge i listed.size with h' | h'
        · simp [h'] at h0 h1; rw [h0] at h1; cases h1
        · simp [Array.getElem?_eq_none h'] at h1
      have h2 := yOp_put hoj (hfree j oj hoj hji hjun hnot) hy h1
      have hfree' : ∀ k ok, ops[k]? = some ok → k ≠ i → (listed.setIfInBounds j true).getD k true = false →
          (∀ e ∈ ok.after, Region.binds md e = true → e.on ≠ i) → oi.apart ops ok = true := fun k ok hk hki hun hno => by
        refine hfree k ok hk hki ?_ hno
        by_cases hjk : j = k
        · subst hjk; exact hjun
        · rw [getD_set_ne true hjk] at hun; exact hun
      refine yOp_mono (fun s' h3 => ih (listed.setIfInBounds j true) s' hfree' (ready_mono hr (Ne.symm hji)) h3.1 ?_) h2
      rw [Array.setIfInBounds_comm _ _ hji]
      exact h3.2
theorem yAny_lex {Q : S → Prop} : ∀ (l : List Oper) (k : Nat) (listed : Array Bool) (s : S), (∀ j, l[j]? = ops[k + j]?) →
    Region.lexFrom md ops l.length k listed = true → yl P N ops Q l s → yAny P N md ops Q l.length listed s
  | [], _, _, _, _, hB, h => ⟨by simpa [Region.lexFrom] using hB, h⟩
  | o :: l, k, listed, s, hl, hB, h => by
    have h0 : ops[k]? = some o := by simpa using (hl 0).symm
    simp only [List.length_cons, Region.lexFrom, Bool.and_eq_true] at hB
    obtain ⟨⟨hr, hf⟩, hB'⟩ := hB
    obtain ⟨x, hy, hK⟩ := h
    exact yAny_first h0 l.length listed s (Region.free_spec h0 hf) (by simpa using hr) hy
      (yAny_lex l (k + 1) _ _ (fun j => by have := hl (j + 1); simpa [Nat.add_assoc, Nat.add_comm 1 j] using this) hB' hK)
/-- In the model: whatever order. -/
theorem wpAny_of_y {Q : Exit → S → Prop} (hd : ∀ (i : Nat) o, ops[i]? = some o → dstOk N o = true) : ∀ (fuel : Nat) (listed : Array Bool) (s : S), yAny P N md ops (Q .normal) fuel listed s → ∀ (Γ : Fr) (hv : Nat → Value) (F : Nat → Prop) (a : Act) (w : World), Γ.N = N → R Γ hv F s a w →
    wpAny P md ops (fun e a' w' => ∃ hv' F' s', Q e s' ∧ R Γ hv' F' s' a' w') fuel listed a w
  | 0, _, s, h, Γ, hv, F, a, w, hN, hR => ⟨h.1, hv, F, s, h.2, hR⟩
  | fuel + 1, listed, s, h, Γ, hv, F, a, w, hN, hR => by
    refine ⟨fun h0 => ⟨hv, F, s, h.1 h0, hR⟩, fun i hi => ?_⟩
    have h1 := h.2 i hi
    unfold yOp at h1
    unfold wpOp
    split
    · rename_i ho
      simp only [ho] at h1
      exact wpAny_of_y hd fuel _ s h1 Γ hv F a w hN hR
    · rename_i o ho
      simp only [ho] at h1
      obtain ⟨x, hx, hK⟩ := h1
      have hw : ∀ {b : Bool}, wantedS ops o s = some b → Region.wanted o (yielded ops a.tmps) = b := fun {b} e => by
        unfold wantedS at e
        unfold Region.wanted
        cases hg : o.guard with
        | none => rw [hg] at e; simpa using e
        | some gb =>
          obtain ⟨g, b'⟩ := gb
          rw [hg] at e
          obtain ⟨t, ht, e2⟩ := Option.map_eq_some_iff.1 e
          have := guardS_spec ht hR
          simp only [this]
          rw [← e2]
          cases t <;> cases b' <;> rfl
      rcases hx with ⟨hw1, hY⟩ | ⟨hw1, rfl⟩
      · rw [if_pos (hw hw1)]
        refine .inl (Oper.wp_mono (fun a' w' ⟨hv', F', s', h2, h3⟩ => ?_) (hY s rfl (fun _ _ => rfl) (fun s' => s' = s.dst o.dst x) rfl Γ hv F a w hN hR _))
        subst h2
        exact wpAny_of_y hd fuel _ _ hK Γ hv' F' a' w' hN h3
      · rw [if_neg (by rw [hw hw1]; simp)]
        exact wpAny_of_y hd fuel _ _ hK Γ hv F _ w hN (hR.put' (fun d hdd => hN ▸ (dstOk_spec (hd i o ho) d hdd).1) trivial)
theorem V_region_q {id : Nat} {Q : Exit → S → Prop} (hm : P.follows .mixedOrders = true) (hB : Region.lexB .any ops = true) (hd : ops.toList.all (opOk N) = true) (h : yl P N ops (Q .normal) ops.toList s) : Code.V P N (.region id ops true) s Q := fun Γ hv F a w hN hR => by
  simp only [Region.lexB, Bool.and_eq_true] at hB
  have hd' : ∀ (i : Nat) o, ops[i]? = some o → dstOk N o = true := fun i o ho => by
    have h1 := List.all_eq_true.1 hd o (by rw [← Array.getElem?_toList] at ho; exact List.mem_of_getElem? ho)
    simp only [opOk, Bool.and_eq_true] at h1
    exact h1.2
  refine wp_region_any hm ?_
  have h1 := yAny_lex (P := P) (N := N) (md := .any) (Q := Q .normal) ops.toList 0 (Array.replicate ops.size false) s (by simp) (by simpa using hB.2) h
  have h2 := wpAny_of_y (Q := Q) hd' _ _ _ h1 Γ hv F a _ hN (hR.drew)
  simpa using h2
end
/-! ### calls that lend nothing; quiet steps; freezing, opening -/
theorem lift_id {φ : C → C} (h : ∀ c, φ c = c) (c : C) : c.lift φ = c := by
  have : φ = fun c => c := funext h
  subst this
  cases c <;> simp [C.lift]
theorem mapC_id {g : C → C} (h : ∀ c, g c = c) (x : SV) : x.mapC g = x := by
  have e : g = fun c => c := funext h
  subst e
  have h1 : ∀ v : V1, v.mapC (fun c => c) = v := fun v => by cases v <;> simp [V1.mapC]
  cases x with
  | val v => simp [SV.mapC, h1]
  | tup l =>
    have : V1.mapC (fun c => c) = fun v => v := funext h1
    simp [SV.mapC, this]
  | un => rfl
theorem obMapC_id {g : C → C} (h : ∀ c, g c = c) (o : Ob) : o.mapC g = o := by
  have e : g = fun c => c := funext h
  subst e
  cases o <;> simp [Ob.mapC]
theorem back_nil (s : S) (ob' : Nat → Option Ob) : s.back [] [] ob' = s := by
  have hb : badB s [] [] = fun _ => false := by funext i; simp [badB, Ren.at, Ren.inv]
  have hd : ∀ c : C, c.drop0 (fun _ => false) = c := fun c => by cases c <;> simp [C.drop0]
  have hl : ∀ c : C, c.lift (C.drop0 fun _ => false) = c := lift_id hd
  unfold S.back
  rw [hb]
  have h1 : (fun t => (s.sl t).mapC (C.lift (C.drop0 fun _ => false))) = s.sl := funext fun t => mapC_id hl _
  have h2 : (fun i => match Ren.inv [] i with
     | some j => (ob' j).map (Ob.mapC (C.lift (C.ren0 [])))
     | none => if (Ren.at [] i).isSome then none else (s.ob i).map (Ob.mapC (C.lift (C.drop0 fun _ => false)))) = s.ob := by
    funext i
    simp only [Ren.inv, Ren.at, List.find?_nil, Option.map_none, Option.isSome_none, Bool.false_eq_true, if_false]
    have : Ob.mapC (C.lift (C.drop0 fun _ => false)) = fun o => o := funext (obMapC_id hl)
    rw [this]; simp
  exact congr (congrArg S.mk h1) h2
section
variable {P : Program} {N : Nat} {s : S} {K : S → Prop}
/-- A call that lends nothing, and that hands back plain values. -/
theorem call0_V {o : Oper} {c : Operand} {f : Nat} {caps : List C} {xs : List Operand} {tys : Array Nat} {args : List V1} {post : SV → (Nat → Option Ob) → Prop} (k : Nat) (ho : o.op = .call ⟨.value c, xs.toArray, tys⟩)
    (hc : opConstOk o = true) (hd : dstOk N o = true) (hf : bodyOk P f = true) (hfn : s.ev c = .val (.one (.fn f caps))) (hcaps : caps.all C.noFn = true)
    (hargs : s.hand [] k xs caps = args.map .val) (hs : Does P f args (fun _ => none) post)
    (hK : ∀ res ob', post res ob' → K (s.dst o.dst (res.mapC (C.lift (C.ren0 []))))) : Oper.V P N o s K := by
  refine call_V ho hc hd hf hfn hcaps [] [] k hargs rfl (fun p hp => by cases hp) rfl (fun p hp => by cases hp) (post := post) ?_ fun res ob' hp => ⟨(fun p hp => by cases hp), by rw [back_nil]; exact hK res ob' hp⟩
  have : outOb s [] k = fun _ => none := by funext j; simp [outOb, Ren.inv]
  rw [this]
  exact hs
theorem frz_ob {s s1 : S} (h : s1.ob = s.ob) (ln : Nat → Bool) : ∀ (k : Nat) (c : C), c.frz s1 ln k = c.frz s ln k := by
  intro k
  induction k with
  | zero => intro c; cases c <;> rfl
  | succ k ih =>
    have : C.frz s1 ln k = C.frz s ln k := funext ih
    intro c
    cases c <;> simp only [C.frz, h, this]
theorem out0_ob {s s1 : S} (h : s1.ob = s.ob) (ρ : Ren) (k : Nat) : C.out0 s1 ρ k = C.out0 s ρ k := by
  funext c
  cases c <;> simp only [C.out0, frz_ob h]
theorem hand_ob {s s1 : S} (h : s1.ob = s.ob) (ρ : Ren) (k : Nat) {xs : List Operand} (hx : ∀ y ∈ xs, s1.ev y = s.ev y) (caps : List C) : s1.hand ρ k xs caps = s.hand ρ k xs caps := by
  unfold S.hand
  rw [out0_ob h]
  congr 1
  exact List.map_congr_left fun y hy => by rw [hx y hy]
theorem Y_call {o : Oper} {c : Operand} {f : Nat} {caps : List C} {xs : List Operand} {tys : Array Nat} {args : List V1} {post : SV → (Nat → Option Ob) → Prop} {x : SV} (k : Nat) (ho : o.op = .call ⟨.value c, xs.toArray, tys⟩)
    (hok : opOk N o = true) (hf : bodyOk P f = true) (hfn : s.ev c = .val (.one (.fn f caps))) (hcaps : caps.all C.noFn = true)
    (hargs : s.hand [] k xs caps = args.map .val) (hs : Does P f args (fun _ => none) post) (hp : ∀ res ob', post res ob' → res.mapC (C.lift (C.ren0 [])) = x) : Oper.Y P N o x s := fun s1 h1 h2 K hK => by
  simp only [opOk, Bool.and_eq_true] at hok
  refine call0_V k ho hok.1 hok.2 hf (by rw [h2 c (by simp [ho, Op.operands, Call.operands])]; exact hfn) hcaps (by rw [hand_ob h1 [] k (fun y hy => h2 y (by simp [ho, Op.operands, Call.operands]; exact .inr hy)) caps]; exact hargs) hs fun res ob' hpo => by rw [hp res ob' hpo]; exact hK
theorem pureC_same {o : Oper} {s s1 : S} (h2 : ∀ y ∈ o.op.operands, s1.ev y = s.ev y) : pureC P o s1 = pureC P o s := by
  unfold pureC
  split <;> rename_i e <;> simp only [e, Op.operands] at h2 <;> simp at h2 <;> simp [h2]
theorem loadC_same {s s1 : S} (h1 : s1.ob = s.ob) (n : Nat) (x : SV) : s1.loadC n x = s.loadC n x := by
  unfold S.loadC; simp only [h1]
theorem lookC_same {o : Oper} {s s1 : S} (h1 : s1.ob = s.ob) (h2 : ∀ y ∈ o.op.operands, s1.ev y = s.ev y) : lookC P o s1 = lookC P o s := by
  unfold lookC
  split
  · rename_i e; simp only [e, Op.operands] at h2; simp at h2; simp only [h2, loadC_same h1]
  · rename_i e; simp only [e, Op.operands] at h2; simp at h2; simp only [h2]
  · rename_i e; simp only [e, Op.operands] at h2; simp at h2; simp only [h2.1, h2.2, h1]
  · rename_i e; simp only [e, Op.operands] at h2; simp at h2; simp only [h2]
  · rename_i e; simp only [e, Op.operands] at h2; simp at h2; simp only [h2]
  · rename_i c e
    obtain ⟨callee, args, argTypes⟩ := c
    obtain ⟨args⟩ := args
    obtain ⟨argTypes⟩ := argTypes
    simp only
    split
    · simp only [e, Op.operands] at h2
      simp [Call.operands] at h2
      simp only [h2, h1]
    · rfl
  · rfl
theorem Y_pure {o : Oper} {p : Prop} {x : SV} (hok : opOk N o = true) (he : pureC P o s = some (p, x)) (hp : p) : Oper.Y P N o x s := fun s1 _ h2 K hK => by
  simp only [opOk, Bool.and_eq_true] at hok
  exact V_put hok.2 (fun Γ hv F a w hN hR => hR.pure_ok hok.1 ((pureC_same h2).trans he) hp) hK
theorem Y_look {o : Oper} {p : Prop} {x : SV} (hok : opOk N o = true) (he : lookC P o s = some (p, x)) (hp : p) : Oper.Y P N o x s := fun s1 h1 h2 K hK => by
  simp only [opOk, Bool.and_eq_true] at hok
  exact V_put hok.2 (fun Γ hv F a w hN hR => hR.look_ok hok.1 ((lookC_same h1 h2).trans he) hp) hK
/-- At any time an object may be written no more. -/
theorem V_fz {c : Code} {Q : Exit → S → Prop} (id : Nat) (h : Code.V P N c (s.fz id) Q) : Code.V P N c s Q := fun Γ hv F a w hN hR => by
  obtain ⟨F', hR'⟩ := hR.fz_ id
  exact h Γ hv F' a w hN hR'
/-- At any time a row whose room is known may be cut anew. -/
theorem V_resplit {c : Code} {Q : Exit → S → Prop} {id e n : Nat} {z : List C} {xs ys : List (List C)} (ho : s.ob id = some (.row e z xs ys true)) (hn : n ≤ xs.length + ys.length) (h : Code.V P N c (s.cut id e z ((xs ++ ys).take n) ((xs ++ ys).drop n) true) Q) : Code.V P N c s Q := fun Γ hv F a w hN hR => by
  obtain ⟨A, hA⟩ := hR.row_cap ho
  exact h Γ _ F a w hN (hR.cut_ ho hn hA)
end
/-! ### opening the room of a row -/
def chunks {α : Type} (sz : Nat) : Nat → List α → List (List α)
  | 0, _ => []
  | m + 1, l => l.take sz :: chunks sz m (l.drop sz)
theorem chunks_flat {α : Type} {sz : Nat} : ∀ {m : Nat} {l : List α}, l.length = m * sz → (chunks sz m l).flatten = l
  | 0, l, h => by simp at h; subst h; rfl
  | m + 1, l, h => by
    rw [chunks, List.flatten_cons, chunks_flat (by rw [List.length_drop, h, Nat.add_mul]; omega), List.take_append_drop]
theorem chunks_len {α : Type} {sz : Nat} : ∀ {m : Nat} {l : List α}, l.length = m * sz → ∀ y ∈ chunks sz m l, y.length = sz
  | 0, l, h, y, hy => by simp [chunks] at hy
  | m + 1, l, h, y, hy => by
    rw [Nat.add_mul] at h
    rcases List.mem_cons.1 hy with rfl | hy
    · rw [List.length_take]; omega
    · exact chunks_len (by rw [List.length_drop, h]; omega) y hy
theorem chunks_count {α : Type} {sz : Nat} : ∀ {m : Nat} {l : List α}, (chunks sz m l).length = m
  | 0, _ => rfl
  | m + 1, l => by simp [chunks, chunks_count]
theorem chunks_get {α : Type} {sz : Nat} : ∀ {m : Nat} {l : List α} {y : List α}, y ∈ chunks sz m l → ∃ i, ∀ (j : Nat) c, y[j]? = some c → j < sz ∧ l[i * sz + j]? = some c
  | 0, l, y, hy => by simp [chunks] at hy
  | m + 1, l, y, hy => by
    rcases List.mem_cons.1 hy with rfl | hy
    · refine ⟨0, fun j c hc => ?_⟩
      rw [List.getElem?_take] at hc
      split at hc
      · rename_i h; exact ⟨h, by simpa using hc⟩
      · cases hc
    · obtain ⟨i, hi⟩ := chunks_get hy
      refine ⟨i + 1, fun j c hc => ?_⟩
      obtain ⟨h1, h2⟩ := hi j c hc
      rw [List.getElem?_drop] at h2
      exact ⟨h1, by rw [show (i + 1) * sz + j = sz + (i * sz + j) by rw [Nat.add_mul]; omega]; exact h2⟩
theorem kindOk_one {z : C} {v : Value} (h : kindOk z v) : v.oneCell' = true := by
  unfold kindOk at h
  split at h
  · obtain ⟨n, rfl⟩ := h; rfl
  · obtain ⟨n, rfl⟩ := h; rfl
  · obtain ⟨n, rfl⟩ := h; rfl
  · exact h
theorem kindC_of {z : C} {v : Value} (h : kindOk z v) : kindC z (.v v) = true := by
  unfold kindOk at h
  split at h
  · obtain ⟨n, rfl⟩ := h; simp [kindC]
  · obtain ⟨n, rfl⟩ := h; simp [kindC]
  · obtain ⟨n, rfl⟩ := h; simp [kindC]
  · rename_i h1 h2 h3
    unfold kindC
    split <;> simp_all
section
variable {P : Program} {Γ : Fr} {hv : Nat → Value} {F : Nat → Prop} {s : S} {a : Act} {w : World} {N : Nat}
theorem R.open_ (h : R Γ hv F s a w) {id e : Nat} {z : List C} {xs : List (List C)} (ho : s.ob id = some (.row e z xs [] false)) : ∃ ys, (∀ y ∈ ys, y.length = z.length) ∧ kindsC z ys ∧ R Γ hv F (s.setOb id (.row e z xs ys true)) a w := by
  obtain ⟨h0, hall, hex, vals, rest, hat, hd, hr⟩ := h.obs id _ ho
  simp only [Bool.false_eq_true, if_false] at hr
  have hm : ∃ m, rest.length = m * z.length := by
    rcases hat with ⟨_, _, _, e4⟩ | ⟨G, cap, cur, e1, e2, e3, e4, e5, e6, e7⟩
    · exact ⟨0, by simp [e4]⟩
    · refine ⟨cap - xs.length, ?_⟩
      have h2 : cur.toList.length = cap * z.length := by rw [Array.length_toList]; exact e5
      rw [e6, List.length_append, e7] at h2
      rw [Nat.sub_mul]; omega
  obtain ⟨m, hm⟩ := hm
  have hml : (rest.map C.v).length = m * z.length := by simpa using hm
  refine ⟨chunks z.length m (rest.map C.v), chunks_len hml, fun y hy j c hc => ?_, ?_⟩
  · obtain ⟨i, hi⟩ := chunks_get hy
    obtain ⟨h1, h2⟩ := hi j c hc
    rw [List.getElem?_map] at h2
    obtain ⟨v, hv', rfl⟩ := Option.map_eq_some_iff.1 h2
    have h3 := hr _ v hv'
    rw [Nat.mul_comm, Nat.mul_add_mod, Nat.mod_eq_of_lt h1] at h3
    exact kindC_of h3
  · refine h.setOb_ ho (row := hb (hv id)) rfl (World.grownBy.refl w _) ?_
    refine ⟨h0, fun x hx => (List.mem_append.1 hx).elim (fun hx => hall x (List.mem_append_left _ hx)) (chunks_len hml x), (fun e => by cases e), vals, rest, hat, hd, ?_⟩
    simp only [if_true]
    rw [chunks_flat hml]
    refine ⟨by simp, fun j c u hc hu => ?_⟩
    rw [List.getElem?_map, hu] at hc
    cases hc
    exact ⟨rfl, kindOk_one (hr j u hu)⟩
/-- At any time the room of a row may be looked at. -/
theorem V_open {c : Code} {Q : Exit → S → Prop} {id e : Nat} {z : List C} {xs : List (List C)} (ho : s.ob id = some (.row e z xs [] false)) (h : ∀ ys, (∀ y ∈ ys, y.length = z.length) → kindsC z ys → Code.V P N c (s.setOb id (.row e z xs ys true)) Q) : Code.V P N c s Q := fun Γ hv F a w hN hR => by
  obtain ⟨ys, h1, h2, h3⟩ := hR.open_ ho
  exact h ys h1 h2 Γ hv F a w hN h3
end
/-! ### maps whose keys are structs, compared field by field -/
section
variable {P : Program} {k : Nat} {G : Value → Prop}
theorem find_asking (heq : ∀ (w : World) {x y : Value}, G x → G y → ∃ b, (Op.equal k x y).run P w = .ok b w ∧ (b = true ↔ y = x)) (w : World) {x : Value} (hx : G x) : ∀ (es : List MapEntry) (i : Nat), (∀ e ∈ es, G e.key) →
    ((Instr.findAsking k x es i).run P w = .ok none w ∧ ∀ e ∈ es, e.key ≠ x) ∨ ∃ j e, (Instr.findAsking k x es i).run P w = .ok (some (i + j, e.val)) w ∧ es[j]? = some e ∧ e.key = x
  | [], i, _ => .inl ⟨by simp [Instr.findAsking], by simp⟩
  | e :: es, i, h => by
    obtain ⟨b, h1, h2⟩ := heq w hx (h e (by simp))
    cases b
    · have hne : e.key ≠ x := fun e' => by have := h2.2 e'; cases this
      rcases find_asking heq w hx es (i + 1) (fun e' he => h e' (List.mem_cons_of_mem _ he)) with ⟨h3, h4⟩ | ⟨j, e', h3, h4, h5⟩
      · refine .inl ⟨?_, fun e' he => (List.mem_cons.1 he).elim (fun q => q ▸ hne) (h4 e')⟩
        simp only [Instr.findAsking, Sem.run_bind, h1, Result.andThen_ok]
        simpa using h3
      · refine .inr ⟨j + 1, e', ?_, by simpa using h4, h5⟩
        simp only [Instr.findAsking, Sem.run_bind, h1, Result.andThen_ok]
        rw [show i + (j + 1) = i + 1 + j by omega]
        simpa using h3
    · refine .inr ⟨0, e, ?_, rfl, h2.1 rfl⟩
      simp only [Instr.findAsking, Sem.run_bind, h1, Result.andThen_ok]
      simp
theorem KeyB.of_eq {d : TypeDesc} (ht : P.underlying k = some d) (hd : ∀ x y : Value, Instr.sameNow d x y = none) (heq : ∀ (w : World) {x y : Value}, G x → G y → ∃ b, (Op.equal k x y).run P w = .ok b w ∧ (b = true ↔ y = x))
    (hchk : ∀ (w : World) (em : Bool) {v : Value}, G v → (Instr.checkKey em 10000 k v).run P w = .ok () w) (hsame : ∀ {v : Value}, G v → Instr.sameBits 10000 v v = true) : KeyB P k G := by
  refine ⟨hchk, fun w x hx es hes => ?_, fun w v hv => by simp [Instr.keyThatStays, hsame hv]⟩
  cases es with
  | nil => exact .inl ⟨by simp [Instr.findKey, run_underlying ht, Instr.findNow], by simp⟩
  | cons e es =>
    have hrun : (Instr.findKey k x (e :: es)).run P w = (Instr.findAsking k x (e :: es)).run P w := by
      simp [Instr.findKey, run_underlying ht, Instr.findNow, hd]
    rcases find_asking heq w hx (e :: es) 0 hes with ⟨h1, h2⟩ | ⟨j, e', h1, h2⟩
    · exact .inl ⟨hrun.trans h1, h2⟩
    · exact .inr ⟨j, e', by rw [hrun, h1, Nat.zero_add], h2⟩
end
/-! ### the walk of a drawn region, computed -/
def yc (P : Program) (N : Nat) (ops : Array Oper) (Q : S → Prop) : List Oper → S → Prop
  | [], s => Q s
  | o :: rest, s => match wantedS ops o s with
    | some true => (match pureC P o s with
      | some (p, x) => p ∧ yc P N ops Q rest (s.dst o.dst x)
      | none => match lookC P o s with
        | some (p, x) => p ∧ yc P N ops Q rest (s.dst o.dst x)
        | none => ∃ x, Oper.Y P N o x s ∧ yc P N ops Q rest (s.dst o.dst x))
    | some false => yc P N ops Q rest (s.dst o.dst .un)
    | none => False
section
variable {P : Program} {N : Nat} {s : S}
theorem yc_yl {ops : Array Oper} {Q : S → Prop} {l : List Oper} (hl : ∀ o ∈ l, opOk N o = true) : ∀ {s : S}, yc P N ops Q l s → yl P N ops Q l s := by
  induction l with
  | nil => intro s h; exact h
  | cons o rest ih =>
    intro s h
    have ih' := @ih (fun o ho => hl o (List.mem_cons_of_mem _ ho))
    unfold yc at h
    unfold yl
    split at h
    · rename_i hw
      split at h
      · rename_i p x e
        exact ⟨x, .inl ⟨hw, Y_pure (hl o (by simp)) e h.1⟩, ih' h.2⟩
      · split at h
        · rename_i p x e
          exact ⟨x, .inl ⟨hw, Y_look (hl o (by simp)) e h.1⟩, ih' h.2⟩
        · obtain ⟨x, h1, h2⟩ := h
          exact ⟨x, .inl ⟨hw, h1⟩, ih' h2⟩
    · rename_i hw
      exact ⟨.un, .inr ⟨hw, rfl⟩, ih' h⟩
    · exact h.elim
theorem V_regq_k {id : Nat} {ops : Array Oper} {y : Code} {Q : Exit → S → Prop} (hm : P.follows .mixedOrders = true) (hB : Region.lexB .any ops = true) (hd : ops.toList.all (opOk N) = true) (h : ∀ K : S → Prop, (∀ s, Code.V P N y s Q → K s) → yc P N ops K ops.toList s) : Code.V P N (.seq (.region id ops true) y) s Q :=
  V_seq (V_region_q hm hB hd (yc_yl (fun o ho => List.all_eq_true.1 hd o ho) (h _ fun _ h => h)))
end
@[simp] theorem yc_nil (P : Program) (N : Nat) (ops : Array Oper) (Q : S → Prop) (s : S) : yc P N ops Q [] s = Q s := rfl
def goY (P : Program) (N : Nat) (o : Oper) (s : S) (K : S → Prop) : Prop := match pureC P o s with
  | some (p, x) => p ∧ K (s.dst o.dst x)
  | none => match lookC P o s with
    | some (p, x) => p ∧ K (s.dst o.dst x)
    | none => ∃ x, Oper.Y P N o x s ∧ K (s.dst o.dst x)
@[simp] theorem yc_plain (P : Program) (N : Nat) (ops : Array Oper) (Q : S → Prop) (d : Option Nat) (op : Op) (ty : Nat) (ps : String) (af : Array Edge) (rest : List Oper) (s : S) :
    yc P N ops Q (⟨d, op, ty, ps, af, none⟩ :: rest) s = goY P N ⟨d, op, ty, ps, af, none⟩ s (yc P N ops Q rest) := rfl
@[simp] theorem yc_guard (P : Program) (N : Nat) (ops : Array Oper) (Q : S → Prop) (d : Option Nat) (op : Op) (ty : Nat) (ps : String) (af : Array Edge) (g : Nat) (b : Bool) (rest : List Oper) (s : S) :
    yc P N ops Q (⟨d, op, ty, ps, af, some (g, b)⟩ :: rest) s = (match guardS ops g s with
      | some t => if t = b then goY P N ⟨d, op, ty, ps, af, some (g, b)⟩ s (yc P N ops Q rest) else yc P N ops Q rest (s.dst d .un)
      | none => False) := by
  simp only [yc, wantedS]
  cases guardS ops g s with
  | none => rfl
  | some t =>
    simp only [Option.map_some]
    by_cases h : t = b
    · subst h; simp [goY]
    · have : (t == b) = false := by simpa using h
      simp [this, h]
section
variable (P : Program) (N d ty : Nat) (ps : String) (af : Array Edge) (gd : Option (Nat × Bool)) (s : S) (K : S → Prop)
@[simp] theorem goY_move (x : Operand) : goY P N ⟨some d, .move x, ty, ps, af, gd⟩ s K = K (s.put d (s.ev x)) := by simp [goY, pureC]
@[simp] theorem goY_assign (x : Operand) : goY P N ⟨some d, .assign x, ty, ps, af, gd⟩ s K = K (s.put d (s.ev x)) := by simp [goY, pureC]
theorem goY_look {o : Oper} {s : S} {K : S → Prop} (h1 : pureC P o s = none) : goY P N o s K = (match lookC P o s with | some (p, x) => p ∧ K (s.dst o.dst x) | none => ∃ x, Oper.Y P N o x s ∧ K (s.dst o.dst x)) := by simp [goY, h1]
theorem goY_call (c : Operand) (xs : Array Operand) (tys : Array Nat) : goY P N ⟨some d, .call ⟨.value c, xs, tys⟩, ty, ps, af, gd⟩ s K = ∃ x, Oper.Y P N ⟨some d, .call ⟨.value c, xs, tys⟩, ty, ps, af, gd⟩ x s ∧ K (s.put d x) := rfl
end
/-! ### drawn regions: any order that serves -/
def ordFrom (md : Region.Mode) (ops : Array Oper) : List Nat → Array Bool → Bool
  | [], listed => (Region.ready md ops listed).isEmpty
  | i :: is, listed => (Region.ready md ops listed).contains i && Region.free md ops listed i && ordFrom md ops is (listed.setIfInBounds i true)
section
variable {P : Program} {N : Nat} {ops : Array Oper} {md : Region.Mode} {s : S}
theorem yAny_ord {Q : S → Prop} : ∀ (l : List Nat) (listed : Array Bool) (s : S), ordFrom md ops l listed = true → yl P N ops Q (l.filterMap fun i => ops[i]?) s → yAny P N md ops Q l.length listed s
  | [], _, _, hB, h => ⟨by simpa [ordFrom] using hB, h⟩
  | i :: l, listed, s, hB, h => by
    simp only [ordFrom, Bool.and_eq_true] at hB
    obtain ⟨⟨hr, hf⟩, hB'⟩ := hB
    have hr' : i ∈ Region.ready md ops listed := by simpa using hr
    obtain ⟨_, o, h0, _⟩ := mem_ready.1 hr'
    rw [List.filterMap_cons, h0] at h
    obtain ⟨x, hy, hK⟩ := h
    exact yAny_first h0 l.length listed s (Region.free_spec h0 hf) hr' hy (yAny_ord l _ _ hB' hK)
theorem V_regp_k {id : Nat} {y : Code} {Q : Exit → S → Prop} (ord : List Nat) (l : List Oper) (hm : P.follows .mixedOrders = true) (hl : ord.filterMap (fun i => ops[i]?) = l) (hlen : ord.length = ops.size) (hB : ordFrom .any ops ord (Array.replicate ops.size false) = true) (hd : ops.toList.all (opOk N) = true)
    (h : ∀ K : S → Prop, (∀ s, Code.V P N y s Q → K s) → yc P N ops K l s) : Code.V P N (.seq (.region id ops true) y) s Q := by
  have hd' : ∀ (i : Nat) o, ops[i]? = some o → opOk N o = true := fun i o ho => List.all_eq_true.1 hd o (by rw [← Array.getElem?_toList] at ho; exact List.mem_of_getElem? ho)
  refine V_seq fun Γ hv F a w hN hR => wp_region_any hm ?_
  have h0 := h (fun s => Code.V P N y s Q) fun _ h => h
  rw [← hl] at h0
  have h1 := yAny_ord (P := P) (N := N) (md := .any) (Q := fun s => Code.V P N y s Q) ord (Array.replicate ops.size false) s hB (yc_yl (fun o ho => by
    obtain ⟨i, _, hi⟩ := List.mem_filterMap.1 ho
    exact hd' i o hi) h0)
  rw [hlen] at h1
  exact wpAny_of_y (Q := thenS (fun s => Code.V P N y s Q) Q) (fun i o ho => by
    have := hd' i o ho
    simp only [opOk, Bool.and_eq_true] at this
    exact this.2) _ _ _ h1 Γ hv F a _ hN hR.drew
end
/-! ### steps that no world turns -/
section
variable {P : Program} {Γ : Fr} {hv : Nat → Value} {F : Nat → Prop} {s : S} {a : Act} {w : World}
theorem binC_ok2 (P : Program) (w w2 : World) {op : BinOp} {t : Nat} {X Y : Operand} {x y : SV} {u v : Value} {live : Nat → Prop} {okT okP : Nat → Prop} {p : Prop} {c : C} (hx : x.HD hv live w okT okP u) (hy : y.HD hv live w okT okP v)
    (h : binC P op t x y = some (p, c)) (hp : p) : ∃ r, (do eqGuard op t X Y u v; binOp op t u v : Sem Value).run P w2 = .ok r w2 ∧ c = .v r ∧ r.oneCell' = true := by
  unfold binC at h
  split at h
  · obtain rfl := hd_int hx
    obtain rfl := hd_int hy
    obtain ⟨r, h1, h2⟩ := shiftBin_ok P w2 t (k' := _) h hp
    exact ⟨r, by simpa [eqGuard] using h1, h2⟩
  · obtain rfl := hd_int hx
    obtain rfl := hd_int hy
    obtain ⟨r, h1, h2⟩ := shiftBin_ok P w2 t (k' := _) h hp
    exact ⟨r, by simpa [eqGuard] using h1, h2⟩
  · rename_i n1 n2
    obtain rfl := hd_int hx
    obtain rfl := hd_int hy
    split at h
    · rename_i hk
      subst hk
      obtain ⟨r, h1, h2⟩ := intBin_ok P w2 t h hp ⟨fun e => by subst e; simp [intBin] at h, fun e => by subst e; simp [intBin] at h⟩
      refine ⟨r, ?_, h2⟩
      cases op <;> simpa [eqGuard] using h1
    · cases h
  · split at h
    · rename_i hb
      cases h
      obtain rfl := hd_bool hx
      obtain rfl := hd_bool hy
      exact ⟨_, by simp [eqGuard, binOp, eqBool P w2 hb], rfl, rfl⟩
    · cases h
  · split at h
    · rename_i hb
      cases h
      obtain rfl := hd_bool hx
      obtain rfl := hd_bool hy
      exact ⟨_, by simp [eqGuard, binOp, eqBool P w2 hb, bne], rfl, rfl⟩
    · cases h
  · cases h
    obtain rfl := hd_str hx
    obtain rfl := hd_str hy
    exact ⟨_, by simp [eqGuard, binOp, Op.stringOp], rfl, rfl⟩
  · cases h
    obtain rfl := hd_str hx
    obtain rfl := hd_str hy
    exact ⟨_, by simp [eqGuard, binOp, Op.stringOp], rfl, rfl⟩
  · cases h
theorem R.pure_any (h : R Γ hv F s a w) {o : Oper} {p : Prop} {x : SV} (hc : opConstOk o = true) (he : pureC P o s = some (p, x)) (hp : p) :
    ∃ v, (∀ w2, (execOp a.eval o).run P w2 = .ok (.value v) w2) ∧ x.HD hv s.live w (Γ.t F) (Γ.p F) v := by
  have hev : ∀ y ∈ o.op.operands, (s.ev y).HD hv s.live w (Γ.t F) (Γ.p F) (a.eval y) := fun y hy => h.ev y (opConst hc hy)
  unfold pureC at he
  split at he
  · rename_i y e
    cases he
    exact ⟨_, fun _ => by simp [execOp, e], hev _ (by simp [e, Op.operands])⟩
  · rename_i y e
    cases he
    exact ⟨_, fun _ => by simp [execOp, e], hev _ (by simp [e, Op.operands])⟩
  · rename_i c x y e
    split at he
    · rename_i t hcv
      cases he
      have h1 := hev c (by simp [e, Op.operands])
      rw [hcv] at h1
      have h2 := hd_bool h1
      exact ⟨_, fun _ => by simp [execOp, e, h2, asBool], pickV_hd (hev x (by simp [e, Op.operands])) (hev y (by simp [e, Op.operands]))⟩
    · cases he
  · rename_i op t y z t' e
    obtain ⟨pc, hpc, e2⟩ := Option.map_eq_some_iff.1 he
    obtain ⟨rfl, rfl⟩ := Prod.mk.inj e2
    have hb := fun w2 => binC_ok2 P w w2 (X := y) (Y := z) (p := pc.1) (c := pc.2) (hev y (by simp [e, Op.operands])) (hev z (by simp [e, Op.operands])) hpc hp
    obtain ⟨r, _, h2, h3⟩ := hb w
    refine ⟨r, fun w2 => ?_, ?_⟩
    · obtain ⟨r', h1, h2', _⟩ := hb w2
      obtain rfl : r' = r := by rw [h2] at h2'; cases h2'; rfl
      simp only [execOp, e]
      rw [Sem.run_bind, h1]
      rfl
    · rw [h2]
      exact ⟨rfl, h3⟩
  · rename_i t' y e
    split at he
    · rename_i t hcv
      cases he
      have h1 := hev y (by simp [e, Op.operands])
      rw [hcv] at h1
      have h2 := hd_bool h1
      exact ⟨_, fun _ => by simp [execOp, e, h2, Op.unary], ⟨rfl, rfl⟩⟩
    · cases he
  · rename_i t' y e
    split at he
    · rename_i k n hcv
      cases he
      have h1 := hev y (by simp [e, Op.operands])
      rw [hcv] at h1
      have h2 := hd_int h1
      exact ⟨_, fun _ => by simp [execOp, e, h2, Op.unary, Op.intArith], ⟨rfl, rfl⟩⟩
    · cases he
  · rename_i y j e
    split at he
    · rename_i l hcv
      obtain ⟨x1, hx1, e2⟩ := Option.map_eq_some_iff.1 he
      obtain ⟨rfl, rfl⟩ := Prod.mk.inj e2
      have h1 := hev y (by simp [e, Op.operands])
      rw [hcv] at h1
      obtain ⟨us, e3, hl, hp'⟩ := h1
      have hj : j < us.length := by rw [hl]; exact (List.getElem?_eq_some_iff.1 hx1).1
      have hu : us[j]? = some us[j] := List.getElem?_eq_getElem hj
      refine ⟨us[j], fun _ => ?_, hp' j x1 us[j] hx1 hu⟩
      simp [execOp, e, e3, Instr.extract, hj]
    · cases he
  · rename_i y e
    split at he
    · rename_i i sz k o' hcv
      cases he
      have h1 := hev y (by simp [e, Op.operands])
      rw [hcv] at h1
      have h1' := h1
      obtain ⟨_, b, _, hu⟩ := h1
      exact ⟨a.eval y, fun _ => by simp [execOp, e, hu], h1'⟩
    · rename_i t cs hcv
      cases he
      have h1 := hev y (by simp [e, Op.operands])
      rw [hcv] at h1
      obtain ⟨b, o', hu, _⟩ := h.load_fp h1
      exact ⟨a.eval y, fun _ => by simp [execOp, e, hu], h1⟩
    · cases he
  · cases he
theorem R.look_any (h : R Γ hv F s a w) {o : Oper} {p : Prop} {x : SV} (hc : opConstOk o = true) (hnl : ∀ t x, o.op ≠ .load t x) (he : lookC P o s = some (p, x)) (hp : p) :
    ∃ v, (∀ w2, (execOp a.eval o).run P w2 = .ok (.value v) w2) ∧ x.HD hv s.live w (Γ.t F) (Γ.p F) v := by
  have hev : ∀ y ∈ o.op.operands, (s.ev y).HD hv s.live w (Γ.t F) (Γ.p F) (a.eval y) := fun y hy => h.ev y (opConst hc hy)
  unfold lookC at he
  split at he
  · rename_i t x0 e
    exact absurd e (hnl t x0)
  · rename_i t x0 f e
    split at he
    · rename_i off t' hf
      split at he
      · rename_i y hy
        have h1 := hev x0 (by simp [e, Op.operands])
        split at he
        · rename_i id sz i k hx
          cases he
          rw [hx] at h1
          obtain ⟨hl, b, hb1, hu⟩ := h1
          refine ⟨.pointer (some ⟨b, i * sz + k + off, none⟩), fun _ => ?_, hl, b, hb1, by rw [Nat.add_assoc]⟩
          simp only [execOp, e, Sem.run_bind, hu, run_fieldAt' hf hy hp]
          rfl
        · rename_i tg cs hx
          cases he
          rw [hx] at h1
          have h1' : C.Den w (if tg then Γ.t F else Γ.p F) (.fp tg cs) (a.eval x0) := h1
          simp only [C.Den] at h1'
          obtain ⟨b, o', hu, hb1, hcs⟩ := h1'
          refine ⟨.pointer (some ⟨b, o' + off, none⟩), fun _ => ?_, ?_⟩
          · simp only [execOp, e, Sem.run_bind, hu, run_fieldAt' hf hy hp.1]
            rfl
          · show C.Den w (if tg then Γ.t F else Γ.p F) (.fp tg (cs.drop off)) _
            simp only [C.Den]
            exact ⟨b, _, rfl, hb1, hcs.drop off⟩
        · cases he
      · cases he
    · cases he
  · rename_i t x0 ix e
    split at he
    · rename_i el0 hel
      have hu0 := elT_some hel
      split at he
      · rename_i y hy
        split at he
        · rename_i k n hix
          have h2 := hev ix (by simp [e, Op.operands])
          rw [hix] at h2
          have h2 := hd_int h2
          have h1 := hev x0 (by simp [e, Op.operands])
          split at he
          · rename_i id hx
            split at he
            · rename_i e' z xs ys ex hob
              cases he
              obtain ⟨hp0, hp1, hp2⟩ := hp
              rw [hx] at h1
              obtain ⟨hl, hu, _⟩ := h1
              obtain ⟨A, c, ev1, _, hA⟩ := h.row_slice hob
              have hlen : 0 < xs.length := by omega
              rcases hA with rfl | ⟨g, rfl⟩
              · exfalso
                obtain ⟨_, _, _, vals, rest, hf, _⟩ := h.obs id _ hob
                rcases hf with ⟨_, e2, _⟩ | ⟨g, cap, cur, e3, _⟩
                · omega
                · rw [ev1] at e3; cases e3
              · refine ⟨.pointer (some ⟨g, n.toNat * y.sz + 0, none⟩), fun _ => ?_, hl, g, by rw [ev1]; rfl, by rw [hp0]⟩
                simp only [execOp, e, hu, ev1, h2]
                simp [Instr.indexAt, run_underlying hu0, asIntOf, hp1, hp2, run_sizeOf' hy, addr_add]
            · cases he
          · rename_i tg sz xs ys ex hx
            split at he
            · rename_i el hel2
              cases he
              obtain ⟨rfl, hp1⟩ := hp
              rw [hx] at h1
              have h1' : C.Den w (if tg then Γ.t F else Γ.p F) (.sl tg y.sz xs ys ex) (a.eval x0) := h1
              simp only [C.Den] at h1'
              obtain ⟨A, c, hu, hlc, hall, _, hr⟩ := h1'
              have hlt : n.toNat < xs.length := (List.getElem?_eq_some_iff.1 hel2).1
              rcases hr with hr0 | ⟨b, o', rfl, hb1, hr, _⟩
              · simp [(List.append_eq_nil_iff.1 hr0).1] at hlt
              · refine ⟨.pointer (some ⟨b, o' + n.toNat * y.sz, none⟩), fun _ => ?_, ?_⟩
                · have hp2 : n < (xs.length : Int) := by omega
                  simp only [execOp, e, hu, h2]
                  simp [Instr.indexAt, run_underlying hu0, asIntOf, hp1, hp2, run_sizeOf' hy, addr_add]
                · show C.Den w (if tg then Γ.t F else Γ.p F) (.fp tg el) _
                  simp only [C.Den]
                  exact ⟨b, _, rfl, hb1, hr.at_ (fun e he => hall e (List.mem_append_left _ he)) hel2⟩
            · cases he
          · cases he
        · cases he
      · cases he
    · cases he
  · rename_i t x0 f e
    split at he
    · rename_i off t' hf
      split at he
      · rename_i y hy
        have h1 := hev x0 (by simp [e, Op.operands])
        split at he
        · rename_i cs hx
          obtain ⟨v0, hm, e2⟩ := Option.map_eq_some_iff.1 he
          cases e2
          rw [hx] at h1
          obtain ⟨us, hu, hds⟩ := h1
          obtain ⟨fs, fx, hf1, hf2, rfl, rfl⟩ := fldT_some hf
          have hl := hds.1
          have hsl := hds.slice fx.offset y.sz
          unfold mk1 at hm
          split at hm
          · rename_i hagg
            cases hm
            refine ⟨.agg ((us.drop fx.offset).take y.sz).toArray, fun _ => ?_, _, rfl, hsl⟩
            simp only [execOp, e, hu]
            simp [Instr.field, run_underlying hf1, hf2, asAgg, part, run_isAgg' hy, hagg, run_sizeOf' hy]
          · rename_i hagg
            split at hm
            · rename_i c hcs
              cases hm
              rw [hcs] at hsl
              have hl1 : ((us.drop fx.offset).take y.sz).length = 1 := hsl.1
              match hus : (us.drop fx.offset).take y.sz, hl1 with
              | [v], _ =>
                rw [hus] at hsl
                have hv0 : us[fx.offset]? = some v := by
                  have := congrArg (fun l => l[0]?) hus
                  simp only [List.getElem?_take, List.getElem?_drop, List.getElem?_cons_zero, Nat.add_zero] at this
                  split at this
                  · exact this
                  · cases this
                refine ⟨v, fun _ => ?_, hsl.2 0 c v rfl rfl⟩
                simp only [execOp, e, hu]
                simp [Instr.field, run_underlying hf1, hf2, asAgg, part, run_isAgg' hy, hagg, hv0]
            · cases hm
        · cases he
      · cases he
    · cases he
  · rename_i t t' x0 e
    split at he
    · rename_i k k' n hk hx
      cases he
      have h1 := hev x0 (by simp [e, Op.operands])
      rw [hx] at h1
      have h1 := hd_int h1
      obtain ⟨d, hd⟩ := Option.isSome_iff_exists.1 hp
      refine ⟨.int k (k.wrap n), fun _ => ?_, rfl, rfl⟩
      simp only [execOp, e, h1, convert, Sem.run_bind, run_underlying hd, run_underlying (intT_some hk), Result.andThen_ok]
      cases d <;> simp [Conv.intToInt]
    · cases he
  · rename_i c e
    obtain ⟨callee, args, argTypes⟩ := c
    obtain ⟨args⟩ := args
    obtain ⟨argTypes⟩ := argTypes
    simp only at he
    split at he
    · rename_i x0 t
      have h1 := hev x0 (by simp [e, Op.operands, Call.operands])
      split at he
      · rename_i id hx
        split at he
        · rename_i e' z xs ys ex hob
          cases he
          rw [hx] at h1
          obtain ⟨hl, hu, _⟩ := h1
          obtain ⟨A, c, ev1, _, hA⟩ := h.row_slice hob
          obtain ⟨el, hel⟩ := Option.isSome_iff_exists.1 hp
          refine ⟨.int .i64 xs.length, fun _ => ?_, rfl, rfl⟩
          simp [execOp, e, resolve, invoke, builtin, hu, ev1, Builtin.len_, run_underlying (elT_some hel), goInt]
        · cases he
      · rename_i tg sz xs ys ex hx
        cases he
        rw [hx] at h1
        have h1' : C.Den w (if tg then Γ.t F else Γ.p F) (.sl tg sz xs ys ex) (a.eval x0) := h1
        simp only [C.Den] at h1'
        obtain ⟨A, c, hu, _⟩ := h1'
        obtain ⟨el, hel⟩ := Option.isSome_iff_exists.1 hp
        refine ⟨.int .i64 xs.length, fun _ => ?_, rfl, rfl⟩
        simp [execOp, e, resolve, invoke, builtin, hu, Builtin.len_, run_underlying (elT_some hel), goInt]
      · rename_i b hx
        cases he
        rw [hx] at h1
        have h1 := hd_str h1
        refine ⟨.int .i64 b.size, fun _ => ?_, rfl, rfl⟩
        simp [execOp, e, resolve, invoke, builtin, h1, Builtin.len_, run_underlying (isStrT_some hp), goInt]
      · cases he
    · cases he
  · cases he
end
section
/-- An operation that puts this into its slot in whatever world, and does nothing else. -/
def Oper.W (P : Program) (N : Nat) (o : Oper) (x : SV) (s : S) : Prop := ∀ (Γ : Fr) (hv : Nat → Value) (F : Nat → Prop) (a : Act) (w : World), Γ.N = N → R Γ hv F s a w → ∃ v, (∀ w2, (execOp a.eval o).run P w2 = .ok (.value v) w2) ∧ x.HD hv s.live w (Γ.t F) (Γ.p F) v
variable {P : Program} {N d ty : Nat} {ps : String} {af : Array Edge} {gd : Option (Nat × Bool)} {s : S} {K : S → Prop}
theorem V_of_W {o : Oper} {x : SV} (hd : dstOk N o = true) (h : Oper.W P N o x s) (hK : K (s.dst o.dst x)) : Oper.V P N o s K := V_put hd (fun Γ hv F a w hN hR => by
  obtain ⟨v, h1, h2⟩ := h Γ hv F a w hN hR
  exact ⟨v, h1 w, h2⟩) hK
theorem W_cap {x : Operand} {t m : Nat} (hc : opConstOk ⟨some d, .call ⟨.builtin .cap, #[x], #[t]⟩, ty, ps, af, gd⟩ = true) (ht : (elT P t).isSome = true)
    (hx : (∃ id e z xs ys, s.ev x = .val (.one (.own id)) ∧ s.ob id = some (.row e z xs ys true) ∧ m = xs.length + ys.length) ∨ (∃ tg sz xs ys, s.ev x = .val (.one (.sl tg sz xs ys true)) ∧ m = xs.length + ys.length)) : Oper.W P N ⟨some d, .call ⟨.builtin .cap, #[x], #[t]⟩, ty, ps, af, gd⟩ (.val (.one (.v (.int .i64 m)))) s := by
  intro Γ hv F a w hN hR
  obtain ⟨el, hel⟩ := Option.isSome_iff_exists.1 ht
  have h1 := hR.ev x (opConst hc (by simp [Op.operands, Call.operands]))
  obtain ⟨A, n, hu⟩ : ∃ A n, a.eval x = .slice A n m := by
    rcases hx with ⟨id, e, z, xs, ys, e1, e2, rfl⟩ | ⟨tg, sz, xs, ys, e1, rfl⟩
    · rw [e1] at h1
      obtain ⟨A, hA⟩ := hR.row_cap e2
      exact ⟨A, _, h1.2.1.trans hA⟩
    · rw [e1] at h1
      have h2 : C.Den w (if tg then Γ.t F else Γ.p F) (.sl tg sz xs ys true) (a.eval x) := h1
      simp only [C.Den] at h2
      obtain ⟨A, c, hu, _, _, hc', _⟩ := h2
      rw [hc' trivial] at hu
      exact ⟨A, _, hu⟩
  refine ⟨.int .i64 m, fun w2 => ?_, rfl, rfl⟩
  simp [execOp, resolve, invoke, builtin, hu, Builtin.cap_, run_underlying (elT_some hel), goInt]
/-- A frozen slice, cut from the front to 'n'. -/
theorem W_cut_sl {t sz n : Nat} {x hi : Operand} {k : IntKind} {m : Int} {tg ex : Bool} {xs ys : List (List C)} (hc : opConstOk ⟨some d, .slice t x none (some hi) none, ty, ps, af, gd⟩ = true)
    (hx : s.ev x = .val (.one (.sl tg sz xs ys ex))) (hh : s.ev hi = .val (.one (.v (.int k m)))) (hm : m = n) (hn : n ≤ xs.length + ys.length) {e' : Nat} (ht : elT P t = some e') (hy : (tyI P e').isSome = true) : Oper.W P N ⟨some d, .slice t x none (some hi) none, ty, ps, af, gd⟩ (.val (.one (.sl tg sz ((xs ++ ys).take n) ((xs ++ ys).drop n) ex))) s := by
  subst hm
  intro Γ hv F a w hN hR
  obtain ⟨y, hy⟩ := Option.isSome_iff_exists.1 hy
  have h1 := hR.ev x (opConst hc (by simp [Op.operands]))
  have h2 := hR.ev hi (opConst hc (by simp [Op.operands]))
  rw [hx] at h1
  rw [hh] at h2
  have h2 := hd_int h2
  have h3 : C.Den w (if tg then Γ.t F else Γ.p F) (.sl tg sz xs ys ex) (a.eval x) := h1
  simp only [C.Den] at h3
  obtain ⟨A, c, hu, hlc, hall, hcap, hr⟩ := h3
  have hlt : ((xs ++ ys).take n).length = n := by rw [List.length_take, List.length_append]; omega
  refine ⟨.slice A n c, fun w2 => ?_, ?_⟩
  · simp only [execOp, Option.map_some, h2, hu]
    simp [run_cut ht hy (show n ≤ c by omega)]
  · show C.Den w (if tg then Γ.t F else Γ.p F) (.sl tg sz ((xs ++ ys).take n) ((xs ++ ys).drop n) ex) _
    simp only [C.Den]
    refine ⟨A, c, by rw [hlt], by rw [hlt, List.length_drop, List.length_append]; omega, by rw [List.take_append_drop]; exact hall, fun e => by rw [hlt, List.length_drop, List.length_append, hcap e]; omega, ?_⟩
    rw [List.take_append_drop]
    refine hr.imp (fun x => x) ?_
    rintro ⟨b, o, rfl, hb, h4, h5⟩
    obtain ⟨v1, q1, q2⟩ := h4.vals
    obtain ⟨v2, q3, q4⟩ := h5.vals
    have hl1 : v1.length = xs.length * sz := by rw [(dens_iff.1 q2).1, flat_length (fun e he => hall e (List.mem_append_left _ he))]
    have hcell : ∀ (j : Nat) v, (v1 ++ v2)[j]? = some v → w.cell? ⟨b, o + j, none⟩ = some v := fun j v hj => by
      by_cases hjl : j < v1.length
      · rw [List.getElem?_append_left hjl] at hj; exact q1 j v hj
      · rw [List.getElem?_append_right (by omega)] at hj
        have := q3 _ v hj
        rwa [show o + xs.length * sz + (j - v1.length) = o + j by omega] at this
    have hden : Dens w (if tg then Γ.t F else Γ.p F) (xs ++ ys).flatten (v1 ++ v2) := by rw [List.flatten_append]; exact q2.append q4
    refine ⟨b, o, rfl, hb, Rows.mk (vals := (v1 ++ v2).take (n * sz)) (fun j v hj => ?_) ?_, ?_⟩
    · rw [List.getElem?_take] at hj
      split at hj
      · exact hcell j v hj
      · cases hj
    · rw [flat_take n hall]
      have := hden.slice 0 (n * sz)
      simpa using this
    · rw [hlt]
      refine Rows.mk (vals := (v1 ++ v2).drop (n * sz)) (fun j v hj => ?_) ?_
      · rw [List.getElem?_drop] at hj
        have := hcell _ v hj
        rwa [← Nat.add_assoc] at this
      · rw [← flat_drop n hall]
        exact hden.drop_ (n * sz)
theorem W_eqv {op : BinOp} {t u : Nat} {x y : Operand} {va vb r : Value} (hc : opConstOk ⟨some d, .binOp op t x y u, ty, ps, af, gd⟩ = true) (hx : (s.ev x).toV = some va) (hy : (s.ev y).toV = some vb)
    (hrun : ∀ w, (do eqGuard op t x y va vb; binOp op t va vb : Sem Value).run P w = .ok r w) (h1 : r.oneCell' = true) : Oper.W P N ⟨some d, .binOp op t x y u, ty, ps, af, gd⟩ (.val (.one (.v r))) s := by
  intro Γ hv F a w hN hR
  have e1 := toV_hd hx (hR.ev x (opConst hc (by simp [Op.operands])))
  have e2 := toV_hd hy (hR.ev y (opConst hc (by simp [Op.operands])))
  refine ⟨r, fun w2 => ?_, rfl, h1⟩
  have := hrun w2
  rw [← e1, ← e2] at this
  simp only [execOp, Sem.run_bind] at this ⊢
  rw [this]
  rfl
theorem W_nilcmp {op : BinOp} {t u : Nat} {x : Operand} {c : C} {n : Value} (hn : n = .pointer none ∨ n = .map none) (hop : op = .eql ∨ op = .neq) (hc : opConstOk ⟨some d, .binOp op t x (.const n) u, ty, ps, af, gd⟩ = true)
    (hx : s.ev x = .val (.one c)) (hcn : c.nonNil = true) (hmp : (∃ id, c = .mh id ∧ ∃ es, s.ob id = some (.mp es)) ∧ n = .map none ∨ (∀ id, c ≠ .mh id) ∧ n = .pointer none) (htt : (∃ e, P.underlying t = some (.pointer e)) ∧ n = .pointer none ∨ (∃ k e, P.underlying t = some (.map k e)) ∧ n = .map none) : Oper.W P N ⟨some d, .binOp op t x (.const n) u, ty, ps, af, gd⟩ (.val (.one (vb (op == .neq)))) s := by
  intro Γ hv F a w hN hR
  have e1 := hR.ev x (opConst hc (by simp [Op.operands]))
  rw [hx] at e1
  have hval : (n = .pointer none ∧ ∃ ad, a.eval x = .pointer (some ad)) ∨ (n = .map none ∧ ∃ b, a.eval x = .map (some b)) := by
    rcases hmp with ⟨⟨id, rfl, es, hes⟩, e⟩ | ⟨hne, e⟩
    · obtain ⟨b, _, _, m1, _⟩ := hR.map_at hes
      exact .inr ⟨e, b, e1.2.1.trans m1⟩
    · refine .inl ⟨e, ?_⟩
      cases c with
      | ptr i sz k o => obtain ⟨_, b, _, hu⟩ := e1; exact ⟨_, hu⟩
      | fp t cs => obtain ⟨b, o, hu, _⟩ := hR.load_fp e1; exact ⟨_, hu⟩
      | mh id => exact absurd rfl (hne id)
      | _ => simp [C.nonNil] at hcn
  refine ⟨.bool (op == .neq), fun w2 => ?_, rfl, rfl⟩
  have hev : a.eval (.const n) = n := rfl
  rcases hval with ⟨rfl, ad, hu⟩ | ⟨rfl, b, hu⟩
  · obtain ⟨e, he⟩ : ∃ e, P.underlying t = some (.pointer e) := by
      rcases htt with ⟨h, _⟩ | ⟨_, h⟩
      · exact h
      · cases h
    have heq : (Op.equal t (.pointer (some ad)) (.pointer none)).run P w2 = .ok false w2 := by
      show Sem.run P (Op.equalIn (9999 + 1) t _ _) w2 = _
      unfold Op.equalIn
      simp only [Sem.run_bind, run_underlying he, Result.andThen_ok, Sem.run_pure]
    rcases hop with rfl | rfl <;> simp [execOp, hu, hev, eqGuard, binOp, heq] <;> rfl
  · obtain ⟨k, e, he⟩ : ∃ k e, P.underlying t = some (.map k e) := by
      rcases htt with ⟨_, h⟩ | ⟨h, _⟩
      · cases h
      · exact h
    have heq : (Op.equal t (.map (some b)) (.map none)).run P w2 = .ok false w2 := by
      show Sem.run P (Op.equalIn (9999 + 1) t _ _) w2 = _
      unfold Op.equalIn
      simp only [Sem.run_bind, run_underlying he, Result.andThen_ok, Sem.run_pure]
    rcases hop with rfl | rfl <;> simp [execOp, hu, hev, eqGuard, binOp, heq] <;> rfl
end
/-! ### a step seen from where it begins: what is only read stays as it is -/
section
variable {hv : Nat → Value} {live : Nat → Prop} {w w' : World} {okT okP okT' okP' : Nat → Prop}
theorem Keeps.hd0 (k : Keeps w w' okT okP okT' okP') {c : C} {u : Value} (h : C.HD0 hv live w okT okP c u) : C.HD0 hv live w' okT' okP' c u := by
  cases c with
  | v x => exact h
  | sl t sz xs ys ex => exact k.den (t := t) h
  | fp t cs => exact k.den (t := t) h
  | fn f caps => exact C.Den.mono k.p (fun b hb => k.blk b (k.pt b hb)) _ _ h
  | own id => exact h
  | ptr id sz i off => exact h
  | mh id => exact h
  | un => exact h
theorem Keeps.hd (k : Keeps w w' okT okP okT' okP') {c : C} {u : Value} (h : C.HD hv live w okT okP c u) : C.HD hv live w' okT' okP' c u := by
  have := C.HD.lift (φ := fun c => c) (fun c u h => k.hd0 h) (fun c h => h) h
  rwa [lift_id (fun _ => rfl)] at this
theorem Keeps.sv (k : Keeps w w' okT okP okT' okP') {x : SV} {u : Value} (h : x.HD hv live w okT okP u) : x.HD hv live w' okT' okP' u := by
  have := SV.HD.mapC (g := fun c => c) (fun c u h => k.hd h) h
  rwa [mapC_id (fun _ => rfl)] at this
theorem Keeps.ob (k : Keeps w w' okT okP okT' okP') {o : Ob} {i : Nat} (hb' : ∀ b, hb (hv i) = some b → w'.heap[b]? = w.heap[b]?) (h : o.HD hv live w okT okP i) : o.HD hv live w' okT' okP' i := by
  have := Ob.HD.mapC (g := fun c => c) (fun c u h => k.hd h) rfl hb' h
  rwa [obMapC_id (fun _ => rfl)] at this
end
section
variable {Γ : Fr} {hv hv' : Nat → Value} {F F' : Nat → Prop} {s s' : S} {a a' : Act} {w w' : World}
/-- The blocks of objects. -/
def obB (hv : Nat → Value) (s : S) (b : Nat) : Prop := ∃ id o, s.ob id = some o ∧ hb (hv id) = some b
def Fr.from (Γ : Fr) (F : Nat → Prop) (hv : Nat → Value) (s : S) (w : World) : Fr := { w0 := w, L := obB hv s, Po := Γ.p F, K := Γ.K, N := Γ.N }
theorem R.not_ob (h : R Γ hv F s a w) {b : Nat} (hb' : Γ.t F b) : b < w.heap.size ∧ ¬ obB hv s b := ⟨h.t_lt hb', fun ⟨id, o, h0, h1⟩ => h.t_ne h0 hb' h1 rfl⟩
theorem R.keeps_from (h : R Γ hv F s a w) : Keeps w w (Γ.t F) (Γ.p F) ((Γ.from F hv s w).t fun _ => False) ((Γ.from F hv s w).p fun _ => False) :=
  ⟨fun b hb' => .inl (h.not_ob hb'), fun b hb' => .inl hb', h.pt, fun _ _ => rfl⟩
theorem R.rebase (h : R Γ hv F s a w) : R (Γ.from F hv s w) hv (fun _ => False) s a w where
  away := Away.refl _ w
  lo := fun b ⟨id, o, h0, h1⟩ => (h.blk id o b h0 h1).2.1
  po := fun b hb' => h.not_ob (h.pt b hb')
  fz := fun _ hf => hf.elim
  defers := h.defers
  size := h.size
  slots := fun t => h.keeps_from.sv (h.slots t)
  obs := fun id o h0 => h.keeps_from.ob (fun _ _ => rfl) (h.obs id o h0)
  blk := fun id o b h0 h1 => ⟨.inr ⟨id, o, h0, h1⟩, (h.blk id o b h0 h1).2.1, fun hf => hf⟩
  disj := h.disj
  pin := h.pin
  pins := h.pins
/-- What is frozen behind a step. -/
def Fr.after (Γ : Fr) (hv : Nat → Value) (s : S) (w : World) (F' : Nat → Prop) (b : Nat) : Prop := Γ.mine b ∧ ((b < w.heap.size ∧ ¬ obB hv s b) ∨ F' b)
theorem R.keeps_after (h : R Γ hv F s a w) (h' : R (Γ.from F hv s w) hv' F' s' a' w') : Keeps w' w' ((Γ.from F hv s w).t F') ((Γ.from F hv s w).p F') (Γ.t (Γ.after hv s w F')) (Γ.p (Γ.after hv s w F')) := by
  have hmine : ∀ b, F' b → Γ.mine b := fun b hf => (h'.fz b hf).1.elim (fun x => .inl (Nat.le_trans h.away.size x)) (fun ⟨id, o, h0, h1⟩ => (h.blk id o b h0 h1).1)
  refine ⟨fun b hb' => ?_, fun b hb' => ?_, h'.pt, fun _ _ => rfl⟩
  · by_cases hm : Γ.mine b
    · exact .inr ⟨hm, hb'⟩
    · refine .inl ⟨?_, fun hL => hm (.inr hL)⟩
      rcases Nat.lt_or_ge b Γ.w0.heap.size with hlt | hge
      · exact hlt
      · exact absurd (.inl hge) hm
  · rcases hb' with hb' | hb'
    · rcases hb' with hb' | hb'
      · exact .inl hb'
      · exact .inr ⟨(h.fz b hb').1, .inl (h.not_ob (.inr hb'))⟩
    · exact .inr ⟨hmine b hb', .inr hb'⟩
theorem R.unbase (h : R Γ hv F s a w) (h' : R (Γ.from F hv s w) hv' F' s' a' w') : R Γ hv' (Γ.after hv s w F') s' a' w' where
  away := by
    have hx : Away (fun b => obB hv s b) w w' := h'.away
    exact ⟨hx.os.trans h.away.os, hx.tape.trans h.away.tape, hx.output.trans h.away.output, Nat.le_trans h.away.size hx.size, fun b hb' hL => by
      refine (hx.block b (Nat.lt_of_lt_of_le hb' h.away.size) fun ⟨id, o, h0, h1⟩ => ?_).trans (h.away.block b hb' hL)
      exact (h.blk id o b h0 h1).1.elim (fun x => by omega) hL⟩
  lo := h.lo
  po := h.po
  fz := fun b hf => by
    refine ⟨hf.1, ?_⟩
    rcases hf.2 with h1 | h1
    · exact Nat.lt_of_lt_of_le h1.1 h'.away.size
    · exact (h'.fz b h1).2
  defers := h'.defers
  size := h'.size
  slots := fun t => (h.keeps_after h').sv (h'.slots t)
  obs := fun id o h0 => (h.keeps_after h').ob (fun _ _ => rfl) (h'.obs id o h0)
  blk := fun id o b h0 h1 => by
    obtain ⟨q1, q2, q3⟩ := h'.blk id o b h0 h1
    refine ⟨?_, q2, fun hf => ?_⟩
    · exact q1.elim (fun x => .inl (Nat.le_trans h.away.size x)) (fun ⟨id, o, h0, h1⟩ => (h.blk id o b h0 h1).1)
    · rcases hf.2 with h2 | h2
      · exact q1.elim (fun x => absurd h2.1 (Nat.not_lt.2 x)) h2.2
      · exact q3 h2
  disj := h'.disj
  pin := h'.pin
  pins := h'.pins
/-- A step leaves what is read as it is, and what was frozen stays frozen. -/
theorem V_stable {P : Program} {N : Nat} {o : Oper} {K : S → Prop} (hV : Oper.V P N o s K) (hN : Γ.N = N) (h : R Γ hv F s a w) (Q : Exit → Act → World → Prop) :
    Oper.wp P o a w (fun a' w' => ∃ hv' F' s', K s' ∧ R Γ hv' F' s' a' w' ∧ (∀ b, Γ.t F b → w'.heap[b]? = w.heap[b]?) ∧ ∀ b, Γ.t F b → Γ.t F' b) Q := by
  refine Oper.wp_mono (fun a' w' ⟨hv', F', s', h1, h2⟩ => ?_) (hV (Γ.from F hv s w) hv (fun _ => False) a w hN h.rebase Q)
  refine ⟨hv', _, s', h1, h.unbase h2, fun b hb' => ?_, fun b hb' => (h.keeps_after h2).t b (.inl (h.not_ob hb'))⟩
  have hx : Away (fun b => obB hv s b) w w' := h2.away
  exact hx.block b (h.not_ob hb').1 (h.not_ob hb').2
end
section
variable {P : Program} {Γ : Fr} {hv : Nat → Value} {F : Nat → Prop} {s : S} {a : Act} {w : World}
/-- A load of what is only read gives the same at any later time. -/
theorem R.load_later (h : R Γ hv F s a w) {o : Oper} {t : Nat} {x : Operand} (e : o.op = .load t x) (hc : opConstOk o = true) {tg : Bool} {cs : List C} (hx : s.ev x = .val (.one (.fp tg cs))) {p : Prop} {sv : SV} (he : lookC P o s = some (p, sv)) :
    ∃ v, (∀ w2 : World, (∀ b, Γ.t F b → w2.heap[b]? = w.heap[b]?) → (execOp a.eval o).run P w2 = .ok (.value v) w2) ∧ sv.HD hv s.live w (Γ.t F) (Γ.p F) v := by
  have hu := h.ev x (opConst hc (by simp [e, Op.operands]))
  rw [hx] at hu
  unfold lookC at he
  simp only [e, hx] at he
  split at he
  · rename_i y hy
    split at he
    · rename_i cs1 hl
      obtain ⟨v0, hm, e2⟩ := Option.map_eq_some_iff.1 he
      cases e2
      unfold S.loadC at hl
      simp only at hl
      split at hl
      · rename_i hn
        cases hl
        have hu' : C.Den w (if tg then Γ.t F else Γ.p F) (.fp tg cs) (a.eval x) := hu
        simp only [C.Den] at hu'
        obtain ⟨b, o', hax, hb1, hcs⟩ := hu'
        have hbt : Γ.t F b := by cases tg with
          | true => exact hb1
          | false => exact h.pt b hb1
        obtain ⟨us, h1, h2⟩ := Cells.get hcs
        have h2' := (dens_iff.1 h2).1
        have h3 : HDs hv s.live w (Γ.t F) (Γ.p F) (cs.map (C.rt tg)) us := Dens.rt h.pt h2
        have hl1 : (us.take y.sz).length = y.sz := by rw [List.length_take, h2']; omega
        have hcell : ∀ w2 : World, (∀ b, Γ.t F b → w2.heap[b]? = w.heap[b]?) → ∀ (j : Nat) v, (us.take y.sz)[j]? = some v → w2.cell? ⟨b, o' + j, none⟩ = some v := fun w2 hw j v hj => by
          rw [List.getElem?_take] at hj
          split at hj
          · rw [World.cell?_of_block (w := w) (a := ⟨b, o' + j, none⟩) (hw b hbt)]
            exact h1 j v hj
          · cases hj
        have hrun := fun w2 hw => run_loadVar_cells (P := P) (w := w2) hy hl1 (hcell w2 hw)
        have hds := h3.slice 0 y.sz
        simp only [List.drop_zero, ← List.map_take] at hds
        unfold mk1 at hm
        split at hm
        · rename_i ha
          cases hm
          exact ⟨_, fun w2 hw => by
            have := hrun w2 hw
            rw [if_pos ha] at this
            simp only [execOp, e, Sem.run_bind, hax, this]
            rfl, us.take y.sz, rfl, hds⟩
        · rename_i ha
          split at hm
          · rename_i c hcc
            cases hm
            rw [hcc] at hds
            have h1' : (us.take y.sz).length = 1 := hds.1
            match hus : us.take y.sz, h1' with
            | [v], _ =>
              rw [hus] at hds
              refine ⟨v, fun w2 hw => ?_, hds.2 0 c v rfl rfl⟩
              have := hrun w2 hw
              rw [if_neg ha, hus] at this
              simp only [execOp, e, Sem.run_bind, hax, this]
              rfl
          · cases hm
      · cases hl
    · cases he
  · cases he
end
/-! ### drawn regions whose operations turn the world: a tree of orders -/
/-- 'early': a load of what is only read, ahead of all that turns the world; 'hoist': a step that no world turns, put ahead of the others; 'alt': each of those that may come next. -/
inductive Tr where
  | done
  | hoist (i : Nat) (t : Tr)
  | early (i : Nat) (t : Tr)
  | alt (i : Nat) (t r : Tr)
  | nil
def Tr.ids : Tr → List Nat
  | .alt i _ r => i :: r.ids
  | _ => []
def calmB (ops : Array Oper) (i : Nat) : Bool := match ops[i]? with
  | some o => match o.op with
    | .load .. => false
    | _ => true
  | none => false
mutual
def Tr.chk (md : Region.Mode) (ops : Array Oper) : Bool → Nat → Tr → Array Bool → Bool
  | _, _, .done, l => (Region.ready md ops l).isEmpty
  | _, 0, .hoist .., _ => false
  | e, n + 1, .hoist i t, l => (Region.ready md ops l).contains i && Region.free md ops l i && calmB ops i && Tr.chk md ops e n t (l.setIfInBounds i true)
  | _, 0, .early .., _ => false
  | e, n + 1, .early i t, l => e && (Region.ready md ops l).contains i && Region.free md ops l i && Tr.chk md ops e n t (l.setIfInBounds i true)
  | _, 0, .alt .., _ => false
  | _, n + 1, .alt i t r, l => (Region.ready md ops l == i :: r.ids) && Tr.chk md ops false n t (l.setIfInBounds i true) && Tr.chkA md ops n r l
  | _, _, .nil, _ => false
def Tr.chkA (md : Region.Mode) (ops : Array Oper) : Nat → Tr → Array Bool → Bool
  | n, .alt i t r, l => Tr.chk md ops false n t (l.setIfInBounds i true) && Tr.chkA md ops n r l
  | _, .nil, _ => true
  | _, _, _ => false
end
def goH (P : Program) (N : Nat) (o : Oper) (s : S) (K : S → Prop) : Prop := match pureC P o s with
  | some (p, x) => p ∧ K (s.dst o.dst x)
  | none => match lookC P o s with
    | some (p, x) => p ∧ K (s.dst o.dst x)
    | none => ∃ x, Oper.W P N o x s ∧ K (s.dst o.dst x)
def goE (P : Program) (o : Oper) (s : S) (K : S → Prop) : Prop := match o.op with
  | .load _ x => (∃ tg cs, s.ev x = .val (.one (.fp tg cs))) ∧ match lookC P o s with
    | some (p, v) => p ∧ K (s.dst o.dst v)
    | none => False
  | _ => False
def vt (P : Program) (N : Nat) (ops : Array Oper) (Q : S → Prop) : Tr → S → Prop
  | .done, s => Q s
  | .hoist i t, s => match ops[i]? with
    | some o => match o.guard with
      | none => goH P N o s (vt P N ops Q t)
      | some (g, b) => match guardS ops g s with
        | some x => if x = b then goH P N o s (vt P N ops Q t) else vt P N ops Q t (s.dst o.dst .un)
        | none => False
    | none => False
  | .early i t, s => match ops[i]? with
    | some o => match o.guard with
      | none => goE P o s (vt P N ops Q t)
      | some (g, b) => match guardS ops g s with
        | some x => if x = b then goE P o s (vt P N ops Q t) else vt P N ops Q t (s.dst o.dst .un)
        | none => False
    | none => False
  | .alt i t r, s => (match ops[i]? with
    | some o => match o.guard with
      | none => vo P N o s (vt P N ops Q t)
      | some (g, b) => match guardS ops g s with
        | some x => if x = b then vo P N o s (vt P N ops Q t) else vt P N ops Q t (s.dst o.dst .un)
        | none => False
    | none => False) ∧ vt P N ops Q r s
  | .nil, _ => True
section
variable {P : Program} {N : Nat} {ops : Array Oper} {md : Region.Mode}
/-- What a region's end asks: nothing of a panic. -/
def endS (Γ : Fr) (Q : S → Prop) (e : Exit) (a : Act) (w : World) : Prop := e = .normal ∧ ∃ hv F s, Q s ∧ R Γ hv F s a w
theorem wanted_of {o : Oper} {s : S} {Γ : Fr} {hv : Nat → Value} {F : Nat → Prop} {a : Act} {w : World} (hR : R Γ hv F s a w) {K1 K2 : Prop} (h : match o.guard with
      | none => K1
      | some (g, b) => match guardS ops g s with
        | some x => if x = b then K1 else K2
        | none => False) : (Region.wanted o (yielded ops a.tmps) = true ∧ K1) ∨ (Region.wanted o (yielded ops a.tmps) = false ∧ K2) := by
  split at h
  · rename_i hg
    exact .inl ⟨by simp [Region.wanted, hg], h⟩
  · rename_i g b hg
    split at h
    · rename_i x hx
      have hy := guardS_spec hx hR
      split at h
      · rename_i e
        exact .inl ⟨by simp [Region.wanted, hg, hy, e], h⟩
      · rename_i e
        exact .inr ⟨by simp [Region.wanted, hg, hy, e], h⟩
    · exact h.elim
theorem vt_sound {Q : S → Prop} (hsel : ∀ (j : Nat) (o : Oper) cs b, ops[j]? = some o → o.op ≠ .select cs b) (hok : ∀ (i : Nat) o, ops[i]? = some o → opOk N o = true) (Γ : Fr) (hN : Γ.N = N) (T0 : Nat → Prop) (w0 : World) : ∀ (t : Tr) (n : Nat) (l : Array Bool),
    (∀ e, Tr.chk md ops e n t l = true → ∀ (s : S), vt P N ops Q t s → ∀ (hv : Nat → Value) (F : Nat → Prop) (a : Act) (w : World), R Γ hv F s a w → (∀ b, T0 b → w.heap[b]? = w0.heap[b]?) → (∀ b, T0 b → Γ.t F b) → (e = true → ∀ b, Γ.t F b → T0 b) → wpAnyH P md ops (endS Γ Q) (fun w2 => ∀ b, T0 b → w2.heap[b]? = w0.heap[b]?) n l a w) ∧
    (Tr.chkA md ops n t l = true → ∀ (s : S), vt P N ops Q t s → ∀ (hv : Nat → Value) (F : Nat → Prop) (a : Act) (w : World), R Γ hv F s a w → (∀ b, T0 b → w.heap[b]? = w0.heap[b]?) → (∀ b, T0 b → Γ.t F b) → ∀ i ∈ t.ids, wpOp P ops (endS Γ Q) i (fun a' w' => (∀ b, T0 b → w'.heap[b]? = w0.heap[b]?) ∧ wpAnyH P md ops (endS Γ Q) (fun w2 => ∀ b, T0 b → w2.heap[b]? = w0.heap[b]?) n (l.setIfInBounds i true) a' w') a w) := by
  have one : ∀ (i : Nat) (t : Tr) (n : Nat) (l : Array Bool) (s : S), (∀ (s : S), vt P N ops Q t s → ∀ (hv : Nat → Value) (F : Nat → Prop) (a : Act) (w : World), R Γ hv F s a w → (∀ b, T0 b → w.heap[b]? = w0.heap[b]?) → (∀ b, T0 b → Γ.t F b) → wpAnyH P md ops (endS Γ Q) (fun w2 => ∀ b, T0 b → w2.heap[b]? = w0.heap[b]?) n l a w) →
      (match ops[i]? with
        | some o => match o.guard with
          | none => vo P N o s (vt P N ops Q t)
          | some (g, b) => match guardS ops g s with
            | some x => if x = b then vo P N o s (vt P N ops Q t) else vt P N ops Q t (s.dst o.dst .un)
            | none => False
        | none => False) → ∀ (hv : Nat → Value) (F : Nat → Prop) (a : Act) (w : World), R Γ hv F s a w → (∀ b, T0 b → w.heap[b]? = w0.heap[b]?) → (∀ b, T0 b → Γ.t F b) → wpOp P ops (endS Γ Q) i (fun a' w' => (∀ b, T0 b → w'.heap[b]? = w0.heap[b]?) ∧ wpAnyH P md ops (endS Γ Q) (fun w2 => ∀ b, T0 b → w2.heap[b]? = w0.heap[b]?) n l a' w') a w := fun i t n l s ih h hv F a w hR hS hT => by
    unfold wpOp
    split at h
    · rename_i o ho
      simp only [ho]
      have hoo := hok i o ho
      rcases wanted_of hR h with ⟨hw, hV⟩ | ⟨hw, hV⟩
      · rw [if_pos hw]
        have h1 := V_stable (vo_sound hoo hV) hN hR (endS Γ Q)
        exact .inl (Oper.wp_mono (fun a' w' ⟨hv', F', s', h2, h3, h4, h5⟩ => by
          have hS' : ∀ b, T0 b → w'.heap[b]? = w0.heap[b]? := fun b hb => (h4 b (hT b hb)).trans (hS b hb)
          exact ⟨hS', ih s' h2 hv' F' a' w' h3 hS' fun b hb => h5 b (hT b hb)⟩) h1)
      · rw [if_neg (by simp [hw])]
        simp only [opOk, Bool.and_eq_true] at hoo
        exact ⟨hS, ih _ hV hv F _ w (hR.put' (fun i hi => hN ▸ (dstOk_spec hoo.2 i hi).1) trivial) hS hT⟩
    · exact h.elim
  intro t
  induction t with
  | done =>
    intro n l
    refine ⟨fun e hc s h hv F a w hR hS hT _ => ?_, fun hc => by unfold Tr.chkA at hc; cases hc⟩
    have hr : Region.ready md ops l = [] := by
      cases n <;> (unfold Tr.chk at hc; simpa using hc)
    exact wpAnyH_done hr ⟨rfl, hv, F, s, h, hR⟩ n
  | nil =>
    intro n l
    refine ⟨fun e hc => ?_, fun _ s _ hv F a w _ _ _ i hi => by cases hi⟩
    cases n <;> (unfold Tr.chk at hc; cases hc)
  | hoist i t ih =>
    intro n l
    refine ⟨fun e hc s h hv F a w hR hS hT hE => ?_, fun hc => by cases n <;> (unfold Tr.chkA at hc; cases hc)⟩
    cases n with
    | zero => unfold Tr.chk at hc; cases hc
    | succ n =>
      unfold Tr.chk at hc
      simp only [Bool.and_eq_true] at hc
      obtain ⟨⟨⟨hr, hf⟩, hcm⟩, hc⟩ := hc
      have hr' : i ∈ Region.ready md ops l := by simpa using hr
      unfold vt at h
      split at h
      · rename_i o ho
        have hoo := hok i o ho
        have hoo' := hoo
        simp only [opOk, Bool.and_eq_true] at hoo'
        have fin : ∀ v, Yields P ops o v a → ∀ x : SV, x.HD hv s.live w (Γ.t F) (Γ.p F) v → vt P N ops Q t (s.dst o.dst x) → wpAnyH P md ops (endS Γ Q) (fun w2 => ∀ b, T0 b → w2.heap[b]? = w0.heap[b]?) (n + 1) l a w := fun v hy x hx hV => by
          refine wpAnyH_first ho hsel (fun c a w he => by cases he.1) n l a w (Region.free_spec ho hf) hr' hy.yieldsIf hS ?_
          exact (ih n (l.setIfInBounds i true)).1 e hc _ hV hv F _ w (hR.put' (fun i hi => hN ▸ (dstOk_spec hoo'.2 i hi).1) hx) hS hT hE
        rcases wanted_of hR h with ⟨hw, hV⟩ | ⟨hw, hV⟩
        · unfold goH at hV
          split at hV
          · rename_i p x e
            obtain ⟨v, h1, h2⟩ := hR.pure_any hoo'.1 e hV.1
            exact fin v (.inl ⟨hw, h1⟩) x h2 hV.2
          · split at hV
            · rename_i p x e
              have hnl : ∀ t x, o.op ≠ .load t x := fun t x e => by simp [calmB, ho, e] at hcm
              obtain ⟨v, h1, h2⟩ := hR.look_any hoo'.1 hnl e hV.1
              exact fin v (.inl ⟨hw, h1⟩) x h2 hV.2
            · obtain ⟨x, hW, hV⟩ := hV
              obtain ⟨v, h1, h2⟩ := hW Γ hv F a w hN hR
              exact fin v (.inl ⟨hw, h1⟩) x h2 hV
        · exact fin undef (.inr ⟨hw, rfl⟩) .un trivial hV
      · exact h.elim
  | early i t ih =>
    intro n l
    refine ⟨fun e hc s h hv F a w hR hS hT hE => ?_, fun hc => by cases n <;> (unfold Tr.chkA at hc; cases hc)⟩
    cases n with
    | zero => unfold Tr.chk at hc; cases hc
    | succ n =>
      unfold Tr.chk at hc
      simp only [Bool.and_eq_true] at hc
      obtain ⟨⟨⟨he, hr⟩, hf⟩, hc⟩ := hc
      have hr' : i ∈ Region.ready md ops l := by simpa using hr
      unfold vt at h
      split at h
      · rename_i o ho
        have hoo := hok i o ho
        have hoo' := hoo
        simp only [opOk, Bool.and_eq_true] at hoo'
        have fin : ∀ v, YieldsIf P ops (fun w2 => ∀ b, T0 b → w2.heap[b]? = w0.heap[b]?) o v a → ∀ x : SV, x.HD hv s.live w (Γ.t F) (Γ.p F) v → vt P N ops Q t (s.dst o.dst x) → wpAnyH P md ops (endS Γ Q) (fun w2 => ∀ b, T0 b → w2.heap[b]? = w0.heap[b]?) (n + 1) l a w := fun v hy x hx hV => by
          refine wpAnyH_first ho hsel (fun c a w he => by cases he.1) n l a w (Region.free_spec ho hf) hr' hy hS ?_
          exact (ih n (l.setIfInBounds i true)).1 e hc _ hV hv F _ w (hR.put' (fun i hi => hN ▸ (dstOk_spec hoo'.2 i hi).1) hx) hS hT hE
        rcases wanted_of hR h with ⟨hw, hV⟩ | ⟨hw, hV⟩
        · unfold goE at hV
          split at hV
          · rename_i ty x eop
            obtain ⟨⟨tg, cs, hx⟩, hV⟩ := hV
            split at hV
            · rename_i p v ev
              obtain ⟨v', h1, h2⟩ := hR.load_later eop hoo'.1 hx ev
              exact fin v' (.inl ⟨hw, fun w2 hw2 => h1 w2 fun b hb => (hw2 b (hE he b hb)).trans (hS b (hE he b hb)).symm⟩) v h2 hV.2
            · exact hV.elim
          · exact hV.elim
        · exact fin undef (.inr ⟨hw, rfl⟩) .un trivial hV
      · exact h.elim
  | alt i t r iht ihr =>
    intro n l
    refine ⟨fun e hc s h hv F a w hR hS hT _ => ?_, fun hc s h hv F a w hR hS hT j hj => ?_⟩
    · cases n with
      | zero => unfold Tr.chk at hc; cases hc
      | succ n =>
        unfold Tr.chk at hc
        simp only [Bool.and_eq_true] at hc
        obtain ⟨⟨hr, hc1⟩, hc2⟩ := hc
        have hr' : Region.ready md ops l = i :: r.ids := by simpa using hr
        unfold vt at h
        refine wpAnyH_all hr' (by simp) fun j hj => ?_
        rcases List.mem_cons.1 hj with rfl | hj
        · exact one j t n _ s (fun s hs hv F a w hR hS hT => (iht n (l.setIfInBounds j true)).1 false hc1 s hs hv F a w hR hS hT (fun h => by cases h)) h.1 hv F a w hR hS hT
        · exact (ihr n l).2 hc2 s h.2 hv F a w hR hS hT j hj
    · unfold Tr.chkA at hc
      simp only [Bool.and_eq_true] at hc
      obtain ⟨hc1, hc2⟩ := hc
      unfold vt at h
      rcases List.mem_cons.1 hj with rfl | hj
      · exact one j t n _ s (fun s hs hv F a w hR hS hT => (iht n (l.setIfInBounds j true)).1 false hc1 s hs hv F a w hR hS hT (fun h => by cases h)) h.1 hv F a w hR hS hT
      · exact (ihr n l).2 hc2 s h.2 hv F a w hR hS hT j hj
/-- The tree, its operations written out. -/
inductive TrO where
  | done
  | hoist (o : Oper) (t : TrO)
  | early (o : Oper) (t : TrO)
  | alt (o : Oper) (t r : TrO)
  | nil
def Tr.lit (ops : Array Oper) : Tr → TrO
  | .done => .done
  | .hoist i t => match ops.toList[i]? with
    | some o => .hoist o (t.lit ops)
    | none => .nil
  | .early i t => match ops.toList[i]? with
    | some o => .early o (t.lit ops)
    | none => .nil
  | .alt i t r => match ops.toList[i]? with
    | some o => .alt o (t.lit ops) (r.lit ops)
    | none => .nil
  | .nil => .nil
def vto (P : Program) (N : Nat) (ops : Array Oper) (Q : S → Prop) : TrO → S → Prop
  | .done, s => Q s
  | .hoist o t, s => match o.guard with
      | none => goH P N o s (vto P N ops Q t)
      | some (g, b) => match guardS ops g s with
        | some x => if x = b then goH P N o s (vto P N ops Q t) else vto P N ops Q t (s.dst o.dst .un)
        | none => False
  | .early o t, s => match o.guard with
      | none => goE P o s (vto P N ops Q t)
      | some (g, b) => match guardS ops g s with
        | some x => if x = b then goE P o s (vto P N ops Q t) else vto P N ops Q t (s.dst o.dst .un)
        | none => False
  | .alt o t r, s => (match o.guard with
      | none => vo P N o s (vto P N ops Q t)
      | some (g, b) => match guardS ops g s with
        | some x => if x = b then vo P N o s (vto P N ops Q t) else vto P N ops Q t (s.dst o.dst .un)
        | none => False) ∧ vto P N ops Q r s
  | .nil, _ => True
/-- Are all places there? -/
def Tr.ins (n : Nat) : Tr → Bool
  | .done => true
  | .hoist i t => decide (i < n) && t.ins n
  | .early i t => decide (i < n) && t.ins n
  | .alt i t r => decide (i < n) && t.ins n && r.ins n
  | .nil => true
theorem vto_vt {Q : S → Prop} : ∀ {t : Tr}, t.ins ops.size = true → vto P N ops Q (t.lit ops) = vt P N ops Q t
  | .done, _ => by funext s; rfl
  | .nil, _ => by funext s; rfl
  | .hoist i t, h => by
    simp only [Tr.ins, Bool.and_eq_true, decide_eq_true_eq] at h
    have hi : ops[i]? = some ops[i] := Array.getElem?_eq_getElem h.1
    have hl : ops.toList[i]? = some ops[i] := by rw [Array.getElem?_toList]; exact hi
    have ih := vto_vt (Q := Q) h.2
    funext s
    simp only [Tr.lit, hl, vto, vt, hi, ih]
  | .early i t, h => by
    simp only [Tr.ins, Bool.and_eq_true, decide_eq_true_eq] at h
    have hi : ops[i]? = some ops[i] := Array.getElem?_eq_getElem h.1
    have hl : ops.toList[i]? = some ops[i] := by rw [Array.getElem?_toList]; exact hi
    have ih := vto_vt (Q := Q) h.2
    funext s
    simp only [Tr.lit, hl, vto, vt, hi, ih]
  | .alt i t r, h => by
    simp only [Tr.ins, Bool.and_eq_true, decide_eq_true_eq] at h
    have hi : ops[i]? = some ops[i] := Array.getElem?_eq_getElem h.1.1
    have hl : ops.toList[i]? = some ops[i] := by rw [Array.getElem?_toList]; exact hi
    have ih := vto_vt (Q := Q) h.1.2
    have ih2 := vto_vt (Q := Q) h.2
    funext s
    simp only [Tr.lit, hl, vto, vt, hi, ih, ih2]
theorem V_regt_k {id : Nat} {y : Code} {s : S} {Q : Exit → S → Prop} (t : Tr) {l : TrO} (hm : P.follows .mixedOrders = true) (hB : (Tr.chk .any ops true ops.size t (Array.replicate ops.size false) && t.ins ops.size) = true) (hsel : Region.noSelect ops = true) (hd : ops.toList.all (opOk N) = true) (hl : t.lit ops = l)
    (h : ∀ K : S → Prop, (∀ s, Code.V P N y s Q → K s) → vto P N ops K l s) : Code.V P N (.seq (.region id ops true) y) s Q := by
  have hd' : ∀ (i : Nat) o, ops[i]? = some o → opOk N o = true := fun i o ho => List.all_eq_true.1 hd o (by rw [← Array.getElem?_toList] at ho; exact List.mem_of_getElem? ho)
  simp only [Bool.and_eq_true] at hB
  refine V_seq fun Γ hv F a w hN hR => ?_
  have h0 := (vt_sound (P := P) (N := N) (ops := ops) (md := .any) (fun j o cs b ho => Region.noSelect_spec hsel j o cs b ho) hd' Γ hN (Γ.t F) w t ops.size (Array.replicate ops.size false)).1 true hB.1 s (by rw [← vto_vt hB.2, hl]; exact h (fun s => Code.V P N y s Q) fun _ h => h) hv F a _ hR.drew (fun _ _ => rfl) (fun _ h => h) (fun _ _ h => h)
  exact wp_mono (wp_region_held hm h0) fun e a' w' ⟨he, hv', F', s', h1, h2⟩ => by subst he; exact ⟨hv', F', s', h1, h2⟩
theorem V_regt_e {id : Nat} {s : S} {Q : Exit → S → Prop} (t : Tr) {l : TrO} (hm : P.follows .mixedOrders = true) (hB : (Tr.chk .any ops true ops.size t (Array.replicate ops.size false) && t.ins ops.size) = true) (hsel : Region.noSelect ops = true) (hd : ops.toList.all (opOk N) = true) (hl : t.lit ops = l)
    (h : ∀ K : S → Prop, (∀ s, Q .normal s → K s) → vto P N ops K l s) : Code.V P N (.region id ops true) s Q := by
  have hd' : ∀ (i : Nat) o, ops[i]? = some o → opOk N o = true := fun i o ho => List.all_eq_true.1 hd o (by rw [← Array.getElem?_toList] at ho; exact List.mem_of_getElem? ho)
  intro Γ hv F a w hN hR
  simp only [Bool.and_eq_true] at hB
  have h0 := (vt_sound (P := P) (N := N) (ops := ops) (md := .any) (fun j o cs b ho => Region.noSelect_spec hsel j o cs b ho) hd' Γ hN (Γ.t F) w t ops.size (Array.replicate ops.size false)).1 true hB.1 s (by rw [← vto_vt hB.2, hl]; exact h (fun s => Q .normal s) fun _ h => h) hv F a _ hR.drew (fun _ _ => rfl) (fun _ h => h) (fun _ _ h => h)
  exact wp_mono (wp_region_held hm h0) fun e a' w' ⟨he, hv', F', s', h1, h2⟩ => by subst he; exact ⟨hv', F', s', h1, h2⟩
end
/-! ### simp lemmas for trees and calls -/
section
variable (P : Program) (N : Nat) (ops : Array Oper) (Q : S → Prop) (d : Option Nat) (op : Op) (ty : Nat) (ps : String) (af : Array Edge) (g : Nat) (b : Bool) (t r : TrO) (s : S)
@[simp] theorem vto_done : vto P N ops Q .done s = Q s := rfl
@[simp] theorem vto_nil : vto P N ops Q .nil s = True := rfl
@[simp] theorem vto_hoist : vto P N ops Q (.hoist ⟨d, op, ty, ps, af, none⟩ t) s = goH P N ⟨d, op, ty, ps, af, none⟩ s (vto P N ops Q t) := rfl
@[simp] theorem vto_hoist_g : vto P N ops Q (.hoist ⟨d, op, ty, ps, af, some (g, b)⟩ t) s = match guardS ops g s with
        | some x => if x = b then goH P N ⟨d, op, ty, ps, af, some (g, b)⟩ s (vto P N ops Q t) else vto P N ops Q t (s.dst d .un)
        | none => False := rfl
@[simp] theorem vto_early : vto P N ops Q (.early ⟨d, op, ty, ps, af, none⟩ t) s = goE P ⟨d, op, ty, ps, af, none⟩ s (vto P N ops Q t) := rfl
@[simp] theorem vto_early_g : vto P N ops Q (.early ⟨d, op, ty, ps, af, some (g, b)⟩ t) s = match guardS ops g s with
        | some x => if x = b then goE P ⟨d, op, ty, ps, af, some (g, b)⟩ s (vto P N ops Q t) else vto P N ops Q t (s.dst d .un)
        | none => False := rfl
@[simp] theorem goE_load (dd : Nat) (K : S → Prop) (gd : Option (Nat × Bool)) (ty' : Nat) (x : Operand) : goE P ⟨some dd, .load ty' x, ty, ps, af, gd⟩ s K = ((∃ tg cs, s.ev x = .val (.one (.fp tg cs))) ∧ goP (some dd) s K (match tyI P ty' with
    | some y => match s.loadC y.sz (s.ev x) with
      | some cs => (mk1 y.agg cs).map fun v => (True, v)
      | none => none
    | none => none)) := by
  simp only [goE]
  congr 1
@[simp] theorem vto_alt : vto P N ops Q (.alt ⟨d, op, ty, ps, af, none⟩ t r) s = (vo P N ⟨d, op, ty, ps, af, none⟩ s (vto P N ops Q t) ∧ vto P N ops Q r s) := rfl
@[simp] theorem vto_alt_g : vto P N ops Q (.alt ⟨d, op, ty, ps, af, some (g, b)⟩ t r) s = ((match guardS ops g s with
        | some x => if x = b then vo P N ⟨d, op, ty, ps, af, some (g, b)⟩ s (vto P N ops Q t) else vto P N ops Q t (s.dst d .un)
        | none => False) ∧ vto P N ops Q r s) := rfl
end
@[simp] theorem binC_agg (P : Program) (op : BinOp) (t : Nat) (cs : List C) (y : SV) : binC P op t (.val (.agg cs)) y = none := by unfold binC; split <;> simp_all
section
variable (P : Program) (N d ty : Nat) (ps : String) (af : Array Edge) (gd : Option (Nat × Bool)) (s : S) (K : S → Prop)
@[simp] theorem goH_move (x : Operand) : goH P N ⟨some d, .move x, ty, ps, af, gd⟩ s K = K (s.put d (s.ev x)) := by simp [goH, pureC, S.dst]
@[simp] theorem goH_assign (x : Operand) : goH P N ⟨some d, .assign x, ty, ps, af, gd⟩ s K = K (s.put d (s.ev x)) := by simp [goH, pureC, S.dst]
def goW (P : Program) (N : Nat) (o : Oper) (s : S) (K : S → Prop) : Option (Prop × SV) → Prop
  | some (p, x) => p ∧ K (s.dst o.dst x)
  | none => ∃ x, Oper.W P N o x s ∧ K (s.dst o.dst x)
@[simp] theorem goW_some (o : Oper) (p : Prop) (x : SV) : goW P N o s K (some (p, x)) = (p ∧ K (s.dst o.dst x)) := rfl
@[simp] theorem goW_none (o : Oper) : goW P N o s K none = ∃ x, Oper.W P N o x s ∧ K (s.dst o.dst x) := rfl
theorem goH_p {o : Oper} (h : lookC P o s = none) : goH P N o s K = goW P N o s K (pureC P o s) := by unfold goH; simp only [h]; cases pureC P o s <;> rfl
theorem goH_l {o : Oper} (h : pureC P o s = none) : goH P N o s K = goW P N o s K (lookC P o s) := by unfold goH; simp only [h]; cases lookC P o s <;> rfl
@[simp] theorem goH_bin (op : BinOp) (t u : Nat) (x y : Operand) : goH P N ⟨some d, .binOp op t x y u, ty, ps, af, gd⟩ s K = goW P N ⟨some d, .binOp op t x y u, ty, ps, af, gd⟩ s K ((binC P op t (s.ev x) (s.ev y)).map fun pc => (pc.1, .val (.one pc.2))) := goH_p P N s K rfl
@[simp] theorem goH_pick (c x y : Operand) : goH P N ⟨some d, .pick c x y, ty, ps, af, gd⟩ s K = goW P N ⟨some d, .pick c x y, ty, ps, af, gd⟩ s K (match s.ev c with | .val (.one (.v (.bool t))) => some (True, pickV t (s.ev x) (s.ev y)) | _ => none) := goH_p P N s K rfl
@[simp] theorem goH_not (t : Nat) (x : Operand) : goH P N ⟨some d, .unOp .not t x, ty, ps, af, gd⟩ s K = goW P N ⟨some d, .unOp .not t x, ty, ps, af, gd⟩ s K (match s.ev x with | .val (.one (.v (.bool t))) => some (True, .val (.one (.v (.bool !t)))) | _ => none) := goH_p P N s K rfl
@[simp] theorem goH_neg (t : Nat) (x : Operand) : goH P N ⟨some d, .unOp .neg t x, ty, ps, af, gd⟩ s K = goW P N ⟨some d, .unOp .neg t x, ty, ps, af, gd⟩ s K (match s.ev x with | .val (.one (.v (.int k n))) => some (True, .val (.one (.v (.int k (k.wrap (0 - n)))))) | _ => none) := goH_p P N s K rfl
@[simp] theorem goH_extract (x : Operand) (j : Nat) : goH P N ⟨some d, .extract x j, ty, ps, af, gd⟩ s K = goW P N ⟨some d, .extract x j, ty, ps, af, gd⟩ s K (match s.ev x with | .tup l => (l[j]?).map fun v => (True, .val v) | _ => none) := goH_p P N s K rfl
@[simp] theorem goH_nilCheck (x : Operand) : goH P N ⟨some d, .nilCheck x, ty, ps, af, gd⟩ s K = goW P N ⟨some d, .nilCheck x, ty, ps, af, gd⟩ s K (match s.ev x with | .val (.one (.ptr i sz k o)) => some (True, .val (.one (.ptr i sz k o))) | .val (.one (.fp t cs)) => some (True, .val (.one (.fp t cs))) | _ => none) := goH_p P N s K rfl
@[simp] theorem goH_fieldAddr (t : Nat) (x : Operand) (f : Nat) : goH P N ⟨some d, .fieldAddr t x f, ty, ps, af, gd⟩ s K = goW P N ⟨some d, .fieldAddr t x f, ty, ps, af, gd⟩ s K (match fldT P t f with
    | some (off, t') => match tyI P t' with
      | some y => match s.ev x with
        | .val (.one (.ptr id sz i k)) => some (y.sz ≠ 0, .val (.one (.ptr id sz i (k + off))))
        | .val (.one (.fp tg cs)) => some (y.sz ≠ 0 ∧ off ≤ cs.length, .val (.one (.fp tg (cs.drop off))))
        | _ => none
      | none => none
    | none => none) := goH_l P N s K rfl
@[simp] theorem goH_indexAddr (t : Nat) (x ix : Operand) : goH P N ⟨some d, .indexAddr t x ix, ty, ps, af, gd⟩ s K = goW P N ⟨some d, .indexAddr t x ix, ty, ps, af, gd⟩ s K (match elT P t with
    | some e => match tyI P e with
      | some y => match s.ev ix with
        | .val (.one (.v (.int _ n))) => match s.ev x with
          | .val (.one (.own id)) => match s.ob id with
            | some (.row _ z xs _ _) => some (z.length = y.sz ∧ 0 ≤ n ∧ n < xs.length, .val (.one (.ptr id z.length n.toNat 0)))
            | _ => none
          | .val (.one (.sl tg sz xs _ _)) => match xs[n.toNat]? with
            | some el => some (sz = y.sz ∧ 0 ≤ n, .val (.one (.fp tg el)))
            | none => none
          | _ => none
        | _ => none
      | none => none
    | none => none) := goH_l P N s K rfl
@[simp] theorem goH_field (t : Nat) (x : Operand) (f : Nat) : goH P N ⟨some d, .field t x f, ty, ps, af, gd⟩ s K = goW P N ⟨some d, .field t x f, ty, ps, af, gd⟩ s K (match fldT P t f with
    | some (off, t') => match tyI P t' with
      | some y => match s.ev x with
        | .val (.agg cs) => (mk1 y.agg ((cs.drop off).take y.sz)).map fun v => (off + y.sz ≤ cs.length, v)
        | _ => none
      | none => none
    | none => none) := goH_l P N s K rfl
@[simp] theorem goH_convert (t t' : Nat) (x : Operand) : goH P N ⟨some d, .convert t t' x, ty, ps, af, gd⟩ s K = goW P N ⟨some d, .convert t t' x, ty, ps, af, gd⟩ s K (match intT P t', s.ev x with
    | some k, .val (.one (.v (.int _ n))) => some ((P.underlying t).isSome = true, .val (.one (.v (.int k (k.wrap n)))))
    | _, _ => none) := goH_l P N s K rfl
@[simp] theorem goH_len (x : Operand) (t : Nat) : goH P N ⟨some d, .call ⟨.builtin .len, #[x], #[t]⟩, ty, ps, af, gd⟩ s K = goW P N ⟨some d, .call ⟨.builtin .len, #[x], #[t]⟩, ty, ps, af, gd⟩ s K (match s.ev x with
      | .val (.one (.own id)) => match s.ob id with
        | some (.row _ _ xs _ _) => some ((elT P t).isSome = true, .val (.one (.v (.int .i64 xs.length))))
        | _ => none
      | .val (.one (.sl _ _ xs _ _)) => some ((elT P t).isSome = true, .val (.one (.v (.int .i64 xs.length))))
      | .val (.one (.v (.string b))) => some (isStrT P t = true, .val (.one (.v (.int .i64 b.size))))
      | _ => none) := goH_l P N s K rfl
@[simp] theorem goH_load (t : Nat) (x : Operand) : goH P N ⟨some d, .load t x, ty, ps, af, gd⟩ s K = goW P N ⟨some d, .load t x, ty, ps, af, gd⟩ s K (match tyI P t with
    | some y => match s.loadC y.sz (s.ev x) with
      | some cs => (mk1 y.agg cs).map fun v => (True, v)
      | none => none
    | none => none) := goH_l P N s K rfl
@[simp] theorem goH_cap (x : Operand) (t : Nat) : goH P N ⟨some d, .call ⟨.builtin .cap, #[x], #[t]⟩, ty, ps, af, gd⟩ s K = ∃ v, Oper.W P N ⟨some d, .call ⟨.builtin .cap, #[x], #[t]⟩, ty, ps, af, gd⟩ v s ∧ K (s.put d v) := rfl
@[simp] theorem goH_slice (t : Nat) (x : Operand) (l h m : Option Operand) : goH P N ⟨some d, .slice t x l h m, ty, ps, af, gd⟩ s K = ∃ v, Oper.W P N ⟨some d, .slice t x l h m, ty, ps, af, gd⟩ v s ∧ K (s.put d v) := rfl
end
@[simp] theorem back_sl (s : S) (ρ μ : Ren) (ob' : Nat → Option Ob) (t : Nat) : (s.back ρ μ ob').sl t = (s.sl t).mapC (C.lift (C.drop0 (badB s ρ μ))) := rfl
theorem back_ob (s : S) (ρ μ : Ren) (ob' : Nat → Option Ob) (i : Nat) : (s.back ρ μ ob').ob i = match μ.inv i with
    | some j => (ob' j).map (Ob.mapC (C.lift (C.ren0 μ)))
    | none => if (ρ.at i).isSome then none else (s.ob i).map (Ob.mapC (C.lift (C.drop0 (badB s ρ μ)))) := rfl
section
variable {P : Program} {N : Nat} {o : Oper} {s : S} {K : S → Prop}
/-- A call that lends nothing and hands back one row of its own. -/
theorem call1_V {c : Operand} {f : Nat} {caps : List C} {xs : List Operand} {tys : Array Nat} {args : List V1} {post : SV → (Nat → Option Ob) → Prop} (k d j : Nat) (hd1 : d < 1000) (ho : o.op = .call ⟨.value c, xs.toArray, tys⟩)
    (hc : opConstOk o = true) (hd : dstOk N o = true) (hf : bodyOk P f = true) (hfn : s.ev c = .val (.one (.fn f caps))) (hcaps : caps.all C.noFn = true)
    (hargs : s.hand [] k xs caps = args.map .val) (hs : Does P f args (fun _ => none) post)
    (hK : ∀ res ob', post res ob' → K ((s.back [] [(j, d)] ob').dst o.dst (res.mapC (C.lift (C.ren0 [(j, d)]))))) : Oper.V P N o s K := by
  refine call_V ho hc hd hf hfn hcaps [] [(j, d)] k hargs rfl (fun p hp => by cases hp) (by simp [Ren.ok]) (fun p hp => .inl (by simp at hp; subst hp; exact hd1)) (post := post) ?_ fun res ob' hp => ⟨(fun p hp => by cases hp), hK res ob' hp⟩
  have : outOb s [] k = fun _ => none := by funext j; simp [outOb, Ren.inv]
  rw [this]
  exact hs
end
/-! ### struct values whose zero fields are spelt out; nil slices in boxes -/
def zeroV (P : Program) (t : Nat) : Option (List C) :=
  match P.info? t with
  | some i => match i.zero with
    | some z => if z.cells.toList.all (·.oneCell') then some (z.cells.toList.map .v) else none
    | none => none
  | none => none
theorem zeroV_some {P : Program} {t : Nat} {cs : List C} (h : zeroV P t = some cs) : ∃ i z, P.info? t = some i ∧ i.zero = some z ∧ cs = z.cells.toList.map .v ∧ ∀ v ∈ z.cells.toList, v.oneCell' = true := by
  unfold zeroV at h
  split at h
  · rename_i i hi
    split at h
    · rename_i z hz
      split at h
      · rename_i ha
        cases h
        exact ⟨i, z, hi, hz, rfl, fun v hv => List.all_eq_true.1 ha v hv⟩
      · cases h
    · cases h
  · cases h
theorem hds_plain {hv : Nat → Value} {live : Nat → Prop} {w : World} {okT okP : Nat → Prop} {l : List Value} (h : ∀ v ∈ l, v.oneCell' = true) : HDs hv live w okT okP (l.map .v) l :=
  ⟨by simp, fun j c u hc hu => by
    rw [List.getElem?_map] at hc
    rw [hu] at hc
    cases hc
    exact ⟨rfl, h u (List.mem_of_getElem? hu)⟩⟩
section
variable {P : Program} {N d ty : Nat} {ps : String} {af : Array Edge} {gd : Option (Nat × Bool)} {s : S} {K : S → Prop}
theorem V_buildV {t : Nat} {parts : Array (Nat × Operand)} {z cs : List C} (hc : opConstOk ⟨some d, .build t parts, ty, ps, af, gd⟩ = true) (hd : dstOk N ⟨some d, .build t parts, ty, ps, af, gd⟩ = true) (hz : zeroV P t = some z) (hf : fieldsOk P t = true) (hb : bldC P t s parts.toList z = some cs)
    (hK : K (s.put d (.val (.agg cs)))) : Oper.V P N ⟨some d, .build t parts, ty, ps, af, gd⟩ s K := by
  refine V_put hd (fun Γ hv F a w hN hR => ?_) hK
  obtain ⟨i, zv, hi, hz1, rfl, hz3⟩ := zeroV_some hz
  unfold fieldsOk at hf
  split at hf
  · rename_i fs ht
    obtain ⟨r, h1, h2⟩ := hR.bld (P := P) ht (cells := zv.cells) hb (fun p hp v hv => opConst hc (x := p.2) (by simp only [Op.operands]; simp; exact ⟨p.1, by simpa using hp⟩) v hv) (hds_plain hz3)
    refine ⟨.agg r, ?_, r.toList, rfl, h2⟩
    have hpl := run_places (P := P) (w := w) (l := fs.toList) fun f hf' => List.all_eq_true.1 hf f hf'
    have hparts : (parts.map fun (i, x) => (i, a.eval x)).toList = parts.toList.map fun p => (p.1, a.eval p.2) := by simp
    simp only [execOp, Instr.build, Sem.run_bind, zeroValue, typeInfo, run_program, Result.andThen_ok, hi, hz1, Sem.run_pure, run_underlying ht]
    rw [Array.mapM_eq_mapM_toList]
    simp only [Sem.run_bind, map_eq_pure_bind]
    rw [hpl]
    simp only [Result.andThen_ok, Sem.run_pure, hparts, h1]
  · cases hf
end
section
variable {Γ : Fr} {hv : Nat → Value} {F : Nat → Prop} {s : S} {a : Act} {w : World}
theorem R.nilbox (h : R Γ hv F s a w) {k j id t e : Nat} {cs z : List C} (ho : s.ob k = some (.box t cs)) (hj : cs[j]? = some (.v (.slice none 0 0))) (hid : id < 1000) (hn : s.ob id = none) (hz : 0 < z.length) :
    ∃ hv', R Γ hv' F ((s.setOb id (.row e z [] [] true)).setOb k (.box t (cs.set j (.own id)))) a w := by
  have hkd : Γ.K id = none := by
    cases hk : Γ.K id with
    | none => rfl
    | some v => have := (h.pins id v hk).1; omega
  have hne : k ≠ id := fun e => by subst e; rw [hn] at ho; cases ho
  have h2 := h.new (id := id) (o := .row e z [] [] true) (v := .slice none 0 0) hn hkd ⟨hz, by simp, fun e => rfl, [], [], .inl ⟨by simp, rfl, rfl, rfl⟩, ⟨rfl, fun j c u hc => by simp at hc⟩, ⟨rfl, fun j c u hc => by simp at hc⟩⟩ (fun b hb' => by cases hb')
  refine ⟨fun i => if i = id then .slice none 0 0 else hv i, ?_⟩
  have ho2 : (s.setOb id (.row e z [] [] true)).ob k = some (.box t cs) := by simp [S.setOb, hne, ho]
  obtain ⟨b, cur, e1, e2, e3, e4⟩ := h2.obs k _ ho2
  refine h2.setOb_ ho2 (row := some b) (by simp only at e1; simp only [e1]; rfl) (World.grownBy.refl w _) ⟨b, cur, e1, e2, by simpa using e3, fun i c u hc hu => ?_⟩
  by_cases hij : i = j
  · subst hij
    have hlt : i < cs.length := (List.getElem?_eq_some_iff.1 hj).1
    rw [List.getElem?_set_self hlt] at hc
    cases hc
    have h5 := e4 i _ u hj hu
    exact ⟨⟨.row e z [] [] true, by simp [S.setOb]⟩, by simp [h5.1], by rw [h5.1]; exact h5.2⟩
  · rw [List.getElem?_set_ne (Ne.symm hij)] at hc
    exact e4 i c u hc hu
theorem V_nilbox {P : Program} {N : Nat} {c : Code} {Q : Exit → S → Prop} (k j id e : Nat) {t : Nat} {cs z : List C} (ho : s.ob k = some (.box t cs)) (hj : cs[j]? = some (.v (.slice none 0 0))) (hid : id < 1000) (hn : s.ob id = none) (hz : 0 < z.length)
    (h : Code.V P N c ((s.setOb id (.row e z [] [] true)).setOb k (.box t (cs.set j (.own id)))) Q) : Code.V P N c s Q := fun Γ hv F a w hN hR => by
  obtain ⟨hv', hR'⟩ := hR.nilbox (e := e) ho hj hid hn hz
  exact h Γ hv' F a w hN hR'
end
section
variable (P : Program) (op : BinOp) (t : Nat) (y : SV)
@[simp] theorem binC_ptr (i sz k off : Nat) : binC P op t (.val (.one (.ptr i sz k off))) y = none := by unfold binC; split <;> simp_all
@[simp] theorem binC_mh (i : Nat) : binC P op t (.val (.one (.mh i))) y = none := by unfold binC; split <;> simp_all
@[simp] theorem binC_fp (tg : Bool) (cs : List C) : binC P op t (.val (.one (.fp tg cs))) y = none := by unfold binC; split <;> simp_all
@[simp] theorem binC_vp (a : Option Addr) : binC P op t (.val (.one (.v (.pointer a)))) y = none := by unfold binC; split <;> simp_all
end
section
variable {Γ : Fr} {hv : Nat → Value} {F : Nat → Prop} {s : S} {a : Act} {w : World}
/-- At any time the room of a row may be forgotten. -/
theorem V_forget {P : Program} {N : Nat} {c : Code} {Q : Exit → S → Prop} {id e : Nat} {z : List C} {xs ys : List (List C)} {ex : Bool} (ho : s.ob id = some (.row e z xs ys ex)) (hk : kindsC z ys)
    (h : Code.V P N c (s.setOb id (.row e z xs [] false)) Q) : Code.V P N c s Q := fun Γ hv F a w hN hR => by
  obtain ⟨h0, h1, h2, vals, rest, h3, h4, h5⟩ := hR.obs id _ ho
  refine h Γ hv F a w hN (hR.setOb_ ho rfl (World.grownBy.refl w _) ⟨h0, fun x hx => h1 x (by simp at hx ⊢; exact .inl hx), fun _ => rfl, vals, rest, h3, h4, ?_⟩)
  simp only [Bool.false_eq_true, if_false]
  cases ex with
  | true => exact kinds_of h0 h5 (fun y hy => h1 y (by simp [hy])) hk
  | false => simpa using h5
end
/-! ### maps that are ranged over: blocks without cells beside the walk -/
mutual
theorem C.Den.monoC {w w' : World} {ok ok' : Nat → Prop} (h1 : ∀ b, ok b → ok' b) (h2 : ∀ b, ok b → ∀ o, w'.cell? ⟨b, o, none⟩ = w.cell? ⟨b, o, none⟩) : ∀ (c : C) (u : Value), C.Den w ok c u → C.Den w' ok' c u
  | .v x, u, h => by simpa [C.Den] using h
  | .sl t sz xs ys ex, u, h => by
    simp only [C.Den] at h ⊢
    obtain ⟨A, c, e, hc, hs, hx, h⟩ := h
    refine ⟨A, c, e, hc, hs, hx, h.imp id ?_⟩
    rintro ⟨b, o, hA, hb, hr, hr'⟩
    exact ⟨b, o, hA, h1 b hb, Rows.monoC h1 h2 b hb xs o hr, Rows.monoC h1 h2 b hb ys _ hr'⟩
  | .fp t cs, u, h => by
    simp only [C.Den] at h ⊢
    obtain ⟨b, o, e, hb, hr⟩ := h
    exact ⟨b, o, e, h1 b hb, Cells.monoC h1 h2 b hb cs o hr⟩
  | .fn f caps, u, h => by
    simp only [C.Den] at h ⊢
    obtain ⟨us, e, hd⟩ := h
    exact ⟨us, e, Dens.monoC h1 h2 caps us hd⟩
  | .un, u, h => by simpa [C.Den] using h
  | .own _, _, h => by simp [C.Den] at h
  | .ptr .., _, h => by simp [C.Den] at h
  | .mh _, _, h => by simp [C.Den] at h
theorem Cells.monoC {w w' : World} {ok ok' : Nat → Prop} (h1 : ∀ b, ok b → ok' b) (h2 : ∀ b, ok b → ∀ o, w'.cell? ⟨b, o, none⟩ = w.cell? ⟨b, o, none⟩) (b : Nat) (hb : ok b) : ∀ (cs : List C) (o : Nat), Cells w ok b o cs → Cells w' ok' b o cs
  | [], _, _ => by simp [Cells]
  | c :: cs, o, h => by
    simp only [Cells] at h ⊢
    obtain ⟨⟨u, hu, hd⟩, hr⟩ := h
    exact ⟨⟨u, (h2 b hb o).trans hu, C.Den.monoC h1 h2 c u hd⟩, Cells.monoC h1 h2 b hb cs (o + 1) hr⟩
theorem Rows.monoC {w w' : World} {ok ok' : Nat → Prop} (h1 : ∀ b, ok b → ok' b) (h2 : ∀ b, ok b → ∀ o, w'.cell? ⟨b, o, none⟩ = w.cell? ⟨b, o, none⟩) (b : Nat) (hb : ok b) : ∀ (es : List (List C)) (o : Nat), Rows w ok b o es → Rows w' ok' b o es
  | [], _, _ => by simp [Rows]
  | e :: es, o, h => by
    simp only [Rows] at h ⊢
    exact ⟨Cells.monoC h1 h2 b hb e o h.1, Rows.monoC h1 h2 b hb es _ h.2⟩
theorem Dens.monoC {w w' : World} {ok ok' : Nat → Prop} (h1 : ∀ b, ok b → ok' b) (h2 : ∀ b, ok b → ∀ o, w'.cell? ⟨b, o, none⟩ = w.cell? ⟨b, o, none⟩) : ∀ (cs : List C) (us : List Value), Dens w ok cs us → Dens w' ok' cs us
  | [], us, h => by simpa [Dens] using h
  | c :: cs, us, h => by
    simp only [Dens] at h ⊢
    obtain ⟨u, us', e, hd, hr⟩ := h
    exact ⟨u, us', e, C.Den.monoC h1 h2 c u hd, Dens.monoC h1 h2 cs us' hr⟩
end

section
variable {hv : Nat → Value} {live : Nat → Prop} {w w' : World} {okT okP okT' okP' : Nat → Prop}
structure KeepsC (w w' : World) (okT okP okT' okP' : Nat → Prop) : Prop where
  t : ∀ b, okT b → okT' b
  p : ∀ b, okP b → okP' b
  pt : ∀ b, okP b → okT b
  blk : ∀ b, okT b → ∀ o, w'.cell? ⟨b, o, none⟩ = w.cell? ⟨b, o, none⟩
theorem KeepsC.den (k : KeepsC w w' okT okP okT' okP') {t : Bool} {c : C} {u : Value} (h : C.Den w (if t then okT else okP) c u) : C.Den w' (if t then okT' else okP') c u := by
  cases t
  · exact C.Den.monoC k.p (fun b hb => k.blk b (k.pt b hb)) c u h
  · exact C.Den.monoC k.t k.blk c u h
theorem KeepsC.hd0 (k : KeepsC w w' okT okP okT' okP') {c : C} {u : Value} (h : C.HD0 hv live w okT okP c u) : C.HD0 hv live w' okT' okP' c u := by
  cases c with
  | v x => exact h
  | sl t sz xs ys ex => exact k.den (t := t) h
  | fp t cs => exact k.den (t := t) h
  | fn f caps => exact C.Den.monoC k.p (fun b hb => k.blk b (k.pt b hb)) _ _ h
  | own id => exact h
  | ptr id sz i off => exact h
  | mh id => exact h
  | un => exact h
theorem KeepsC.hd (k : KeepsC w w' okT okP okT' okP') {c : C} {u : Value} (h : C.HD hv live w okT okP c u) : C.HD hv live w' okT' okP' c u := by
  have := C.HD.lift (φ := fun c => c) (fun c u h => k.hd0 h) (fun c h => h) h
  rwa [lift_id (fun _ => rfl)] at this
theorem KeepsC.sv (k : KeepsC w w' okT okP okT' okP') {x : SV} {u : Value} (h : x.HD hv live w okT okP u) : x.HD hv live w' okT' okP' u := by
  have := SV.HD.mapC (g := fun c => c) (fun c u h => k.hd h) h
  rwa [mapC_id (fun _ => rfl)] at this
theorem KeepsC.ob (k : KeepsC w w' okT okP okT' okP') {o : Ob} {i : Nat} (hb' : ∀ b, hb (hv i) = some b → w'.heap[b]? = w.heap[b]?) (h : o.HD hv live w okT okP i) : o.HD hv live w' okT' okP' i := by
  have := Ob.HD.mapC (g := fun c => c) (fun c u h => k.hd h) rfl hb' h
  rwa [obMapC_id (fun _ => rfl)] at this
end
section
variable {Γ : Fr} {hv : Nat → Value} {F : Nat → Prop} {s : S} {a : Act} {w w' : World}
/-- Frozen blocks without cells may turn, new ones may be made. -/
theorem R.turnF (h : R Γ hv F s a w) (B F' : Nat → Prop) (hos : w'.os = w.os) (htape : w'.tape = w.tape) (hout : w'.output = w.output) (hsz : w.heap.size ≤ w'.heap.size)
    (hblk : ∀ b, b < w.heap.size → ¬ B b → w'.heap[b]? = w.heap[b]?) (hB : ∀ b, B b → F b) (hcell : ∀ b, B b → ∀ o, w'.cell? ⟨b, o, none⟩ = w.cell? ⟨b, o, none⟩)
    (hF : ∀ b, F b → F' b) (hF' : ∀ b, F' b → F b ∨ (w.heap.size ≤ b ∧ b < w'.heap.size)) : R Γ hv F' s a w' := by
  have hcellT : ∀ b, Γ.t F b → ∀ o, w'.cell? ⟨b, o, none⟩ = w.cell? ⟨b, o, none⟩ := fun b hb o => by
    by_cases hBb : B b
    · exact hcell b hBb o
    · exact World.cell?_of_block (w := w) (a := ⟨b, o, none⟩) (hblk b (h.t_lt hb) hBb)
  have k : KeepsC w w' (Γ.t F) (Γ.p F) (Γ.t F') (Γ.p F') := ⟨fun b hb => hb.imp (fun x => x) (hF b), fun b hb => hb.imp (fun x => x) (hF b), h.pt, hcellT⟩
  have hnot : ∀ id o b, s.ob id = some o → hb (hv id) = some b → ¬ B b := fun id o b h0 h1 hBb => (h.blk id o b h0 h1).2.2 (hB b hBb)
  have hmine : ∀ b, F' b → Γ.mine b ∧ b < w'.heap.size := fun b hb => by
    rcases hF' b hb with h1 | h1
    · exact ⟨(h.fz b h1).1, Nat.lt_of_lt_of_le (h.fz b h1).2 hsz⟩
    · exact ⟨h.new_mine h1.1, h1.2⟩
  constructor
  · refine ⟨hos.trans h.away.os, htape.trans h.away.tape, hout.trans h.away.output, Nat.le_trans h.away.size hsz, fun b hb hL => ?_⟩
    refine (hblk b (Nat.lt_of_lt_of_le hb h.away.size) fun hBb => ?_).trans (h.away.block b hb hL)
    exact (h.fz b (hB b hBb)).1.elim (fun x => by omega) hL
  · exact h.lo
  · exact h.po
  · exact hmine
  · exact h.defers
  · exact h.size
  · exact fun t => k.sv (h.slots t)
  · exact fun id o h0 => k.ob (fun b h1 => hblk b (h.blk id o b h0 h1).2.1 (hnot id o b h0 h1)) (h.obs id o h0)
  · intro id o b h0 h1
    obtain ⟨q1, q2, q3⟩ := h.blk id o b h0 h1
    exact ⟨q1, Nat.lt_of_lt_of_le q2 hsz, fun hf => (hF' b hf).elim q3 (fun x => by omega)⟩
  · exact h.disj
  · exact h.pin
  · exact h.pins
def hideG (bm : Nat) : C → C
  | .ptr .. => .un
  | _ => .v (.map (some bm))
/-- A map's handles become the value itself; its block stays as it is. -/
theorem R.hide (h : R Γ hv F s a w) {id bm : Nat} {o : Ob} (ho : s.ob id = some o) (hm : hv id = .map (some bm)) : R Γ hv (fun b => F b ∨ b = bm) (s.sub id (hideG bm) none) a w := by
  obtain ⟨q1, q2, q3⟩ := h.blk id o bm ho (by rw [hm]; rfl)
  refine h.turn id (hideG bm) none h.away (fun b hb => .inl hb) (fun b hb => ?_) (fun _ _ => rfl) (fun i b hne hl hbi => ?_) (fun _ _ _ => rfl) (fun c u hc hu => ?_) (fun c f caps hc => by cases c <;> simp [hideG]) (fun o' e => by cases e) (fun o' b e => by cases e) (fun o' v e => by cases e)
  · rcases hb with hb | rfl
    · exact h.fz b hb
    · exact ⟨q1, q2⟩
  · obtain ⟨o', ho'⟩ := hl
    obtain ⟨p1, p2, p3⟩ := h.blk i o' b ho' hbi
    refine ⟨rfl, p2, fun hf => hf.elim p3 fun e => ?_⟩
    subst e
    exact hne (h.disj i id b ⟨o', ho'⟩ ⟨o, ho⟩ hbi (by rw [hm]; rfl))
  · cases c <;> simp [C.hd] at hc <;> subst hc
    · refine ⟨?_, rfl⟩
      rw [← hm]; exact hu.2.1
    · obtain ⟨_, b, _, rfl⟩ := hu; rfl
    · refine ⟨?_, rfl⟩
      rw [← hm]; exact hu.2.1
/-- At the end: one box of plain values, and a map. -/
theorem R.final (h : R Γ hv F s a w) {bi mi bm t : Nat} {vs : List Value} {ents : Array MapEntry} {clock : Nat} (hbox : s.ob bi = some (.box t (vs.map .v))) (hne : bi ≠ mi) (hF : F bm) (hm : w.heap[bm]? = some (.map ents clock)) (hst : stampsOk ents clock)
    (hpin : ∀ v, Γ.K mi = some v → pinOk (.map (some bm)) v) : R Γ (fun i => if i = mi then .map (some bm) else hv i) (fun _ => False) ⟨fun _ => .un, fun i => if i = bi then some (.box t (vs.map .v)) else if i = mi then some (.mp (ents.toList.map fun e => (e.key, e.val))) else none⟩ a w := by
  have hbm := h.fz bm hF
  have hbb : ∀ b, hb (hv bi) = some b → b ≠ bm := fun b h1 e => by subst e; exact (h.blk bi _ b hbox h1).2.2 hF
  constructor
  · exact h.away
  · exact h.lo
  · exact h.po
  · exact fun _ hf => hf.elim
  · exact h.defers
  · exact h.size
  · exact fun _ => trivial
  · intro id o h0
    by_cases e1 : id = bi
    · subst e1
      simp only [if_true, Option.some.injEq] at h0
      subst h0
      obtain ⟨b, cur, g1, g2, g3, g4⟩ := h.obs id _ hbox
      refine ⟨b, cur, by simp [hne, g1], g2, g3, fun j c u hc hu => ?_⟩
      rw [List.getElem?_map] at hc
      obtain ⟨x, hx, rfl⟩ := Option.map_eq_some_iff.1 hc
      exact g4 j (.v x) u (by rw [List.getElem?_map, hx]; rfl) hu
    · simp only [e1, if_false] at h0
      split at h0
      · rename_i e2
        subst e2
        cases h0
        exact ⟨bm, ents, clock, by simp, hm, rfl, hst⟩
      · cases h0
  · intro id o b h0 h1
    by_cases e1 : id = bi
    · subst e1
      simp only [hne, if_false] at h1
      obtain ⟨q1, q2, _⟩ := h.blk id _ b hbox h1
      exact ⟨q1, q2, fun hf => hf⟩
    · simp only [e1, if_false] at h0
      split at h0
      · rename_i e2
        subst e2
        simp only [if_true, hb, Option.some.injEq] at h1
        subst h1
        exact ⟨hbm.1, hbm.2, fun hf => hf⟩
      · cases h0
  · intro id id' b h0 h1 h2 h3
    have hk : ∀ i, (∃ o, (if i = bi then some (Ob.box t (vs.map .v)) else if i = mi then some (.mp (ents.toList.map fun e => (e.key, e.val))) else none) = some o) → i = bi ∨ i = mi := fun i ⟨o, ho⟩ => by
      by_cases e1 : i = bi
      · exact .inl e1
      · by_cases e2 : i = mi
        · exact .inr e2
        · simp [e1, e2] at ho
    rcases hk id h0 with rfl | rfl <;> rcases hk id' h1 with rfl | rfl
    · rfl
    · simp only [hne, if_false] at h2
      simp only [if_true, hb, Option.some.injEq] at h3
      exact absurd h3.symm (hbb b h2)
    · simp only [hne, if_false] at h3
      simp only [if_true, hb, Option.some.injEq] at h2
      exact absurd h2.symm (hbb b h3)
    · rfl
  · intro id v hk ⟨o, h0⟩
    by_cases e1 : id = bi
    · subst e1
      simp only [hne, if_false]
      exact h.pin id v hk ⟨_, hbox⟩
    · simp only [e1, if_false] at h0
      split at h0
      · rename_i e2
        subst e2
        simp only [if_true]
        exact hpin v hk
      · cases h0
  · exact h.pins
/-- Code leaves what is read as it is. -/
theorem code_stable {P : Program} {N : Nat} {c : Code} {Q : Exit → S → Prop} (hV : Code.V P N c s Q) (hN : Γ.N = N) (h : R Γ hv F s a w) :
    Code.wp P c (fun e a' w' => ∃ hv' F' s', Q e s' ∧ R Γ hv' F' s' a' w' ∧ (∀ b, Γ.t F b → w'.heap[b]? = w.heap[b]?) ∧ ∀ b, Γ.t F b → Γ.t F' b) a w := by
  refine wp_mono (hV (Γ.from F hv s w) hv (fun _ => False) a w hN h.rebase) fun e a' w' ⟨hv', F', s', h1, h2⟩ => ?_
  refine ⟨hv', _, s', h1, h.unbase h2, fun b hb' => ?_, fun b hb' => (h.keeps_after h2).t b (.inl (h.not_ob hb'))⟩
  have hx : Away (fun b => obB hv s b) w w' := h2.away
  exact hx.block b (h.not_ob hb').1 (h.not_ob hb').2
theorem list_stable {P : Program} {N : Nat} {ops : Array Oper} {K : S → Prop} (hN : Γ.N = N) (T0 : Nat → Prop) (w0 : World) (Qm : Exit → Act → World → Prop) (hQ : ∀ (hv' : Nat → Value) (F' : Nat → Prop) (s' : S) (a' : Act) (w' : World), K s' → R Γ hv' F' s' a' w' → (∀ b, T0 b → w'.heap[b]? = w0.heap[b]?) → (∀ b, T0 b → Γ.t F' b) → Qm .normal a' w') : ∀ {l : List Oper}, l.all (opOk N) = true → ∀ {s : S} {hv : Nat → Value} {F : Nat → Prop} {a : Act} {w : World}, vc P N ops K l s → R Γ hv F s a w → (∀ b, T0 b → Γ.t F b) → (∀ b, T0 b → w.heap[b]? = w0.heap[b]?) →
    wpList P ops Qm l a w
  | [], _, s, hv, F, a, w, hV, h, hT, hS => hQ hv F s a w hV h hS hT
  | o :: rest, hl, s, hv, F, a, w, hV, h, hT, hS => by
    simp only [List.all_cons, Bool.and_eq_true] at hl
    have ho := hl.1
    simp only [opOk, Bool.and_eq_true] at ho
    have step : ∀ K' : S → Prop, Oper.V P N o s K' → (∀ s', K' s' → vc P N ops K rest s') → o.wp P a w (wpList P ops Qm rest) Qm := fun K' hV hK =>
      Oper.wp_mono (fun a' w' ⟨hv', F', s', h1, h2, h3, h4⟩ => list_stable hN T0 w0 Qm hQ hl.2 (hK s' h1) h2 (fun b hb => h4 b (hT b hb)) (fun b hb => (h3 b (hT b hb)).trans (hS b hb))) (V_stable hV hN h _)
    unfold vc at hV
    unfold wpList
    split at hV
    · rename_i hg
      rw [if_pos (by simp [Region.wanted, hg])]
      exact .inl (step _ (vo_sound hl.1 hV) fun s' h => h)
    · rename_i g b hg
      split at hV
      · rename_i t ht
        have hy := guardS_spec ht h
        split at hV
        · rename_i e
          rw [if_pos (by simp [Region.wanted, hg, hy, e])]
          exact .inl (step _ (vo_sound hl.1 hV) fun s' h => h)
        · rename_i e
          rw [if_neg (by simp [Region.wanted, hg, hy, e])]
          exact list_stable hN T0 w0 Qm hQ hl.2 hV (h.put' (fun i hi => hN ▸ (dstOk_spec ho.2 i hi).1) trivial) hT hS
      · exact hV.elim
end
/-! ### closures -/
section
variable {P : Program} {N d ty : Nat} {ps : String} {af : Array Edge} {gd : Option (Nat × Bool)} {s : S} {K : S → Prop}
theorem V_makeFunc {f : Nat} {cap : Array Operand} (caps : List C) (hc : opConstOk ⟨some d, .makeFunc (.func f) #[] cap, ty, ps, af, gd⟩ = true) (hd : dstOk N ⟨some d, .makeFunc (.func f) #[] cap, ty, ps, af, gd⟩ = true)
    (hcap : cap.toList.map s.ev = caps.map fun c => .val (.one c)) (hnf : caps.all C.noFn = true) (hK : K (s.put d (.val (.one (.fn f caps))))) : Oper.V P N ⟨some d, .makeFunc (.func f) #[] cap, ty, ps, af, gd⟩ s K := by
  refine V_put (x := .val (.one (.fn f caps))) hd (fun Γ hv F a w hN hR => ?_) hK
  refine ⟨.func (.func f) #[] (cap.toList.map a.eval).toArray, ?_, cap.toList.map a.eval, rfl, ?_, fun j c u hj hu => ?_⟩
  · have : Array.map a.eval cap = (List.map a.eval cap.toList).toArray := by rw [← Array.toList_map]
    simp only [execOp, Instr.makeFunc, this, Sem.run_bind, Sem.run_pure, Result.andThen_ok, List.map_toArray, List.map_nil]
  · have := congrArg List.length hcap
    simpa using this
  · rw [List.getElem?_map] at hu
    obtain ⟨y, hy, rfl⟩ := Option.map_eq_some_iff.1 hu
    have h1 : (cap.toList.map s.ev)[j]? = some (s.ev y) := by rw [List.getElem?_map, hy]; rfl
    rw [hcap, List.getElem?_map, hj] at h1
    have h2 : SV.val (.one c) = s.ev y := by simpa using h1
    have h3 := hR.ev y (opConst hc (by
      have hm : y ∈ cap := by simpa using List.mem_of_getElem? hy
      simpa [Op.operands] using hm))
    rw [← h2] at h3
    have hn : C.noFn c = true := List.all_eq_true.1 hnf c (List.mem_of_getElem? hj)
    exact C.HD.to0 (fun f caps e => by subst e; simp [C.noFn] at hn) h3
end
/-! ### what is handed in, read -/
section
variable {H : Type} {enc : TypeId × Value → H} {P : Program} {w : World} {held : Bool}
def okAll (w : World) (b : Nat) : Prop := b < w.heap.size
theorem cell_some {w : World} {a : Addr} {v : Value} (h : w.cell? a = some v) : a.block < w.heap.size ∧ a.spot = none := by
  unfold World.cell? at h
  split at h
  · rename_i c t z hh
    refine ⟨(Array.getElem?_eq_some_iff.1 hh).1, ?_⟩
    split at h
    · cases h
    · rename_i hs
      cases hsp : a.spot with
      | none => rfl
      | some x => simp [hsp] at hs
  · cases h
theorem mapM_get {α β : Type} {f : α → Option β} : ∀ {l : List α} {r : List β}, l.mapM f = some r → r.length = l.length ∧ ∀ (j : Nat) x, l[j]? = some x → ∃ y, f x = some y ∧ r[j]? = some y
  | [], r, h => by simp at h; subst h; simp
  | a :: l, r, h => by
    simp only [List.mapM_cons, Option.bind_eq_bind, Option.bind_eq_some_iff, Option.pure_def, Option.some.injEq] at h
    obtain ⟨y, hy, ys, hys, rfl⟩ := h
    obtain ⟨h1, h2⟩ := mapM_get hys
    refine ⟨by simp [h1], fun j x hx => ?_⟩
    match j with
    | 0 => simp at hx; subst hx; exact ⟨y, hy, rfl⟩
    | j + 1 => simp at hx; exact h2 j x hx
theorem cells_get {w : World} {base : Nat} {a : Addr} {n : Nat} {cs : List Value} (h : w.cells? base a n = some cs) : cs.length = n ∧ ∀ (j : Nat) v, cs[j]? = some v → w.cell? (a.add j) = some v := by
  unfold World.cells? at h
  split at h
  · obtain ⟨h1, h2⟩ := mapM_get h
    rw [List.length_range] at h1
    refine ⟨h1, fun j v hj => ?_⟩
    have hlt : j < n := by have := (List.getElem?_eq_some_iff.1 hj).1; omega
    obtain ⟨y, hy, hr⟩ := h2 j j (by rw [List.getElem?_range hlt])
    rw [hj] at hr
    cases hr
    exact hy
  · cases h
/-- Cells that are read. -/
def Reads (w : World) (c : List C) (cs : List Value) : Prop := c.length = cs.length ∧ ∀ (j : Nat) x u, c[j]? = some x → cs[j]? = some u → C.Den w (okAll w) x u
theorem Cells_of {b o : Nat} (w : World) : ∀ {c : List C} {cs : List Value} {k : Nat}, Reads w c cs → (∀ (j : Nat) v, cs[j]? = some v → w.cell? ⟨b, o + k + j, none⟩ = some v) → Cells w (okAll w) b (o + k) c
  | [], _, _, _, _ => by simp [Cells]
  | x :: c, [], _, h, _ => by have := h.1; simp at this
  | x :: c, u :: cs, k, h, hc => by
    simp only [Cells]
    refine ⟨⟨u, by simpa using hc 0 u rfl, h.2 0 x u rfl rfl⟩, ?_⟩
    have := Cells_of (b := b) (o := o) w (c := c) (cs := cs) (k := k + 1) ⟨by simpa using h.1, fun j y v hy hv => h.2 (j + 1) y v hy hv⟩ (fun j v hj => by
      have := hc (j + 1) v hj
      rwa [show o + k + (j + 1) = o + (k + 1) + j by omega] at this)
    rwa [show o + (k + 1) = o + k + 1 by omega] at this
theorem Rows_of {b sz : Nat} (w : World) : ∀ {xs : List (List C)} {o : Nat}, (∀ x ∈ xs, x.length = sz) → (∀ (i : Nat) x, xs[i]? = some x → Cells w (okAll w) b (o + i * sz) x) → Rows w (okAll w) b o xs
  | [], _, _, _ => by simp [Rows]
  | x :: xs, o, hl, h => by
    simp only [Rows]
    refine ⟨by simpa using h 0 x rfl, ?_⟩
    rw [hl x (by simp)]
    exact Rows_of w (fun y hy => hl y (by simp [hy])) fun i y hy => by
      have := h (i + 1) y hy
      rwa [show o + (i + 1) * sz = o + sz + i * sz by rw [Nat.add_mul]; omega] at this
/-- A slice that is handed in. -/
theorem read_slice {t e sz fuel : Nat} {cs : List Value} {y : DataW H × List MemPlace} (E : List C → Prop) (hpos : 0 < sz) (ht : P.underlying t = some (.slice e)) (hsz : P.cellsOf e = sz)
    (hE : ∀ (n : Nat) (cs : List Value) (y : DataW H × List MemPlace), DataW.trod enc P w 0 (fun _ => true) held n e cs = some y → cs.length = sz → ∃ c, E c ∧ Reads w c cs)
    (h : DataW.trod enc P w 0 (fun _ => true) held fuel t cs = some y) : ∃ u xs ys, cs = [u] ∧ (∀ x ∈ xs ++ ys, E x) ∧ C.Den w (okAll w) (.sl false sz xs ys true) u := by
  rcases DataW.trod_slice ht h with ⟨rfl, _⟩ | ⟨a, len, cap, elems, rest, n, _, rfl, _, _, hl, hm, hlen, hel, hsp, _⟩
  · exact ⟨_, [], [], rfl, by simp, none, 0, rfl, by simp, by simp, fun _ => rfl, .inl rfl⟩
  · obtain ⟨hrl, hr⟩ := hsp rfl
    have step : ∀ i, i < cap → ∃ cs' z, w.cells? 0 (a.add (i * sz)) sz = some cs' ∧ DataW.trod enc P w 0 (fun _ => true) held n e cs' = some z := fun i hi => by
      have hb : ∃ z, (w.cells? 0 (a.add (i * P.cellsOf e)) (P.cellsOf e)).bind (DataW.trod enc P w 0 (fun _ => true) held n e) = some z := by
        by_cases hil : i < len
        · rw [hel i hil]; exact ⟨_, List.getElem?_eq_getElem (by omega)⟩
        · have := hr (i - len) (by omega)
          rw [show len + (i - len) = i by omega] at this
          rw [this]; exact ⟨_, List.getElem?_eq_getElem (by omega)⟩
      obtain ⟨z, hz⟩ := hb
      obtain ⟨cs', hcs, hz⟩ := Option.bind_eq_some_iff.1 hz
      rw [hsz] at hcs
      exact ⟨cs', z, hcs, hz⟩
    by_cases hc0 : cap = 0
    · obtain rfl : len = 0 := by omega
      subst hc0
      exact ⟨_, [], [], rfl, by simp, some a, 0, rfl, by simp, by simp, fun _ => rfl, .inl rfl⟩
    have hspot : a.block < w.heap.size ∧ a.spot = none := by
      obtain ⟨cs', z, hcs, _⟩ := step 0 (by omega)
      obtain ⟨c1, c2⟩ := cells_get hcs
      have := cell_some (c2 0 _ (List.getElem?_eq_getElem (show 0 < cs'.length by omega)))
      simpa [Addr.add] using this
    obtain ⟨ab, ao, as⟩ := a
    obtain ⟨hab, rfl⟩ := hspot
    have each : ∀ i, i < cap → ∃ c, E c ∧ c.length = sz ∧ Cells w (okAll w) ab (ao + i * sz) c := fun i hi => by
      obtain ⟨cs', z, hcs, hz⟩ := step i hi
      obtain ⟨c1, c2⟩ := cells_get hcs
      obtain ⟨c, hc, hrd⟩ := hE n cs' z hz c1
      refine ⟨c, hc, hrd.1.trans c1, Cells_of w hrd fun j v hj => ?_⟩
      have h0 := c2 j v hj
      rwa [addr_add, addr_add] at h0
    obtain ⟨all, hall, hget⟩ : ∃ all : List (List C), all.length = cap ∧ ∀ (i : Nat) x, all[i]? = some x → E x ∧ x.length = sz ∧ Cells w (okAll w) ab (ao + i * sz) x := by
      have build : ∀ k, k ≤ cap → ∃ all : List (List C), all.length = k ∧ ∀ (i : Nat) x, all[i]? = some x → E x ∧ x.length = sz ∧ Cells w (okAll w) ab (ao + i * sz) x := fun k => by
        induction k with
        | zero => intro _; exact ⟨[], rfl, by simp⟩
        | succ k ih =>
          intro hk
          obtain ⟨l, h1, h2⟩ := ih (by omega)
          obtain ⟨c, hc⟩ := each k (by omega)
          refine ⟨l ++ [c], by simp [h1], fun i x hx => ?_⟩
          by_cases hi : i < l.length
          · rw [List.getElem?_append_left hi] at hx; exact h2 i x hx
          · rw [List.getElem?_append_right (by omega)] at hx
            have : i - l.length = 0 := by
              have := (List.getElem?_eq_some_iff.1 hx).1
              simp at this; omega
            rw [this] at hx
            simp at hx
            subst hx
            rw [show i = k by omega]
            exact hc
      exact build cap (Nat.le_refl _)
    have hmem : ∀ x ∈ all, E x ∧ x.length = sz := fun x hx => by
      obtain ⟨i, hi⟩ := List.getElem?_of_mem hx
      exact ⟨(hget i x hi).1, (hget i x hi).2.1⟩
    have hrows := Rows_of (b := ab) (sz := sz) w (xs := all) (o := ao) (fun x hx => (hmem x hx).2) fun i x hx => (hget i x hx).2.2
    have htl : (all.take len).length = len := by rw [List.length_take]; omega
    have hdl : (all.drop len).length = cap - len := by rw [List.length_drop]; omega
    refine ⟨_, all.take len, all.drop len, rfl, by rw [List.take_append_drop]; exact fun x hx => (hmem x hx).1, ?_⟩
    simp only [C.Den]
    refine ⟨some ⟨ab, ao, none⟩, cap, by rw [htl], by rw [htl, hdl]; omega, by rw [List.take_append_drop]; exact fun x hx => (hmem x hx).2, fun _ => by rw [htl, hdl]; omega, .inr ⟨ab, ao, rfl, hab, ?_⟩⟩
    refine ⟨Rows_of w (fun x hx => (hmem x (List.mem_of_mem_take hx)).2) fun i x hx => ?_, Rows_of w (fun x hx => (hmem x (List.mem_of_mem_drop hx)).2) fun i x hx => ?_⟩
    · have hlt : i < len := by have := (List.getElem?_eq_some_iff.1 hx).1; omega
      rw [List.getElem?_take_of_lt hlt] at hx
      exact (hget i x hx).2.2
    · rw [List.getElem?_drop] at hx
      have := (hget _ x hx).2.2
      rwa [Nat.add_mul, ← Nat.add_assoc, ← htl] at this
end
/-! ### the whole call -/
section
variable {H : Type} {enc : TypeId × Value → H} {P : Program} {w : World} {held : Bool}
theorem reads_int {e n : Nat} {k : IntKind} {cs : List Value} {y : DataW H × List MemPlace} (he : P.underlying e = some (.int k)) (h : DataW.trod enc P w 0 (fun _ => true) held n e cs = some y) :
    ∃ c : List C, (∃ m, c = [.v (.int k m)] ∧ (Lit.int k m).wf = true) ∧ Reads w c cs := by
  obtain ⟨m, rfl, _, hw⟩ := DataW.trod_int he h
  refine ⟨_, ⟨m, rfl, hw⟩, rfl, fun j x u hx hu => ?_⟩
  match j with
  | 0 => simp at hx hu; subst hx hu; exact ⟨rfl, rfl⟩
  | j + 1 => simp at hx
theorem reads_slice {t e sz n : Nat} {cs : List Value} {y : DataW H × List MemPlace} (E : List C → Prop) (hpos : 0 < sz) (ht : P.underlying t = some (.slice e)) (hsz : P.cellsOf e = sz)
    (hE : ∀ (n : Nat) (cs : List Value) (y : DataW H × List MemPlace), DataW.trod enc P w 0 (fun _ => true) held n e cs = some y → cs.length = sz → ∃ c, E c ∧ Reads w c cs)
    (h : DataW.trod enc P w 0 (fun _ => true) held n t cs = some y) : ∃ c : List C, (∃ xs ys, c = [.sl false sz xs ys true] ∧ ∀ x ∈ xs ++ ys, E x) ∧ Reads w c cs := by
  obtain ⟨u, xs, ys, rfl, h1, h2⟩ := read_slice E hpos ht hsz hE h
  refine ⟨_, ⟨xs, ys, rfl, h1⟩, rfl, fun j x u' hx hu => ?_⟩
  match j with
  | 0 => simp at hx hu; subst hx hu; exact h2
  | j + 1 => simp at hx
theorem rows_of_ints {k : IntKind} : ∀ {xs : List (List C)}, (∀ x ∈ xs, ∃ m, x = [.v (.int k m)] ∧ (Lit.int k m).wf = true) → ∃ l : List Int, xs = rows (fun m => [.int k m]) l ∧ ∀ m ∈ l, (Lit.int k m).wf = true
  | [], _ => ⟨[], rfl, by simp⟩
  | x :: xs, h => by
    obtain ⟨m, rfl, hm⟩ := h x (by simp)
    obtain ⟨l, rfl, hl⟩ := rows_of_ints (xs := xs) fun y hy => h y (by simp [hy])
    exact ⟨m :: l, rfl, fun z hz => (List.mem_cons.1 hz).elim (fun e => e ▸ hm) (hl z)⟩
/-- The value of a parameter. -/
def ArgOk (w : World) (x : V1) (v : Value) : Prop := match x with
  | .one c => C.Den w (okAll w) c v
  | .agg cs => ∃ us : List Value, v = .agg us.toArray ∧ Reads w cs us
theorem den_hd0 {hv : Nat → Value} {live : Nat → Prop} {okT okP : Nat → Prop} (h1 : ∀ b, okAll w b → okT b) (h2 : ∀ b, okAll w b → okP b) {c : C} {v : Value} (h : C.Den w (okAll w) c v) (hf : ∀ f caps, c ≠ .fn f caps) : C.HD hv live w okT okP c v := by
  cases c with
  | v x => simp only [C.Den] at h; exact h
  | sl t sz xs ys ex => exact C.Den.mono (ok' := if t then okT else okP) (fun b hb => by cases t; exact h2 b hb; exact h1 b hb) (fun _ _ => rfl) _ _ h
  | fp t cs => exact C.Den.mono (ok' := if t then okT else okP) (fun b hb => by cases t; exact h2 b hb; exact h1 b hb) (fun _ _ => rfl) _ _ h
  | fn f caps => exact absurd rfl (hf f caps)
  | un => simp only [C.Den] at h; exact h
  | own id => simp [C.Den] at h
  | ptr id sz i off => simp [C.Den] at h
  | mh id => simp [C.Den] at h
def V1.noFn : V1 → Bool
  | .one c => c.noFn
  | .agg cs => cs.all C.noFn
/-- A contract that lends nothing and tells a bool, as the model's call. -/
theorem calls_of_does {f : Nat} {args : List V1} {vs : Array Value} {r : Bool} (hd : Does P f args (fun _ => none) (fun x _ => x = .val (.one (vb r)))) (hl : vs.size = args.length) (hfn : args.all V1.noFn = true)
    (hv : ∀ (t : Nat) x v, args[t]? = some x → vs[t]? = some v → ArgOk w x v) : Calls P f vs w (fun e w' => e = .returned (.bool r) ∧ Below w.heap.size w w') := by
  let Γ : Fr := { w0 := w, L := fun _ => False, Po := okAll w, K := fun _ => none, N := vs.size }
  have hR : R Γ (fun _ => undef) (fun _ => False) (argS args fun _ => none) ⟨vs, []⟩ w := by
    have h1 : ∀ b, okAll w b → Γ.t (fun _ => False) b := fun b hb => .inl ⟨hb, fun h => h⟩
    have h2 : ∀ b, okAll w b → Γ.p (fun _ => False) b := fun b hb => .inl hb
    have none_ob : ∀ id o, (argS args fun _ => none).ob id = some o → False := fun id o h => by cases h
    have no_pin : ∀ v : Value, (none : Option Value) = some v → False := fun v h => by cases h
    refine { away := Away.refl _ w, lo := fun _ h => h.elim, po := fun b hb => ⟨hb, fun h => h⟩, fz := fun _ h => h.elim, defers := rfl, size := rfl, slots := fun t => ?_, obs := fun id o h => (none_ob id o h).elim, blk := fun id o b h => (none_ob id o h).elim, disj := fun id id' b ⟨o, h⟩ => (none_ob id o h).elim, pin := fun id v h => (no_pin v h).elim, pins := fun id v h => (no_pin v h).elim }
    simp only [argS_sl]
    split
    · rename_i x hx
      have hlt : t < vs.size := by have := (List.getElem?_eq_some_iff.1 hx).1; omega
      have hvt : vs[t]? = some vs[t] := Array.getElem?_eq_getElem hlt
      have hgd : vs.getD t undef = vs[t] := by simp [hlt]
      show V1.HD _ _ _ _ _ x (vs.getD t undef)
      rw [hgd]
      have hok := hv t x _ hx hvt
      have hn := List.all_eq_true.1 hfn x (List.mem_of_getElem? hx)
      cases x with
      | one c => exact den_hd0 h1 h2 hok (fun f caps e => by subst e; simp [V1.noFn, C.noFn] at hn)
      | agg cs =>
        obtain ⟨us, e, hr⟩ := hok
        refine ⟨us, e, hr.1.symm, fun j c u hc hu => den_hd0 h1 h2 (hr.2 j c u hc hu) fun f caps e => ?_⟩
        subst e
        have := List.all_eq_true.1 hn _ (List.mem_of_getElem? hc)
        simp [C.noFn] at this
    · trivial
  refine (hd Γ _ vs w rfl hl hR).mono ?_
  rintro e w' ⟨v, hv', F', res, ob', rfl, rfl, hR'⟩
  have h3 := hR'.slots 0
  have h4 : v = .bool r := by
    simp only [outS, if_true] at h3
    have := hd_bool h3
    simpa using this
  subst h4
  exact ⟨rfl, hR'.away.os, hR'.away.tape, hR'.away.output, hR'.away.size, fun k hk => hR'.away.block k hk fun h => h⟩
end
end Go.Eng
