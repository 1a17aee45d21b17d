/- An engine that walks translated code over lists, numbers and objects: what each operation does to such a state, proved once against the model; part 1. Conditions: each theorem bears its own. -/
import Derived.Below
import Derived.OwnWalk
import Derived.Orders
import Derived.OrdersHeld
import Derived.Still
import Derived.StillTail
import Derived.Tactics
import Derived.Laws.MakeOwn
import Derived.Laws.OwnMore
import Derived.Laws.CopyRow
import Derived.Maps.AppendAt
import Derived.Maps.Keyed
import Derived.Maps.Own
import Derived.Laws.CopyOwn
set_option linter.all false
namespace Go.Eng
open Go Go.RowKit

inductive C where
  | v (x : Value)
  | sl (t : Bool) (sz : Nat) (xs ys : List (List C)) (ex : Bool)
  | fp (t : Bool) (cs : List C)
  | fn (f : FuncId) (caps : List C)
  | own (id : Nat)
  | ptr (id sz i off : Nat)
  | mh (id : Nat)
  | un
  deriving Inhabited

mutual
def C.Den (w : World) (ok : Nat → Prop) : C → Value → Prop
  | .v x, u => u = x ∧ x.oneCell' = true
  | .sl _ sz xs ys ex, u => ∃ A c, u = .slice A xs.length c ∧ xs.length + ys.length ≤ c ∧ (∀ e ∈ xs ++ ys, e.length = sz) ∧ (ex = true → c = xs.length + ys.length) ∧ (xs ++ ys = [] ∨ ∃ b o, A = some ⟨b, o, none⟩ ∧ ok b ∧ Rows w ok b o xs ∧ Rows w ok b (o + xs.length * sz) ys)
  | .fp _ cs, u => ∃ b o, u = .pointer (some ⟨b, o, none⟩) ∧ ok b ∧ Cells w ok b o cs
  | .fn f caps, u => ∃ us : List Value, u = .func (.func f) #[] us.toArray ∧ Dens w ok caps us
  | .un, u => u.oneCell' = true
  | .own _, _ => False
  | .ptr .., _ => False
  | .mh _, _ => False
def Cells (w : World) (ok : Nat → Prop) (b : Nat) : Nat → List C → Prop
  | _, [] => True
  | o, c :: cs => (∃ u, w.cell? ⟨b, o, none⟩ = some u ∧ C.Den w ok c u) ∧ Cells w ok b (o + 1) cs
def Rows (w : World) (ok : Nat → Prop) (b : Nat) : Nat → List (List C) → Prop
  | _, [] => True
  | o, e :: es => Cells w ok b o e ∧ Rows w ok b (o + e.length) es
def Dens (w : World) (ok : Nat → Prop) : List C → List Value → Prop
  | [], us => us = []
  | c :: cs, us => ∃ u us', us = u :: us' ∧ C.Den w ok c u ∧ Dens w ok cs us'
end

mutual
theorem C.Den.mono {w w' : World} {ok ok' : Nat → Prop} (h1 : ∀ b, ok b → ok' b) (h2 : ∀ b, ok b → w'.heap[b]? = w.heap[b]?) : ∀ (c : C) (u : Value), C.Den w ok c u → C.Den w' ok' c u
  | .v x, u, h => by simpa [C.Den] using h
  | .sl t sz xs ys ex, u, h => by
    simp only [C.Den] at h ⊢
    obtain ⟨A, c, e, hc, hs, hx, h⟩ := h
    refine ⟨A, c, e, hc, hs, hx, h.imp id ?_⟩
    rintro ⟨b, o, hA, hb, hr, hr'⟩
    exact ⟨b, o, hA, h1 b hb, Rows.mono h1 h2 b hb xs o hr, Rows.mono h1 h2 b hb ys _ hr'⟩
  | .fp t cs, u, h => by
    simp only [C.Den] at h ⊢
    obtain ⟨b, o, e, hb, hr⟩ := h
    exact ⟨b, o, e, h1 b hb, Cells.mono h1 h2 b hb cs o hr⟩
  | .fn f caps, u, h => by
    simp only [C.Den] at h ⊢
    obtain ⟨us, e, hd⟩ := h
    exact ⟨us, e, Dens.mono h1 h2 caps us hd⟩
  | .un, u, h => by simpa [C.Den] using h
  | .own _, _, h => by simp [C.Den] at h
  | .ptr .., _, h => by simp [C.Den] at h
  | .mh _, _, h => by simp [C.Den] at h
theorem Cells.mono {w w' : World} {ok ok' : Nat → Prop} (h1 : ∀ b, ok b → ok' b) (h2 : ∀ b, ok b → w'.heap[b]? = w.heap[b]?) (b : Nat) (hb : ok b) : ∀ (cs : List C) (o : Nat), Cells w ok b o cs → Cells w' ok' b o cs
  | [], _, _ => by simp [Cells]
  | c :: cs, o, h => by
    simp only [Cells] at h ⊢
    obtain ⟨⟨u, hu, hd⟩, hr⟩ := h
    exact ⟨⟨u, (World.cell?_of_block (w := w) (a := ⟨b, o, none⟩) (h2 b hb)).trans hu, C.Den.mono h1 h2 c u hd⟩, Cells.mono h1 h2 b hb cs (o + 1) hr⟩
theorem Rows.mono {w w' : World} {ok ok' : Nat → Prop} (h1 : ∀ b, ok b → ok' b) (h2 : ∀ b, ok b → w'.heap[b]? = w.heap[b]?) (b : Nat) (hb : ok b) : ∀ (es : List (List C)) (o : Nat), Rows w ok b o es → Rows w' ok' b o es
  | [], _, _ => by simp [Rows]
  | e :: es, o, h => by
    simp only [Rows] at h ⊢
    exact ⟨Cells.mono h1 h2 b hb e o h.1, Rows.mono h1 h2 b hb es _ h.2⟩
theorem Dens.mono {w w' : World} {ok ok' : Nat → Prop} (h1 : ∀ b, ok b → ok' b) (h2 : ∀ b, ok b → w'.heap[b]? = w.heap[b]?) : ∀ (cs : List C) (us : List Value), Dens w ok cs us → Dens w' ok' cs us
  | [], us, h => by simpa [Dens] using h
  | c :: cs, us, h => by
    simp only [Dens] at h ⊢
    obtain ⟨u, us', e, hd, hr⟩ := h
    exact ⟨u, us', e, C.Den.mono h1 h2 c u hd, Dens.mono h1 h2 cs us' hr⟩
end
/-! ### states -/
inductive V1 where
  | one (c : C)
  | agg (cs : List C)
  deriving Inhabited
inductive SV where
  | val (x : V1)
  | tup (l : List V1)
  | un
  deriving Inhabited
inductive Ob where
  | row (e : Nat) (z : List C) (xs ys : List (List C)) (ex : Bool)
  | box (t : Nat) (cs : List C)
  | mp (es : List (Value × Value))
structure S where
  sl : Nat → SV
  ob : Nat → Option Ob

def V1.cells : V1 → List C
  | .one c => [c]
  | .agg cs => cs
/-- The handle of a cell. -/
def C.hd : C → Option Nat
  | .own i => some i
  | .ptr i _ _ _ => some i
  | .mh i => some i
  | _ => none
/-- A handle of the object 'id' turned. -/
def C.sub0 (id : Nat) (g : C → C) (c : C) : C :=
  match c with
  | .own i => if i = id then g (.own i) else .own i
  | .ptr i sz k off => if i = id then g (.ptr i sz k off) else .ptr i sz k off
  | .mh i => if i = id then g (.mh i) else .mh i
  | c => c
def C.sub (id : Nat) (g : C → C) (c : C) : C :=
  match c with
  | .fn f caps => .fn f (caps.map (C.sub0 id g))
  | c => c.sub0 id g
def V1.sub (id : Nat) (g : C → C) : V1 → V1
  | .one c => .one (c.sub id g)
  | .agg cs => .agg (cs.map (C.sub id g))
def SV.sub (id : Nat) (g : C → C) : SV → SV
  | .val x => .val (x.sub id g)
  | .tup l => .tup (l.map (V1.sub id g))
  | .un => .un
def subR (id : Nat) (g : C → C) (xs : List (List C)) : List (List C) := xs.map (List.map (C.sub id g))
def Ob.sub (id : Nat) (g : C → C) : Ob → Ob
  | .row e z xs ys ex => .row e z (subR id g xs) (subR id g ys) ex
  | .box t cs => .box t (cs.map (C.sub id g))
  | .mp es => .mp es
def S.put (s : S) (d : Nat) (x : SV) : S := { s with sl := fun t => if t = d then x else s.sl t }
def S.setOb (s : S) (id : Nat) (o : Ob) : S := { s with ob := fun i => if i = id then some o else s.ob i }
/-- The handles of 'id' turned; the object itself is now 'o'. -/
def S.sub (s : S) (id : Nat) (g : C → C) (o : Option Ob) : S :=
  { sl := fun t => (s.sl t).sub id g, ob := fun i => if i = id then o else (s.ob i).map (Ob.sub id g) }
def S.kill (s : S) (id : Nat) : S := s.sub id (fun _ => .un) none
def S.dst (s : S) (d : Option Nat) (x : SV) : S :=
  match d with
  | some d => s.put d x
  | none => s

/-! ### relation -/
def hb : Value → Option Nat
  | .slice (some a) _ _ => some a.block
  | .pointer (some a) => some a.block
  | .map r => r
  | _ => none

def C.HD0 (hv : Nat → Value) (live : Nat → Prop) (w : World) (okT okP : Nat → Prop) (c : C) (u : Value) : Prop :=
  match c with
  | .own id => live id ∧ u = hv id ∧ u.oneCell' = true
  | .mh id => live id ∧ u = hv id ∧ u.oneCell' = true
  | .ptr id sz i off => live id ∧ ∃ b, hb (hv id) = some b ∧ u = .pointer (some ⟨b, i * sz + off, none⟩)
  | .sl t sz xs ys ex => C.Den w (if t then okT else okP) (.sl t sz xs ys ex) u
  | .fp t cs => C.Den w (if t then okT else okP) (.fp t cs) u
  | .fn f caps => C.Den w okP (.fn f caps) u
  | .v x => u = x ∧ x.oneCell' = true
  | .un => u.oneCell' = true
def C.HD (hv : Nat → Value) (live : Nat → Prop) (w : World) (okT okP : Nat → Prop) (c : C) (u : Value) : Prop :=
  match c with
  | .fn f caps => ∃ us : List Value, u = .func (.func f) #[] us.toArray ∧ us.length = caps.length ∧ ∀ (j : Nat) c u, caps[j]? = some c → us[j]? = some u → C.HD0 hv live w okT okP c u
  | c => C.HD0 hv live w okT okP c u
def HDs (hv : Nat → Value) (live : Nat → Prop) (w : World) (okT okP : Nat → Prop) (cs : List C) (us : List Value) : Prop :=
  us.length = cs.length ∧ ∀ (j : Nat) c u, cs[j]? = some c → us[j]? = some u → C.HD hv live w okT okP c u
def V1.HD (hv : Nat → Value) (live : Nat → Prop) (w : World) (okT okP : Nat → Prop) (x : V1) (u : Value) : Prop :=
  match x with
  | .one c => C.HD hv live w okT okP c u
  | .agg cs => ∃ us : List Value, u = .agg us.toArray ∧ HDs hv live w okT okP cs us
def SV.HD (hv : Nat → Value) (live : Nat → Prop) (w : World) (okT okP : Nat → Prop) (x : SV) (u : Value) : Prop :=
  match x with
  | .val x => x.HD hv live w okT okP u
  | .tup l => ∃ us : List Value, u = .tuple us.toArray ∧ us.length = l.length ∧ ∀ (j : Nat) x u, l[j]? = some x → us[j]? = some u → V1.HD hv live w okT okP x u
  | .un => True
def S.live (s : S) (id : Nat) : Prop := ∃ o, s.ob id = some o
/-- Is a value of the kind of this zero? -/
def kindOk : C → Value → Prop
  | .v (.int k _), u => ∃ n, u = .int k n
  | .v (.bool _), u => ∃ b, u = .bool b
  | .v (.string _), u => ∃ b, u = .string b
  | _, u => u.oneCell' = true
def kinds (z : List C) (rest : List Value) : Prop := ∀ (i : Nat) v, rest[i]? = some v → kindOk (z.getD (i % z.length) .un) v
/-- A row that is ours: its cells, and those of its room. -/
def RowAt (w : World) (e sz : Nat) (u : Value) (n : Nat) (vals rest : List Value) : Prop :=
  (u = .slice none 0 0 ∧ n = 0 ∧ vals = [] ∧ rest = []) ∨
  ∃ g cap cur, u = .slice (some ⟨g, 0, none⟩) n cap ∧ w.heap[g]? = some (.cells cur e (0, 0)) ∧ n ≤ cap ∧ cap ≤ maxLen ∧ cur.size = cap * sz ∧ cur.toList = vals ++ rest ∧ vals.length = n * sz
/-- Stamps: each its own, each elder than the clock. -/
def stampsOk (ents : Array MapEntry) (clock : Nat) : Prop := (∀ e ∈ ents.toList, e.born < clock) ∧ (ents.toList.map (·.born)).Nodup
def Ob.HD (hv : Nat → Value) (live : Nat → Prop) (w : World) (okT okP : Nat → Prop) (id : Nat) (o : Ob) : Prop :=
  match o with
  | .row e z xs ys ex => 0 < z.length ∧ (∀ x ∈ xs ++ ys, x.length = z.length) ∧ (ex = false → ys = []) ∧
      ∃ vals rest, RowAt w e z.length (hv id) xs.length vals rest ∧ HDs hv live w okT okP xs.flatten vals ∧ (if ex then HDs hv live w okT okP ys.flatten rest else kinds z rest)
  | .box t cs => ∃ b cur, hv id = .pointer (some ⟨b, 0, none⟩) ∧ w.heap[b]? = some (.cells cur t (0, 0)) ∧ HDs hv live w okT okP cs cur.toList
  | .mp es => ∃ b ents clock, hv id = .map (some b) ∧ w.heap[b]? = some (.map ents clock) ∧ ents.toList.map (fun e => (e.key, e.val)) = es ∧ stampsOk ents clock

/-- What stands fast while a function runs: the world it began in, the blocks lent to it, those that stay for ever, the values that are pinned, how many slots there are. -/
structure Fr where
  w0 : World
  L : Nat → Prop
  Po : Nat → Prop
  K : Nat → Option Value
  N : Nat
def Fr.mine (Γ : Fr) (b : Nat) : Prop := Γ.w0.heap.size ≤ b ∨ Γ.L b
def Fr.t (Γ : Fr) (F : Nat → Prop) (b : Nat) : Prop := (b < Γ.w0.heap.size ∧ ¬ Γ.L b) ∨ F b
def Fr.p (Γ : Fr) (F : Nat → Prop) (b : Nat) : Prop := Γ.Po b ∨ F b
/-- Turned only where it may: in new blocks, and those lent. -/
structure Away (L : Nat → Prop) (w w' : World) : Prop where
  os : w'.os = w.os
  tape : w'.tape = w.tape
  output : w'.output = w.output
  size : w.heap.size ≤ w'.heap.size
  block : ∀ b, b < w.heap.size → ¬ L b → w'.heap[b]? = w.heap[b]?

/-- A pinned value: a slice may change its length alone. -/
def pinOk (u v : Value) : Prop := match v with
  | .slice A _ c => ∃ n, u = .slice A n c
  | v => u = v
structure R (Γ : Fr) (hv : Nat → Value) (F : Nat → Prop) (s : S) (a : Act) (w : World) : Prop where
  away : Away Γ.L Γ.w0 w
  lo : ∀ b, Γ.L b → b < Γ.w0.heap.size
  po : ∀ b, Γ.Po b → b < Γ.w0.heap.size ∧ ¬ Γ.L b
  fz : ∀ b, F b → Γ.mine b ∧ b < w.heap.size
  defers : a.defers = []
  size : a.tmps.size = Γ.N
  slots : ∀ t, (s.sl t).HD hv s.live w (Γ.t F) (Γ.p F) (a.tmps.getD t undef)
  obs : ∀ id o, s.ob id = some o → o.HD hv s.live w (Γ.t F) (Γ.p F) id
  blk : ∀ id o b, s.ob id = some o → hb (hv id) = some b → Γ.mine b ∧ b < w.heap.size ∧ ¬ F b
  disj : ∀ id id' b, s.live id → s.live id' → hb (hv id) = some b → hb (hv id') = some b → id = id'
  pin : ∀ id v, Γ.K id = some v → s.live id → pinOk (hv id) v
  pins : ∀ id v, Γ.K id = some v → 1000 ≤ id ∧ ∀ A n c, v = .slice A n c → 2000 ≤ id

theorem pinOk_refl (v : Value) : pinOk v v := by unfold pinOk; split <;> simp

/-! ### blocks -/
theorem Away.refl (L : Nat → Prop) (w : World) : Away L w w := ⟨rfl, rfl, rfl, Nat.le_refl _, fun _ _ _ => rfl⟩
theorem Away.trans {L : Nat → Prop} {a b c : World} (h : Away L a b) (k : Away L b c) : Away L a c :=
  ⟨k.os.trans h.os, k.tape.trans h.tape, k.output.trans h.output, Nat.le_trans h.size k.size, fun i hi hL => (k.block i (Nat.lt_of_lt_of_le hi h.size) hL).trans (h.block i hi hL)⟩
section
variable {Γ : Fr} {hv : Nat → Value} {F : Nat → Prop} {s : S} {a : Act} {w : World}
theorem R.t_lt (h : R Γ hv F s a w) {b : Nat} (hb : Γ.t F b) : b < w.heap.size := hb.elim (fun x => Nat.lt_of_lt_of_le x.1 h.away.size) (fun x => (h.fz b x).2)
theorem R.t_mine (_h : R Γ hv F s a w) {b : Nat} (ht : Γ.t F b) (hm : Γ.mine b) : F b := ht.elim (fun x => absurd hm (fun y => y.elim (fun z => by have := x.1; omega) x.2)) (fun x => x)
theorem R.pt (h : R Γ hv F s a w) : ∀ b, Γ.p F b → Γ.t F b := fun b hb => hb.imp (h.po b) (fun x => x)
theorem R.new_mine (h : R Γ hv F s a w) {b : Nat} (hb : w.heap.size ≤ b) : Γ.mine b := .inl (Nat.le_trans h.away.size hb)
end
/-! ### what is kept -/
section
variable {hv hv' : Nat → Value} {live live' : Nat → Prop} {w w' : World} {okT okP okT' okP' : Nat → Prop}

structure Keeps (w w' : World) (okT okP okT' okP' : Nat → Prop) : Prop where
  t : ∀ b, okT b → okT' b
  p : ∀ b, okP b → okP' b
  pt : ∀ b, okP b → okT b
  blk : ∀ b, okT b → w'.heap[b]? = w.heap[b]?
theorem Keeps.den (k : Keeps w w' okT okP okT' okP') {t : Bool} {c : C} {u : Value} (h : C.Den w (if t then okT else okP) c u) : C.Den w' (if t then okT' else okP') c u := by
  cases t
  · exact C.Den.mono k.p (fun b hb => k.blk b (k.pt b hb)) c u h
  · exact C.Den.mono k.t k.blk c u h
theorem Keeps.denP (k : Keeps w w' okT okP okT' okP') {c : C} {u : Value} (h : C.Den w okP c u) : C.Den w' okP' c u := C.Den.mono k.p (fun b hb => k.blk b (k.pt b hb)) c u h

theorem C.HD0.sub (k : Keeps w w' okT okP okT' okP') {id : Nat} {g : C → C} (hi : ∀ i, i ≠ id → live i → live' i ∧ hv' i = hv i)
    (hg : ∀ c u, c.hd = some id → C.HD0 hv live w okT okP c u → C.HD0 hv' live' w' okT' okP' (g c) u) {c : C} {u : Value} (h : C.HD0 hv live w okT okP c u) :
    C.HD0 hv' live' w' okT' okP' (c.sub0 id g) u := by
  cases c with
  | own i =>
    by_cases e : i = id
    · subst e; simpa [C.sub0] using hg _ _ rfl h
    · simp only [C.sub0, e, if_false, C.HD0] at h ⊢
      exact ⟨(hi i e h.1).1, h.2.1.trans (hi i e h.1).2.symm, h.2.2⟩
  | mh i =>
    by_cases e : i = id
    · subst e; simpa [C.sub0] using hg _ _ rfl h
    · simp only [C.sub0, e, if_false, C.HD0] at h ⊢
      exact ⟨(hi i e h.1).1, h.2.1.trans (hi i e h.1).2.symm, h.2.2⟩
  | ptr i sz j off =>
    by_cases e : i = id
    · subst e; simpa [C.sub0] using hg _ _ rfl h
    · simp only [C.sub0, e, if_false, C.HD0] at h ⊢
      obtain ⟨h1, b, h2, h3⟩ := h
      exact ⟨(hi i e h1).1, b, by rw [(hi i e h1).2]; exact h2, h3⟩
  | sl t sz xs ys ex => exact k.den h
  | fp t cs => exact k.den h
  | v x => exact h
  | un => exact h
  | fn f caps => exact k.denP h

theorem C.HD0.one {c : C} {u : Value} (h : C.HD0 hv live w okT okP c u) : u.oneCell' = true := by
  cases c with
  | own => exact h.2.2
  | mh => exact h.2.2
  | ptr => obtain ⟨_, b, _, rfl⟩ := h; rfl
  | sl t sz xs ys ex => simp only [C.HD0, C.Den] at h; obtain ⟨A, c, rfl, _⟩ := h; rfl
  | fp t cs => simp only [C.HD0, C.Den] at h; obtain ⟨b, o, rfl, _⟩ := h; rfl
  | v x => obtain ⟨rfl, h⟩ := h; exact h
  | un => exact h
  | fn f caps => simp only [C.HD0, C.Den] at h; obtain ⟨us, rfl, _⟩ := h; rfl
theorem C.HD.one {c : C} {u : Value} (h : C.HD hv live w okT okP c u) : u.oneCell' = true := by
  by_cases hf : ∃ f caps, c = .fn f caps
  · obtain ⟨f, caps, rfl⟩ := hf
    obtain ⟨us, rfl, _⟩ := h
    rfl
  · refine C.HD0.one (hv := hv) (live := live) (w := w) (okT := okT) (okP := okP) (c := c) ?_
    cases c <;> first | exact h | exact absurd ⟨_, _, rfl⟩ hf
theorem C.HD.of0 {c : C} {u : Value} (hf : ∀ f caps, c ≠ .fn f caps) (h : C.HD0 hv live w okT okP c u) : C.HD hv live w okT okP c u := by
  cases c <;> first | exact h | exact absurd rfl (hf _ _)
theorem C.HD.to0 {c : C} {u : Value} (hf : ∀ f caps, c ≠ .fn f caps) (h : C.HD hv live w okT okP c u) : C.HD0 hv live w okT okP c u := by
  cases c <;> first | exact h | exact absurd rfl (hf _ _)

theorem C.HD.sub (k : Keeps w w' okT okP okT' okP') {id : Nat} {g : C → C} (hi : ∀ i, i ≠ id → live i → live' i ∧ hv' i = hv i)
    (hg : ∀ c u, c.hd = some id → C.HD0 hv live w okT okP c u → C.HD0 hv' live' w' okT' okP' (g c) u) (hgf : ∀ c f caps, c.hd = some id → g c ≠ .fn f caps) {c : C} {u : Value} (h : C.HD hv live w okT okP c u) :
    C.HD hv' live' w' okT' okP' (c.sub id g) u := by
  by_cases hf : ∃ f caps, c = .fn f caps
  · obtain ⟨f, caps, rfl⟩ := hf
    obtain ⟨us, e, hl, hd⟩ := h
    refine ⟨us, e, by simpa using hl, fun j c u hc hu => ?_⟩
    rw [List.getElem?_map] at hc
    obtain ⟨c0, h0, rfl⟩ := Option.map_eq_some_iff.1 hc
    exact C.HD0.sub k hi hg (hd j c0 u h0 hu)
  · have hf' : ∀ f caps, c ≠ .fn f caps := fun f caps e => hf ⟨f, caps, e⟩
    have h1 := C.HD0.sub k hi hg (C.HD.to0 hf' h)
    have hs : c.sub id g = c.sub0 id g := by cases c <;> first | rfl | exact absurd rfl (hf' _ _)
    rw [hs]
    refine C.HD.of0 (fun f caps e => ?_) h1
    cases c with
    | fn f' caps' => exact hf' _ _ rfl
    | own i =>
      simp only [C.sub0] at e
      split at e
      · rename_i hi'; exact hgf _ _ _ (by rw [hi']; rfl) e
      · cases e
    | mh i =>
      simp only [C.sub0] at e
      split at e
      · rename_i hi'; exact hgf _ _ _ (by rw [hi']; rfl) e
      · cases e
    | ptr i sz j off =>
      simp only [C.sub0] at e
      split at e
      · rename_i hi'; exact hgf (.ptr i sz j off) _ _ (by rw [hi']; rfl) e
      · cases e
    | _ => simp [C.sub0] at e

theorem HDs.sub (k : Keeps w w' okT okP okT' okP') {id : Nat} {g : C → C} (hi : ∀ i, i ≠ id → live i → live' i ∧ hv' i = hv i)
    (hg : ∀ c u, c.hd = some id → C.HD0 hv live w okT okP c u → C.HD0 hv' live' w' okT' okP' (g c) u) (hgf : ∀ c f caps, c.hd = some id → g c ≠ .fn f caps) {cs : List C} {us : List Value} (h : HDs hv live w okT okP cs us) :
    HDs hv' live' w' okT' okP' (cs.map (C.sub id g)) us := by
  refine ⟨by simpa using h.1, fun j c u hc hu => ?_⟩
  rw [List.getElem?_map] at hc
  obtain ⟨c0, h0, rfl⟩ := Option.map_eq_some_iff.1 hc
  exact C.HD.sub k hi hg hgf (h.2 j c0 u h0 hu)
theorem V1.HD.sub (k : Keeps w w' okT okP okT' okP') {id : Nat} {g : C → C} (hi : ∀ i, i ≠ id → live i → live' i ∧ hv' i = hv i)
    (hg : ∀ c u, c.hd = some id → C.HD0 hv live w okT okP c u → C.HD0 hv' live' w' okT' okP' (g c) u) (hgf : ∀ c f caps, c.hd = some id → g c ≠ .fn f caps) {x : V1} {u : Value} (h : x.HD hv live w okT okP u) :
    (x.sub id g).HD hv' live' w' okT' okP' u := by
  cases x with
  | one c => exact C.HD.sub k hi hg hgf h
  | agg cs =>
    obtain ⟨us, e, h⟩ := h
    exact ⟨us, e, HDs.sub k hi hg hgf h⟩
theorem SV.HD.sub (k : Keeps w w' okT okP okT' okP') {id : Nat} {g : C → C} (hi : ∀ i, i ≠ id → live i → live' i ∧ hv' i = hv i)
    (hg : ∀ c u, c.hd = some id → C.HD0 hv live w okT okP c u → C.HD0 hv' live' w' okT' okP' (g c) u) (hgf : ∀ c f caps, c.hd = some id → g c ≠ .fn f caps) {x : SV} {u : Value} (h : x.HD hv live w okT okP u) :
    (x.sub id g).HD hv' live' w' okT' okP' u := by
  cases x with
  | val x => exact V1.HD.sub k hi hg hgf h
  | tup l =>
    obtain ⟨us, e, hl, h⟩ := h
    refine ⟨us, e, by simpa using hl, fun j x u hx hu => ?_⟩
    rw [List.getElem?_map] at hx
    obtain ⟨x0, h0, rfl⟩ := Option.map_eq_some_iff.1 hx
    exact V1.HD.sub k hi hg hgf (h j x0 u h0 hu)
  | un => trivial
theorem flat_subR (id : Nat) (g : C → C) (xs : List (List C)) : (subR id g xs).flatten = xs.flatten.map (C.sub id g) := by
  simp [subR, List.map_flatten]
theorem subR_len (id : Nat) (g : C → C) {n : Nat} {xs : List (List C)} (h : ∀ x ∈ xs, x.length = n) : ∀ x ∈ subR id g xs, x.length = n := fun x hx => by
  obtain ⟨y, hy, rfl⟩ := List.mem_map.1 hx
  simpa using h y hy
theorem subR_append (id : Nat) (g : C → C) (xs ys : List (List C)) : subR id g (xs ++ ys) = subR id g xs ++ subR id g ys := by simp [subR]
theorem RowAt.same {w w' : World} {e sz : Nat} {u : Value} {n : Nat} {vals rest : List Value} (h : RowAt w e sz u n vals rest) (hb' : ∀ b, hb u = some b → w'.heap[b]? = w.heap[b]?) : RowAt w' e sz u n vals rest := by
  rcases h with h | ⟨g, cap, cur, e1, e2, e3⟩
  · exact .inl h
  · exact .inr ⟨g, cap, cur, e1, by rw [hb' g (by rw [e1]; rfl)]; exact e2, e3⟩
theorem Ob.HD.sub (k : Keeps w w' okT okP okT' okP') {id : Nat} {g : C → C} (hi : ∀ i, i ≠ id → live i → live' i ∧ hv' i = hv i)
    (hg : ∀ c u, c.hd = some id → C.HD0 hv live w okT okP c u → C.HD0 hv' live' w' okT' okP' (g c) u) (hgf : ∀ c f caps, c.hd = some id → g c ≠ .fn f caps) {o : Ob} {i : Nat} (hne : i ≠ id) (hl : live i)
    (hb' : ∀ b, hb (hv i) = some b → w'.heap[b]? = w.heap[b]?) (h : o.HD hv live w okT okP i) :
    (o.sub id g).HD hv' live' w' okT' okP' i := by
  have hvi := (hi i hne hl).2
  cases o with
  | row e z xs ys ex =>
    obtain ⟨h1, h2, h3, vals, rest, h4, h5, h6⟩ := h
    refine ⟨h1, by rw [← subR_append]; exact subR_len id g h2, fun e => by rw [h3 e]; rfl, vals, rest, ?_, ?_, ?_⟩
    · rw [hvi]
      have : (subR id g xs).length = xs.length := by simp [subR]
      rw [this]
      exact h4.same hb'
    · rw [flat_subR]; exact HDs.sub k hi hg hgf h5
    · cases ex
      · exact h6
      · simp only [if_true] at h6 ⊢
        rw [flat_subR]; exact HDs.sub k hi hg hgf h6
  | box t cs =>
    obtain ⟨b, cur, h1, h2, h3⟩ := h
    refine ⟨b, cur, by rw [hvi]; exact h1, by rw [hb' b (by rw [h1]; rfl)]; exact h2, HDs.sub k hi hg hgf h3⟩
  | mp es =>
    obtain ⟨b, ents, clock, h1, h2, h3⟩ := h
    exact ⟨b, ents, clock, by rw [hvi]; exact h1, by rw [hb' b (by rw [h1]; rfl)]; exact h2, h3⟩
end

/-! ### the one transition -/
theorem S.sub_ob_same (s : S) (id : Nat) (g : C → C) (o : Option Ob) : (s.sub id g o).ob id = o := by simp [S.sub]
theorem S.sub_ob_ne (s : S) {id i : Nat} (g : C → C) (o : Option Ob) (h : i ≠ id) : (s.sub id g o).ob i = (s.ob i).map (Ob.sub id g) := by simp [S.sub, h]
theorem S.live_sub (s : S) {id i : Nat} (g : C → C) (o : Option Ob) (h : i ≠ id) : (s.sub id g o).live i ↔ s.live i := by
  simp only [S.live, S.sub_ob_ne s g o h]
  constructor
  · rintro ⟨o', ho⟩
    obtain ⟨o0, h0, _⟩ := Option.map_eq_some_iff.1 ho
    exact ⟨o0, h0⟩
  · rintro ⟨o0, h0⟩
    exact ⟨_, by rw [h0]; rfl⟩

theorem R.turn {Γ : Fr} {hv hv' : Nat → Value} {F F' : Nat → Prop} {s : S} {a : Act} {w w' : World} (h : R Γ hv F s a w) (id : Nat) (g : C → C) (o : Option Ob)
    (hbel : Away Γ.L Γ.w0 w') (hF : ∀ b, F b → F' b) (hF' : ∀ b, F' b → Γ.mine b ∧ b < w'.heap.size)
    (hblk : ∀ b, Γ.t F b → w'.heap[b]? = w.heap[b]?)
    (hoth : ∀ i b, i ≠ id → s.live i → hb (hv i) = some b → w'.heap[b]? = w.heap[b]? ∧ b < w'.heap.size ∧ ¬ F' b)
    (hhv : ∀ i, i ≠ id → s.live i → hv' i = hv i)
    (hg : ∀ c u, c.hd = some id → C.HD0 hv s.live w (Γ.t F) (Γ.p F) c u →
      C.HD0 hv' (s.sub id g o).live w' (Γ.t F') (Γ.p F') (g c) u) (hgf : ∀ c f caps, c.hd = some id → g c ≠ .fn f caps)
    (ho : ∀ o', o = some o' → o'.HD hv' (s.sub id g o).live w' (Γ.t F') (Γ.p F') id)
    (hob : ∀ o' b, o = some o' → hb (hv' id) = some b → Γ.mine b ∧ b < w'.heap.size ∧ ¬ F' b ∧ ∀ i, i ≠ id → s.live i → hb (hv i) ≠ some b)
    (hpin : ∀ o' v, o = some o' → Γ.K id = some v → pinOk (hv' id) v) :
    R Γ hv' F' (s.sub id g o) a w' := by
  have k : Keeps w w' (Γ.t F) (Γ.p F) (Γ.t F') (Γ.p F') :=
    ⟨fun b hb => hb.imp (fun x => x) (hF b), fun b hb => hb.imp (fun x => x) (hF b), h.pt, hblk⟩
  have hi : ∀ i, i ≠ id → s.live i → (s.sub id g o).live i ∧ hv' i = hv i := fun i hne hl => ⟨(S.live_sub s g o hne).2 hl, hhv i hne hl⟩
  constructor
  · exact hbel
  · exact h.lo
  · exact h.po
  · exact hF'
  · exact h.defers
  · exact h.size
  · intro t
    exact SV.HD.sub k hi hg hgf (h.slots t)
  · intro i o' hio
    by_cases e : i = id
    · subst e
      rw [S.sub_ob_same] at hio
      exact ho o' hio
    · rw [S.sub_ob_ne s g o e] at hio
      obtain ⟨o0, h0, rfl⟩ := Option.map_eq_some_iff.1 hio
      exact Ob.HD.sub k hi hg hgf e ⟨o0, h0⟩ (fun b hb' => (hoth i b e ⟨o0, h0⟩ hb').1) (h.obs i o0 h0)
  · intro i o' b hio hbi
    by_cases e : i = id
    · subst e
      rw [S.sub_ob_same] at hio
      exact ⟨(hob o' b hio hbi).1, (hob o' b hio hbi).2.1, (hob o' b hio hbi).2.2.1⟩
    · rw [S.sub_ob_ne s g o e] at hio
      obtain ⟨o0, h0, rfl⟩ := Option.map_eq_some_iff.1 hio
      rw [hhv i e ⟨o0, h0⟩] at hbi
      exact ⟨(h.blk i o0 b h0 hbi).1, (hoth i b e ⟨o0, h0⟩ hbi).2⟩
  · intro i j b hli hlj hbi hbj
    by_cases ei : i = id <;> by_cases ej : j = id
    · rw [ei, ej]
    · subst ei
      obtain ⟨o', ho'⟩ := hli
      rw [S.sub_ob_same] at ho'
      have hlj' := (S.live_sub s g o ej).1 hlj
      rw [hhv j ej hlj'] at hbj
      exact absurd hbj ((hob o' b ho' hbi).2.2.2 j ej hlj')
    · subst ej
      obtain ⟨o', ho'⟩ := hlj
      rw [S.sub_ob_same] at ho'
      have hli' := (S.live_sub s g o ei).1 hli
      rw [hhv i ei hli'] at hbi
      exact absurd hbi ((hob o' b ho' hbj).2.2.2 i ei hli')
    · have hli' := (S.live_sub s g o ei).1 hli
      have hlj' := (S.live_sub s g o ej).1 hlj
      rw [hhv i ei hli'] at hbi
      rw [hhv j ej hlj'] at hbj
      exact h.disj i j b hli' hlj' hbi hbj
  · intro i v hk hl
    by_cases e : i = id
    · subst e
      obtain ⟨o', ho'⟩ := hl
      rw [S.sub_ob_same] at ho'
      exact hpin o' v ho' hk
    · have hl' := (S.live_sub s g o e).1 hl
      rw [hhv i e hl']
      exact h.pin i v hk hl'
  · exact h.pins
/-! ### put, draws -/
section
variable {Γ : Fr} {hv : Nat → Value} {F : Nat → Prop} {s : S} {a : Act} {w : World}
theorem S.live_put (s : S) (d : Nat) (x : SV) : (s.put d x).live = s.live := rfl
theorem R.put (h : R Γ hv F s a w) {d : Nat} {x : SV} {u : Value} (hd : d < Γ.N) (hx : x.HD hv s.live w (Γ.t F) (Γ.p F) u) : R Γ hv F (s.put d x) (a.put (some d) u) w := by
  refine ⟨h.away, h.lo, h.po, h.fz, h.defers, by simpa [Act.put] using h.size, fun t => ?_, h.obs, h.blk, h.disj, h.pin, h.pins⟩
  by_cases e : t = d
  · subst e
    simp only [S.put, if_true, Act.put]
    rw [Array.getD_eq_getD_getElem?, Array.getElem?_setIfInBounds_self_of_lt (by rw [h.size]; exact hd)]
    exact hx
  · simp only [S.put, e, if_false, Act.put]
    rw [Array.getD_eq_getD_getElem?, Array.getElem?_setIfInBounds_ne (fun h => e h.symm), ← Array.getD_eq_getD_getElem?]
    exact h.slots t
theorem R.put' (h : R Γ hv F s a w) {d : Option Nat} {x : SV} {u : Value} (hd : ∀ i, d = some i → i < Γ.N) (hx : x.HD hv s.live w (Γ.t F) (Γ.p F) u) : R Γ hv F (s.dst d x) (a.put d u) w := by
  cases d with
  | none => exact h
  | some d => exact h.put (hd d rfl) hx
theorem C.sub0_id (id : Nat) (c : C) : c.sub0 id (fun c => c) = c := by
  cases c <;> simp [C.sub0]
theorem C.sub_id (id : Nat) (c : C) : c.sub id (fun c => c) = c := by
  have h0 : C.sub0 id (fun c => c) = fun c => c := funext (C.sub0_id id)
  cases c <;> simp [C.sub, C.sub0, h0]
theorem V1.sub_id (id : Nat) (x : V1) : x.sub id (fun c => c) = x := by
  have h0 : C.sub id (fun c => c) = fun c => c := funext (C.sub_id id)
  cases x <;> simp [V1.sub, h0]
theorem SV.sub_id (id : Nat) (x : SV) : x.sub id (fun c => c) = x := by
  have h0 : V1.sub id (fun c => c) = fun c => c := funext (V1.sub_id id)
  cases x <;> simp [SV.sub, h0, V1.sub_id]
theorem subR_id (id : Nat) (xs : List (List C)) : subR id (fun c => c) xs = xs := by
  have h0 : C.sub id (fun c => c) = fun c => c := funext (C.sub_id id)
  simp [subR, h0]
theorem Ob.sub_id (id : Nat) (x : Ob) : x.sub id (fun c => c) = x := by
  have h0 : C.sub id (fun c => c) = fun c => c := funext (C.sub_id id)
  cases x <;> simp [Ob.sub, h0, subR_id]
theorem S.sub_id (s : S) (id : Nat) (o : Ob) : s.sub id (fun c => c) (some o) = s.setOb id o := by
  have h0 : Ob.sub id (fun c => c) = fun c => c := funext (Ob.sub_id id)
  simp [S.sub, S.setOb, SV.sub_id, h0]
end
/-! ### worlds that turned elsewhere -/
section
variable {Γ : Fr} {hv : Nat → Value} {F : Nat → Prop} {s : S} {a : Act} {w : World}
theorem R.world (h : R Γ hv F s a w) {w' : World} (hbel : Away Γ.L Γ.w0 w') (hsz : w.heap.size ≤ w'.heap.size) (hblk : ∀ b, b < w.heap.size → w'.heap[b]? = w.heap[b]?) : R Γ hv F s a w' := by
  have k : Keeps w w' (Γ.t F) (Γ.p F) (Γ.t F) (Γ.p F) :=
    ⟨fun b hb => hb, fun b hb => hb, h.pt, fun b hb => hblk b (h.t_lt hb)⟩
  have hi : ∀ (d : Nat) i, i ≠ d → s.live i → s.live i ∧ hv i = hv i := fun _ i _ hl => ⟨hl, rfl⟩
  have hg : ∀ (d : Nat) c u, C.hd c = some d → C.HD0 hv s.live w (Γ.t F) (Γ.p F) c u → C.HD0 hv s.live w' (Γ.t F) (Γ.p F) ((fun c => c) c) u := fun d c u hc hh => by
    cases c <;> simp [C.hd] at hc <;> exact hh
  have hgf : ∀ (d : Nat) c f caps, C.hd c = some d → (fun c => c) c ≠ C.fn f caps := fun d c f caps hc => by cases c <;> simp [C.hd] at hc ⊢
  refine ⟨hbel, h.lo, h.po, fun b hb => ⟨(h.fz b hb).1, by have := (h.fz b hb).2; omega⟩, h.defers, h.size, fun t => ?_, fun i o ho => ?_, fun i o b ho hb => ?_, h.disj, h.pin, h.pins⟩
  · have := SV.HD.sub (id := 0) (g := fun c => c) k (hi 0) (hg 0) (hgf 0) (h.slots t)
    rwa [SV.sub_id] at this
  · have := Ob.HD.sub (id := i + 1) (g := fun c => c) k (hi (i + 1)) (hg _) (hgf _) (show i ≠ i + 1 by omega) ⟨o, ho⟩ (fun b hb => hblk b (h.blk i o b ho hb).2.1) (h.obs i o ho)
    rwa [Ob.sub_id] at this
  · have := h.blk i o b ho hb
    exact ⟨this.1, by omega, this.2.2⟩
theorem Away.alloc {L : Nat → Prop} {w0 w : World} (h : Away L w0 w) (o : Obj) : Away L w0 (w.alloc o) :=
  ⟨h.os, h.tape, h.output, by have := h.size; simp; omega, fun b hb hL => (Below.heap_alloc w o b (Nat.lt_of_lt_of_le hb h.size)).trans (h.block b hb hL)⟩
theorem Away.drew {L : Nat → Prop} {w0 w : World} (h : Away L w0 w) : Away L w0 w.drew := ⟨h.os, h.tape, h.output, h.size, h.block⟩
theorem R.alloc (h : R Γ hv F s a w) (o : Obj) : R Γ hv F s a (w.alloc o) :=
  h.world (h.away.alloc o) (by simp) (fun b hb => Below.heap_alloc w o b hb)
theorem R.drew (h : R Γ hv F s a w) : R Γ hv F s a w.drew := h.world h.away.drew (Nat.le_refl _) (fun _ _ => rfl)
/-- An object is forgotten. -/
theorem R.kill (h : R Γ hv F s a w) (id : Nat) : R Γ hv F (s.kill id) a w := by
  refine h.turn id (fun _ => .un) none h.away (fun _ x => x) h.fz (fun _ _ => rfl) (fun i b _ hl hb => ?_) (fun _ _ _ => rfl) (fun c u _ hh => hh.one) (fun c f caps _ => by simp) (fun o' e => by cases e) (fun o' b e => by cases e) (fun o' v e => by cases e)
  obtain ⟨o, ho⟩ := hl
  exact ⟨rfl, (h.blk i o b ho hb).2⟩
theorem S.kill_ob (s : S) (id : Nat) : (s.kill id).ob id = none := S.sub_ob_same ..
/-- A new object, at a place that is free. -/
theorem R.new (h : R Γ hv F s a w) {id : Nat} {o : Ob} {v : Value} (hid : s.ob id = none) (hk : Γ.K id = none)
    (ho : o.HD (fun i => if i = id then v else hv i) (s.setOb id o).live w (Γ.t F) (Γ.p F) id)
    (hob : ∀ b, hb v = some b → Γ.mine b ∧ b < w.heap.size ∧ ¬ F b ∧ ∀ i, s.live i → hb (hv i) ≠ some b) :
    R Γ (fun i => if i = id then v else hv i) F (s.setOb id o) a w := by
  have hnl : ¬ s.live id := fun ⟨o, ho⟩ => by rw [hid] at ho; cases ho
  rw [← S.sub_id] at ho ⊢
  refine h.turn id (fun c => c) (some o) h.away (fun _ x => x) h.fz (fun _ _ => rfl) (fun i b _ hl hb => ?_) (fun i hne _ => by simp [hne]) (fun c u hc hh => ?_) (fun c f caps hc => by cases c <;> simp [C.hd] at hc ⊢) (fun o' e => by cases e; exact ho) (fun o' b e hb => ?_) (fun o' v e hkv => by rw [hk] at hkv; cases hkv)
  · obtain ⟨o, ho⟩ := hl
    exact ⟨rfl, (h.blk i o b ho hb).2⟩
  · exfalso
    cases c <;> simp [C.hd] at hc <;> subst hc <;> first | exact hnl hh.1
  · simp only [if_true] at hb
    obtain ⟨h1, h2, h3, h4⟩ := hob b hb
    exact ⟨h1, h2, h3, fun i _ hl => h4 i hl⟩
end
/-! ### types -/
structure TyI where
  sz : Nat
  by_ : Nat
  agg : Bool
def isAggD : TypeDesc → Bool
  | .struct _ | .array _ _ => true
  | _ => false
def tyI (P : Program) (t : Nat) : Option TyI :=
  match P.info? t, P.underlying t with
  | some i, some d => some ⟨i.size, i.bytes, isAggD d⟩
  | _, _ => none
def elT (P : Program) (t : Nat) : Option Nat := match P.underlying t with | some (.slice e) => some e | _ => none
def fldT (P : Program) (t f : Nat) : Option (Nat × Nat) := match P.underlying t with | some (.struct fs) => (fs[f]?).map fun x => (x.offset, x.type) | _ => none
def constC : Value → C
  | .slice none 0 0 => .sl false 0 [] [] true
  | v => .v v
def zeroT (P : Program) (t : Nat) : Option (List C) := ((P.info? t).bind (·.zero)).map fun z => z.cells.toList.map constC

theorem tyI_some {P : Program} {t : Nat} {y : TyI} (h : tyI P t = some y) : ∃ i d, P.info? t = some i ∧ P.underlying t = some d ∧ i.size = y.sz ∧ i.bytes = y.by_ ∧ isAggD d = y.agg := by
  unfold tyI at h
  split at h
  · rename_i i d h1 h2
    cases h
    exact ⟨i, d, h1, h2, rfl, rfl, rfl⟩
  · cases h
theorem elT_some {P : Program} {t e : Nat} (h : elT P t = some e) : P.underlying t = some (.slice e) := by
  unfold elT at h
  split at h
  · rename_i x e1; cases h; exact e1
  · cases h
theorem run_isAgg' {P : Program} {t : Nat} {y : TyI} (h : tyI P t = some y) (w : World) : (isAgg t).run P w = .ok y.agg w := by
  obtain ⟨i, d, h1, h2, _, _, h5⟩ := tyI_some h
  unfold isAgg
  simp only [Sem.run_bind, run_underlying h2, Result.andThen_ok]
  rw [← h5]
  cases d <;> rfl
theorem run_sizeOf' {P : Program} {t : Nat} {y : TyI} (h : tyI P t = some y) (w : World) : (sizeOf t).run P w = .ok y.sz w := by
  obtain ⟨i, d, h1, h2, h3, _, _⟩ := tyI_some h
  simp [sizeOf, typeInfo, h1, h3]
theorem addr_add (b o j : Nat) : (⟨b, o, none⟩ : Addr).add j = ⟨b, o + j, none⟩ := by unfold Addr.add; split <;> simp_all

/-! ### cells and lists -/
theorem dens_iff {w : World} {ok : Nat → Prop} : ∀ {cs : List C} {us : List Value}, Dens w ok cs us ↔ (us.length = cs.length ∧ ∀ (j : Nat) c u, cs[j]? = some c → us[j]? = some u → C.Den w ok c u)
  | [], us => by
    simp only [Dens]
    constructor
    · rintro rfl; simp
    · rintro ⟨h, _⟩; exact List.eq_nil_of_length_eq_zero h
  | c :: cs, us => by
    simp only [Dens]
    constructor
    · rintro ⟨u, us', rfl, h1, h2⟩
      obtain ⟨hl, hp⟩ := dens_iff.1 h2
      refine ⟨by simp [hl], fun j => ?_⟩
      cases j with
      | zero => intro c' u' hc hu; simp at hc hu; subst hc hu; exact h1
      | succ j => intro c' u' hc hu; simp at hc hu; exact hp j c' u' hc hu
    · rintro ⟨hl, hp⟩
      cases us with
      | nil => simp at hl
      | cons u us' => exact ⟨u, us', rfl, hp 0 c u rfl rfl, dens_iff.2 ⟨by simpa using hl, fun j c' u' hc hu => hp (j + 1) c' u' (by simpa using hc) (by simpa using hu)⟩⟩
theorem Dens.slice {w : World} {ok : Nat → Prop} {cs : List C} {us : List Value} (h : Dens w ok cs us) (o n : Nat) : Dens w ok ((cs.drop o).take n) ((us.drop o).take n) := by
  obtain ⟨hl, hp⟩ := dens_iff.1 h
  refine dens_iff.2 ⟨by simp [hl], fun j c u hc hu => ?_⟩
  rw [List.getElem?_take] at hc hu
  split at hc
  · rename_i hj
    rw [if_pos hj] at hu
    rw [List.getElem?_drop] at hc hu
    exact hp _ c u hc hu
  · cases hc
theorem Dens.append {w : World} {ok : Nat → Prop} {cs cs' : List C} {us us' : List Value} (h : Dens w ok cs us) (h' : Dens w ok cs' us') : Dens w ok (cs ++ cs') (us ++ us') := by
  obtain ⟨hl, hp⟩ := dens_iff.1 h
  obtain ⟨hl', hp'⟩ := dens_iff.1 h'
  refine dens_iff.2 ⟨by simp [hl, hl'], fun j c u hc hu => ?_⟩
  by_cases hj : j < cs.length
  · rw [List.getElem?_append_left hj] at hc
    rw [List.getElem?_append_left (by omega)] at hu
    exact hp j c u hc hu
  · rw [List.getElem?_append_right (by omega)] at hc
    rw [List.getElem?_append_right (by omega), hl] at hu
    exact hp' _ c u hc hu
theorem HDs.slice {hv : Nat → Value} {live : Nat → Prop} {w : World} {okT okP : Nat → Prop} {cs : List C} {us : List Value} (h : HDs hv live w okT okP cs us) (o n : Nat) : HDs hv live w okT okP ((cs.drop o).take n) ((us.drop o).take n) := by
  obtain ⟨hl, hp⟩ := h
  refine ⟨by simp [hl], fun j c u hc hu => ?_⟩
  rw [List.getElem?_take] at hc hu
  split at hc
  · rename_i hj
    rw [if_pos hj] at hu
    rw [List.getElem?_drop] at hc hu
    exact hp _ c u hc hu
  · cases hc
theorem HDs.append {hv : Nat → Value} {live : Nat → Prop} {w : World} {okT okP : Nat → Prop} {cs cs' : List C} {us us' : List Value} (h : HDs hv live w okT okP cs us) (h' : HDs hv live w okT okP cs' us') : HDs hv live w okT okP (cs ++ cs') (us ++ us') := by
  obtain ⟨hl, hp⟩ := h
  obtain ⟨hl', hp'⟩ := h'
  refine ⟨by simp [hl, hl'], fun j c u hc hu => ?_⟩
  by_cases hj : j < cs.length
  · rw [List.getElem?_append_left hj] at hc
    rw [List.getElem?_append_left (by omega)] at hu
    exact hp j c u hc hu
  · rw [List.getElem?_append_right (by omega)] at hc
    rw [List.getElem?_append_right (by omega), hl] at hu
    exact hp' _ c u hc hu
theorem C.Den.one {w : World} {ok : Nat → Prop} {c : C} {u : Value} (h : C.Den w ok c u) : u.oneCell' = true := by
  cases c with
  | v x => simp only [C.Den] at h; rw [h.1]; exact h.2
  | sl t sz xs ys ex => simp only [C.Den] at h; obtain ⟨A, c, rfl, _⟩ := h; rfl
  | fp t cs => simp only [C.Den] at h; obtain ⟨b, o, rfl, _⟩ := h; rfl
  | fn f caps => simp only [C.Den] at h; obtain ⟨us, rfl, _⟩ := h; rfl
  | un => simpa [C.Den] using h
  | own => simp [C.Den] at h
  | ptr => simp [C.Den] at h
  | mh => simp [C.Den] at h
/-- What a frozen cell says, in a slot. -/
def C.rt (t : Bool) (c : C) : C :=
  match t, c with
  | true, .sl _ sz xs ys ex => .sl true sz xs ys ex
  | true, .fp _ cs => .fp true cs
  | true, .fn _ _ => .un
  | _, c => c
theorem C.Den.hd {hv : Nat → Value} {live : Nat → Prop} {w : World} {okT okP : Nat → Prop} (k : ∀ b, okP b → okT b) {c : C} {u : Value} (h : C.Den w okP c u) : C.HD hv live w okT okP c u := by
  cases c with
  | v x => simpa [C.Den, C.HD, C.HD0] using h
  | sl t sz xs ys ex => cases t <;> first | exact h | exact C.Den.mono k (fun _ _ => rfl) _ _ h
  | fp t cs => cases t <;> first | exact h | exact C.Den.mono k (fun _ _ => rfl) _ _ h
  | fn f caps =>
    simp only [C.Den] at h
    obtain ⟨us, e, hd⟩ := h
    obtain ⟨hl, hp⟩ := dens_iff.1 hd
    refine ⟨us, e, hl, fun j c u hc hu => ?_⟩
    have h1 := hp j c u hc hu
    cases c with
    | v x => simpa [C.Den, C.HD0] using h1
    | sl t sz xs ys ex => cases t <;> first | exact h1 | exact C.Den.mono k (fun _ _ => rfl) _ _ h1
    | fp t cs => cases t <;> first | exact h1 | exact C.Den.mono k (fun _ _ => rfl) _ _ h1
    | fn f caps => exact h1
    | un => exact h1.one
    | own => simp [C.Den] at h1
    | ptr => simp [C.Den] at h1
    | mh => simp [C.Den] at h1
  | un => exact h.one
  | own => simp [C.Den] at h
  | ptr => simp [C.Den] at h
  | mh => simp [C.Den] at h
theorem C.Den.rt {hv : Nat → Value} {live : Nat → Prop} {w : World} {okT okP : Nat → Prop} (k : ∀ b, okP b → okT b) {t : Bool} {c : C} {u : Value} (h : C.Den w (if t then okT else okP) c u) : C.HD hv live w okT okP (c.rt t) u := by
  cases t
  · exact C.Den.hd k h
  · cases c with
    | v x => simp only [C.Den] at h; exact h
    | sl t sz xs ys ex => exact h
    | fp t cs => exact h
    | fn f caps => exact C.Den.one h
    | un => exact C.Den.one h
    | own => simp [C.Den] at h
    | ptr => simp [C.Den] at h
    | mh => simp [C.Den] at h
theorem Dens.hds {hv : Nat → Value} {live : Nat → Prop} {w : World} {okT okP : Nat → Prop} (k : ∀ b, okP b → okT b) {cs : List C} {us : List Value} (h : Dens w okP cs us) : HDs hv live w okT okP cs us := by
  obtain ⟨hl, hp⟩ := dens_iff.1 h
  exact ⟨hl, fun j c u hc hu => C.Den.hd k (hp j c u hc hu)⟩
theorem Dens.rt {hv : Nat → Value} {live : Nat → Prop} {w : World} {okT okP : Nat → Prop} (k : ∀ b, okP b → okT b) {t : Bool} {cs : List C} {us : List Value} (h : Dens w (if t then okT else okP) cs us) : HDs hv live w okT okP (cs.map (C.rt t)) us := by
  obtain ⟨hl, hp⟩ := dens_iff.1 h
  refine ⟨by simpa using hl, fun j c u hc hu => ?_⟩
  rw [List.getElem?_map] at hc
  obtain ⟨c0, h0, rfl⟩ := Option.map_eq_some_iff.1 hc
  exact C.Den.rt k (hp j c0 u h0 hu)
/-- Frozen cells as values. -/
theorem Cells.get {w : World} {ok : Nat → Prop} {b : Nat} : ∀ {cs : List C} {o : Nat}, Cells w ok b o cs → ∃ us : List Value, (∀ (j : Nat) u, us[j]? = some u → w.cell? ⟨b, o + j, none⟩ = some u) ∧ Dens w ok cs us
  | [], o, _ => ⟨[], by simp, by simp [Dens]⟩
  | c :: cs, o, h => by
    simp only [Cells] at h
    obtain ⟨⟨u, hu, hd⟩, hr⟩ := h
    obtain ⟨us, h1, h2⟩ := Cells.get hr
    refine ⟨u :: us, fun j => ?_, by simp only [Dens]; exact ⟨u, us, rfl, hd, h2⟩⟩
    cases j with
    | zero => intro v hv; simp at hv; subst hv; exact hu
    | succ j => intro v hv; simp at hv; have := h1 j v hv; rwa [Nat.add_assoc, Nat.add_comm 1 j] at this
theorem Cells.mk {w : World} {ok : Nat → Prop} {b : Nat} : ∀ {cs : List C} {us : List Value} {o : Nat}, (∀ (j : Nat) u, us[j]? = some u → w.cell? ⟨b, o + j, none⟩ = some u) → Dens w ok cs us → Cells w ok b o cs
  | [], _, o, _, _ => by simp [Cells]
  | c :: cs, us, o, h1, h2 => by
    simp only [Dens] at h2
    obtain ⟨u, us', rfl, hd, hr⟩ := h2
    simp only [Cells]
    exact ⟨⟨u, h1 0 u rfl, hd⟩, Cells.mk (us := us') (fun j v hv => by have := h1 (j + 1) v (by simpa using hv); rwa [Nat.add_assoc, Nat.add_comm 1 j]) hr⟩
theorem Cells.drop {w : World} {ok : Nat → Prop} {b : Nat} : ∀ {cs : List C} {o : Nat} (k : Nat), Cells w ok b o cs → Cells w ok b (o + k) (cs.drop k)
  | cs, o, 0, h => by simpa using h
  | [], o, k + 1, _ => by simp [Cells]
  | c :: cs, o, k + 1, h => by
    simp only [Cells] at h
    have := Cells.drop k h.2
    rwa [Nat.add_assoc, Nat.add_comm 1 k] at this
theorem Rows.at_ {w : World} {ok : Nat → Prop} {b sz : Nat} : ∀ {xs : List (List C)} {o i : Nat} {el : List C}, Rows w ok b o xs → (∀ e ∈ xs, e.length = sz) → xs[i]? = some el → Cells w ok b (o + i * sz) el
  | [], o, i, el, _, _, h => by simp at h
  | e :: es, o, 0, el, h, _, hi => by
    simp at hi; subst hi
    simp only [Rows] at h
    simpa using h.1
  | e :: es, o, i + 1, el, h, hs, hi => by
    simp only [Rows] at h
    have := Rows.at_ (i := i) h.2 (fun x hx => hs x (by simp [hx])) (by simpa using hi)
    rw [hs e (by simp)] at this
    rw [show o + (i + 1) * sz = o + sz + i * sz by rw [Nat.add_mul]; omega]
    exact this
theorem flat_drop {α : Type} {sz : Nat} : ∀ {xs : List (List α)} (i : Nat), (∀ e ∈ xs, e.length = sz) → xs.flatten.drop (i * sz) = (xs.drop i).flatten
  | xs, 0, _ => by simp
  | [], i + 1, _ => by simp
  | e :: es, i + 1, h => by
    rw [List.flatten_cons, show (i + 1) * sz = e.length + i * sz by rw [h e (by simp), Nat.add_mul]; omega, ← List.drop_drop, List.drop_left, List.drop_succ_cons]
    exact flat_drop i (fun x hx => h x (by simp [hx]))
theorem flat_length {α : Type} {sz : Nat} : ∀ {xs : List (List α)}, (∀ e ∈ xs, e.length = sz) → xs.flatten.length = xs.length * sz
  | [], _ => by simp
  | e :: es, h => by rw [List.flatten_cons, List.length_append, flat_length (fun x hx => h x (by simp [hx])), h e (by simp), List.length_cons, Nat.add_mul]; omega
theorem flat_at {α : Type} {sz : Nat} {xs : List (List α)} {i : Nat} {el : List α} (h : ∀ e ∈ xs, e.length = sz) (hi : xs[i]? = some el) : (xs.flatten.drop (i * sz)).take sz = el := by
  rw [flat_drop i h]
  have hlt : i < xs.length := (List.getElem?_eq_some_iff.1 hi).1
  rw [List.drop_eq_getElem_cons hlt, List.flatten_cons]
  have he : xs[i] = el := by rw [List.getElem?_eq_getElem hlt] at hi; exact Option.some.inj hi
  rw [he, ← h el (by rw [← he]; exact List.getElem_mem hlt)]
  exact List.take_left
theorem flat_set {α : Type} {sz : Nat} : ∀ {xs : List (List α)} {i : Nat} {el : List α}, (∀ e ∈ xs, e.length = sz) → i < xs.length → el.length = sz →
    (xs.set i el).flatten = xs.flatten.take (i * sz) ++ el ++ xs.flatten.drop (i * sz + sz)
  | [], i, _, _, h, _ => by simp at h
  | e :: es, 0, el, h, _, hl => by
    simp only [List.set_cons_zero, List.flatten_cons, Nat.zero_mul, List.take_zero, List.nil_append, Nat.zero_add]
    rw [show sz = e.length from (h e (by simp)).symm, List.drop_left]
  | e :: es, i + 1, el, h, hi, hl => by
    have ih := flat_set (i := i) (el := el) (fun x hx => h x (List.mem_cons_of_mem _ hx)) (by simpa using hi) hl
    have he := h e (by simp)
    rw [List.set_cons_succ, List.flatten_cons, ih, List.flatten_cons, show (i + 1) * sz = e.length + i * sz by rw [he, Nat.add_mul]; omega, List.take_length_add_append, Nat.add_assoc, List.drop_length_add_append]
    simp
/-! ### operands; what an operation does -/
def SV.c (c : C) : SV := .val (.one c)
def SV.int (k : IntKind) (n : Int) : SV := .val (.one (.v (.int k n)))
def SV.bool (b : Bool) : SV := .val (.one (.v (.bool b)))
def S.ev (s : S) : Operand → SV
  | .tmp t => s.sl t
  | .const v => .val (.one (constC v))
  | .func f => .val (.one (.fn f []))
  | .global _ => .un
def SV.cells : SV → Option (List C)
  | .val x => some x.cells
  | _ => none
def mk1 (agg : Bool) (cs : List C) : Option SV :=
  if agg then some (.val (.agg cs)) else match cs with
    | [c] => some (.val (.one c))
    | _ => none
def pickV (t : Bool) (x y : SV) : SV :=
  match x, y with
  | .val (.one (.v (.bool p))), .val (.one (.v (.bool q))) => .val (.one (.v (.bool (if t then p else q))))
  | _, _ => if t then x else y
def S.newOb (s : S) (d : Nat) (o : Ob) (x : SV) : S := ((s.kill d).setOb d o).put d x
/-- May a cell lie in a row? -/
def C.st : C → Bool
  | .v _ => true
  | .sl t _ _ _ _ => !t
  | .fp t _ => !t
  | _ => false

def constOk (v : Value) : Bool := v.oneCell' && (match v with | .slice (some _) _ _ => false | .slice none 0 0 => true | .slice _ _ _ => false | _ => true)

section
variable {P : Program} {Γ : Fr} {hv : Nat → Value} {F : Nat → Prop} {s : S} {a : Act} {w : World}
theorem constC_den {v : Value} (h : v.oneCell' = true) (w : World) (ok : Nat → Prop) : C.Den w ok (constC v) v := by
  unfold constC
  split
  · exact ⟨none, 0, rfl, Nat.le_refl _, fun _ h => absurd h List.not_mem_nil, fun _ => rfl, .inl rfl⟩
  · simpa only [C.Den, true_and] using h
theorem R.ev (h : R Γ hv F s a w) (x : Operand) (hx : ∀ v, x = .const v → v.oneCell' = true) : (s.ev x).HD hv s.live w (Γ.t F) (Γ.p F) (a.eval x) := by
  cases x with
  | tmp t => exact h.slots t
  | const v => exact C.Den.hd h.pt (constC_den (hx v rfl) w _)
  | global g => trivial
  | func f => exact ⟨[], rfl, rfl, fun j c u hc => by simp at hc⟩
/-- The place of an address. -/
theorem R.load_fp (h : R Γ hv F s a w) {t : Bool} {cs : List C} {u : Value} (hu : C.HD hv s.live w (Γ.t F) (Γ.p F) (.fp t cs) u) :
    ∃ b o, u = .pointer (some ⟨b, o, none⟩) ∧ ∃ us : List Value, (∀ (j : Nat) v, us[j]? = some v → w.cell? ⟨b, o + j, none⟩ = some v) ∧ us.length = cs.length ∧ HDs hv s.live w (Γ.t F) (Γ.p F) (cs.map (C.rt t)) us := by
  have hu' : C.Den w (if t then Γ.t F else Γ.p F) (.fp t cs) u := hu
  simp only [C.Den] at hu'
  obtain ⟨b, o, rfl, hb, hc⟩ := hu'
  obtain ⟨us, h1, h2⟩ := Cells.get hc
  exact ⟨b, o, rfl, us, h1, (dens_iff.1 h2).1, Dens.rt h.pt h2⟩
theorem run_loadVar_cells {t : Nat} {y : TyI} (hy : tyI P t = some y) {b o : Nat} {us : List Value} (hl : us.length = y.sz) (hus : ∀ (j : Nat) v, us[j]? = some v → w.cell? ⟨b, o + j, none⟩ = some v) :
    (Instr.loadAt t (.pointer (some ⟨b, o, none⟩))).run P w = (if y.agg then Result.ok (.agg us.toArray) w else match us with | [v] => .ok v w | _ => (Instr.loadAt t (.pointer (some ⟨b, o, none⟩))).run P w) := by
  have hc : ∀ (j : Nat) v, us[j]? = some v → w.cell? ((⟨b, o, none⟩ : Addr).add j) = some v := fun j v hj => by rw [addr_add]; exact hus j v hj
  by_cases ha : y.agg = true
  · rw [if_pos ha]
    have := run_loadCells_list (P := P) (w := w) ⟨b, o, none⟩ us hc
    rw [hl] at this
    simp only [Instr.loadAt, Instr.sureAddr, loadVar, Sem.run_bind, Sem.run_pure, Result.andThen_ok, run_isAgg' hy, ha, if_true, run_sizeOf' hy, this]
  · rw [if_neg ha]
    match us, hus with
    | [v], hus =>
      have h0 := hus 0 v rfl
      simp only [Nat.add_zero] at h0
      simp only [Instr.loadAt, Instr.sureAddr, loadVar, Sem.run_bind, Sem.run_pure, Result.andThen_ok, run_isAgg' hy, ha, if_false, Bool.false_eq_true, run_load, h0]
    | [], _ => rfl
    | _ :: _ :: _, _ => rfl
theorem load_of {s : S} {t : Nat} {y : TyI} (hy : tyI P t = some y) {b o : Nat} {us : List Value} {cs : List C} {sv : SV} {okT okP : Nat → Prop} (hl : us.length = y.sz) (hus : ∀ (j : Nat) v, us[j]? = some v → w.cell? ⟨b, o + j, none⟩ = some v)
    (hds : HDs hv s.live w okT okP cs us) (hm : mk1 y.agg cs = some sv) : ∃ v, (Instr.loadAt t (.pointer (some ⟨b, o, none⟩))).run P w = .ok v w ∧ sv.HD hv s.live w okT okP v := by
  have hrun := run_loadVar_cells (P := P) (w := w) hy hl hus
  unfold mk1 at hm
  split at hm
  · rename_i ha
    cases hm
    exact ⟨_, by rw [hrun, if_pos ha], us, rfl, hds⟩
  · rename_i ha
    rw [if_neg ha] at hrun
    split at hm
    · rename_i c
      cases hm
      have h1 : us.length = 1 := hds.1
      match us, h1 with
      | [v], _ => exact ⟨v, hrun, hds.2 0 c v rfl rfl⟩
    · cases hm
theorem RowAt.own {e sz : Nat} {u : Value} {n : Nat} {vals rest : List Value} (h : RowAt w e sz u n vals rest) : w.ownsRow 0 e sz u n vals := by
  rcases h with ⟨h1, h2, h3, _⟩ | ⟨g, cap, cur, e1, e2, e3, e4, e5, e6, e7⟩
  · subst h1 h2 h3; exact World.ownsRow_nil _ _ _ _
  · exact ⟨e7, .inr ⟨g, cap, cur, e1, Nat.zero_le _, e2, e3, e4, e5, by rw [e6, ← e7]; exact List.take_left⟩⟩
theorem RowAt.slice {e sz : Nat} {u : Value} {n : Nat} {vals rest : List Value} (h : RowAt w e sz u n vals rest) : ∃ A c, u = .slice A n c ∧ n ≤ c ∧ (A = none ∨ ∃ g, A = some ⟨g, 0, none⟩) := by
  rcases h with ⟨h1, h2, h3, _⟩ | ⟨g, cap, cur, e1, e2, e3, e4, e5, e6, e7⟩
  · subst h1 h2; exact ⟨none, 0, rfl, Nat.le_refl _, .inl rfl⟩
  · exact ⟨_, cap, e1, e3, .inr ⟨g, rfl⟩⟩
theorem R.load_row (h : R Γ hv F s a w) {id e i : Nat} {z : List C} {xs ys : List (List C)} {ex : Bool} {el : List C} (ho : s.ob id = some (.row e z xs ys ex)) (hi : xs[i]? = some el) :
    ∃ g cap, hv id = .slice (some ⟨g, 0, none⟩) xs.length cap ∧ ∃ us : List Value, (∀ (j : Nat) v, us[j]? = some v → w.cell? ⟨g, i * z.length + j, none⟩ = some v) ∧ HDs hv s.live w (Γ.t F) (Γ.p F) el us := by
  obtain ⟨hsz, hall, _, vals, rest, hown, hd, _⟩ := h.obs id _ ho
  have hlt : i < xs.length := (List.getElem?_eq_some_iff.1 hi).1
  have hown' := hown.own
  rcases hown with ⟨_, h0, _⟩ | ⟨g, cap, cur, e1, e2, e3, e4, e5, e6, e7⟩
  · omega
  · have hcell := hown'.cells (g := g) (by rw [e1]; rfl)
    refine ⟨g, cap, e1, (vals.drop (i * z.length)).take z.length, fun j v hj => ?_, ?_⟩
    · rw [List.getElem?_take] at hj
      split at hj
      · rw [List.getElem?_drop] at hj
        have := hcell _ v hj
        rwa [addr_add, Nat.zero_add] at this
      · cases hj
    · rw [← flat_at (fun x hx => hall x (List.mem_append_left _ hx)) hi]
      exact hd.slice _ _
theorem R.load_box (h : R Γ hv F s a w) {id t : Nat} {cs : List C} (ho : s.ob id = some (.box t cs)) :
    ∃ b, hv id = .pointer (some ⟨b, 0, none⟩) ∧ ∃ us : List Value, (∀ (j : Nat) v, us[j]? = some v → w.cell? ⟨b, j, none⟩ = some v) ∧ HDs hv s.live w (Γ.t F) (Γ.p F) cs us := by
  obtain ⟨b, cur, e1, e2, e3⟩ := h.obs id _ ho
  refine ⟨b, e1, cur.toList, fun j v hj => ?_, e3⟩
  simp only [World.cell?, e2]
  simpa using hj
end
/-! ### operations without memory of their own: one step -/
def intBin (op : BinOp) (k : IntKind) (x y : Int) : Option (Prop × C) :=
  match op with
  | .add => some (True, .v (.int k (k.wrap (x + y))))
  | .sub => some (True, .v (.int k (k.wrap (x - y))))
  | .mul => some (True, .v (.int k (k.wrap (x * y))))
  | .quo => some (y ≠ 0, .v (.int k (k.wrap (x.tdiv y))))
  | .rem => some (y ≠ 0, .v (.int k (x.tmod y)))
  | .and => some (True, .v (.int k (k.wrap ((BitVec.ofInt k.bits x &&& BitVec.ofInt k.bits y).toNat))))
  | .or => some (True, .v (.int k (k.wrap ((BitVec.ofInt k.bits x ||| BitVec.ofInt k.bits y).toNat))))
  | .xor => some (True, .v (.int k (k.wrap ((BitVec.ofInt k.bits x ^^^ BitVec.ofInt k.bits y).toNat))))
  | .andNot => some (True, .v (.int k (k.wrap ((BitVec.ofInt k.bits x &&& ~~~ BitVec.ofInt k.bits y).toNat))))
  | .eql => some (True, .v (.bool (x == y)))
  | .neq => some (True, .v (.bool (x != y)))
  | .lss => some (True, .v (.bool (decide (x < y))))
  | .leq => some (True, .v (.bool (decide (x ≤ y))))
  | .gtr => some (True, .v (.bool (decide (x > y))))
  | .geq => some (True, .v (.bool (decide (x ≥ y))))
  | _ => none
def shiftBin (op : BinOp) (k : IntKind) (x y : Int) : Option (Prop × C) :=
  match op with
  | .shl => some (0 ≤ y, .v (.int k (k.wrap (x * 2 ^ (min y.toNat k.bits)))))
  | .shr => some (0 ≤ y, .v (.int k (x.fdiv (2 ^ (min y.toNat k.bits)))))
  | _ => none
def C.nilP : C → Option Bool   -- is it a nil pointer
  | .v (.pointer none) => some true
  | .ptr .. => some false
  | .fp .. => some false
  | _ => none
/-- Structs of whole numbers and bools, compared. -/
def cellsEq : List C → List C → Option Bool
  | [], [] => some true
  | .v (.int _ x) :: cs, .v (.int _ y) :: ds => (cellsEq cs ds).map ((x == y) && ·)
  | .v (.bool x) :: cs, .v (.bool y) :: ds => (cellsEq cs ds).map ((x == y) && ·)
  | _, _ => none
def isBoolT (P : Program) (t : Nat) : Bool := match P.underlying t with | some .bool => true | _ => false
def binC (P : Program) (op : BinOp) (t : Nat) (x y : SV) : Option (Prop × C) :=
  match op, x, y with
  | .shl, .val (.one (.v (.int k a))), .val (.one (.v (.int _ b))) => shiftBin .shl k a b
  | .shr, .val (.one (.v (.int k a))), .val (.one (.v (.int _ b))) => shiftBin .shr k a b
  | op, .val (.one (.v (.int k a))), .val (.one (.v (.int k' b))) => if k = k' then intBin op k a b else none
  | .eql, .val (.one (.v (.bool a))), .val (.one (.v (.bool b))) => if isBoolT P t then some (True, .v (.bool (a == b))) else none
  | .neq, .val (.one (.v (.bool a))), .val (.one (.v (.bool b))) => if isBoolT P t then some (True, .v (.bool (a != b))) else none
  | .eql, .val (.one (.v (.string a))), .val (.one (.v (.string b))) => some (True, .v (.bool (a.toList == b.toList)))
  | .neq, .val (.one (.v (.string a))), .val (.one (.v (.string b))) => some (True, .v (.bool !(a.toList == b.toList)))
  | _, _, _ => none
/-- The value of an operation that looks at no memory. -/
def pureC (P : Program) (o : Oper) (s : S) : Option (Prop × SV) :=
  match o.op with
  | .move x | .assign x => some (True, s.ev x)
  | .pick c x y => match s.ev c with
    | .val (.one (.v (.bool t))) => some (True, pickV t (s.ev x) (s.ev y))
    | _ => none
  | .binOp op t x y _ => (binC P op t (s.ev x) (s.ev y)).map fun (p, c) => (p, .val (.one c))
  | .unOp .not _ x => match s.ev x with
    | .val (.one (.v (.bool t))) => some (True, .val (.one (.v (.bool !t))))
    | _ => none
  | .unOp .neg _ x => match s.ev x with
    | .val (.one (.v (.int k n))) => some (True, .val (.one (.v (.int k (k.wrap (0 - n))))))
    | _ => none
  | .extract x j => match s.ev x with
    | .tup l => (l[j]?).map fun v => (True, .val v)
    | _ => none
  | .nilCheck x => match s.ev x with
    | .val (.one (.ptr i sz k o)) => some (True, .val (.one (.ptr i sz k o)))
    | .val (.one (.fp t cs)) => some (True, .val (.one (.fp t cs)))
    | _ => none
  | _ => none

section
variable {P : Program} {Γ : Fr} {hv : Nat → Value} {F : Nat → Prop} {s : S} {a : Act} {w : World}
theorem hd_int {live : Nat → Prop} {okT okP : Nat → Prop} {k : IntKind} {n : Int} {u : Value} (h : SV.HD hv live w okT okP (.val (.one (.v (.int k n)))) u) : u = .int k n := h.1
theorem hd_bool {live : Nat → Prop} {okT okP : Nat → Prop} {b : Bool} {u : Value} (h : SV.HD hv live w okT okP (.val (.one (.v (.bool b)))) u) : u = .bool b := h.1
theorem hd_str {live : Nat → Prop} {okT okP : Nat → Prop} {b : ByteArray} {u : Value} (h : SV.HD hv live w okT okP (.val (.one (.v (.string b)))) u) : u = .string b := h.1
def opConstOk (o : Oper) : Bool := o.op.operands.toList.all fun | .const v => v.oneCell' | _ => true
theorem opConst {o : Oper} (h : opConstOk o = true) {x : Operand} (hx : x ∈ o.op.operands) : ∀ v, x = .const v → v.oneCell' = true := fun v e => by
  have := List.all_eq_true.1 h x (by simpa using hx)
  subst e
  exact this
theorem intBin_ok (P : Program) (w : World) (t : Nat) {op : BinOp} {k : IntKind} {x y : Int} {p : Prop} {c : C} (h : intBin op k x y = some (p, c)) (hp : p) (hs : op ≠ .shl ∧ op ≠ .shr) :
    ∃ v, (binOp op t (.int k x) (.int k y)).run P w = .ok v w ∧ c = .v v ∧ v.oneCell' = true := by
  cases op <;> simp only [intBin, Option.some.injEq, Prod.mk.injEq, reduceCtorEq] at h <;> obtain ⟨rfl, rfl⟩ := h <;> refine ⟨_, ?_, rfl, rfl⟩ <;>
    simp [binOp, Op.intArith, Op.intBits, Op.intCmp, Op.intDiv] <;> simp_all
theorem shiftBin_ok (P : Program) (w : World) (t : Nat) {op : BinOp} {k k' : IntKind} {x y : Int} {p : Prop} {c : C} (h : shiftBin op k x y = some (p, c)) (hp : p) :
    ∃ v, (binOp op t (.int k x) (.int k' y)).run P w = .ok v w ∧ c = .v v ∧ v.oneCell' = true := by
  cases op <;> simp only [shiftBin, Option.some.injEq, Prod.mk.injEq, reduceCtorEq] at h
  · obtain ⟨rfl, rfl⟩ := h
    have : ¬ y < 0 := by omega
    exact ⟨_, by simp [binOp, Op.shift, this], rfl, rfl⟩
  · obtain ⟨rfl, rfl⟩ := h
    have : ¬ y < 0 := by omega
    exact ⟨_, by simp [binOp, Op.shift, this], rfl, rfl⟩
theorem isBoolT_some {P : Program} {t : Nat} (h : isBoolT P t = true) : P.underlying t = some .bool := by
  unfold isBoolT at h
  split at h
  · assumption
  · cases h
theorem eqBool (P : Program) (w : World) {t : Nat} (h : isBoolT P t = true) (x y : Bool) : (Op.equal t (.bool x) (.bool y)).run P w = .ok (x == y) w := by
  show Sem.run P (Op.equalIn (9999 + 1) t (.bool x) (.bool y)) w = _
  unfold Op.equalIn
  simp only [Sem.run_bind, run_underlying (isBoolT_some h), Result.andThen_ok, Sem.run_pure]
theorem binC_ok (P : Program) (w : World) {op : BinOp} {t : Nat} {X Y : Operand} {x y : SV} {u v : Value} {live : Nat → Prop} {okT okP : Nat → Prop} {p : Prop} {c : C} (hx : x.HD hv live w okT okP u) (hy : y.HD hv live w okT okP v)
    (h : binC P op t x y = some (p, c)) (hp : p) : ∃ r, (do eqGuard op t X Y u v; binOp op t u v : Sem Value).run P w = .ok r w ∧ c = .v r ∧ r.oneCell' = true := by
  unfold binC at h
  split at h
  · obtain rfl := hd_int hx
    obtain rfl := hd_int hy
    obtain ⟨r, h1, h2⟩ := shiftBin_ok P w t (k' := _) h hp
    exact ⟨r, by simpa [eqGuard] using h1, h2⟩
  · obtain rfl := hd_int hx
    obtain rfl := hd_int hy
    obtain ⟨r, h1, h2⟩ := shiftBin_ok P w t (k' := _) h hp
    exact ⟨r, by simpa [eqGuard] using h1, h2⟩
  · rename_i n1 n2
    obtain rfl := hd_int hx
    obtain rfl := hd_int hy
    split at h
    · rename_i hk
      subst hk
      obtain ⟨r, h1, h2⟩ := intBin_ok P w t h hp ⟨fun e => by subst e; simp [intBin] at h, fun e => by subst e; simp [intBin] at h⟩
      refine ⟨r, ?_, h2⟩
      cases op <;> simpa [eqGuard] using h1
    · cases h
  · split at h
    · rename_i hb
      cases h
      obtain rfl := hd_bool hx
      obtain rfl := hd_bool hy
      exact ⟨_, by simp [eqGuard, binOp, eqBool P w hb], rfl, rfl⟩
    · cases h
  · split at h
    · rename_i hb
      cases h
      obtain rfl := hd_bool hx
      obtain rfl := hd_bool hy
      exact ⟨_, by simp [eqGuard, binOp, eqBool P w hb, bne], rfl, rfl⟩
    · cases h
  · cases h
    obtain rfl := hd_str hx
    obtain rfl := hd_str hy
    exact ⟨_, by simp [eqGuard, binOp, Op.stringOp], rfl, rfl⟩
  · cases h
    obtain rfl := hd_str hx
    obtain rfl := hd_str hy
    exact ⟨_, by simp [eqGuard, binOp, Op.stringOp], rfl, rfl⟩
  · cases h
theorem pickV_hd {live : Nat → Prop} {okT okP : Nat → Prop} {t : Bool} {x y : SV} {u v : Value} (hx : x.HD hv live w okT okP u) (hy : y.HD hv live w okT okP v) : (pickV t x y).HD hv live w okT okP (if t then u else v) := by
  unfold pickV
  split
  · obtain rfl := hd_bool hx
    obtain rfl := hd_bool hy
    cases t <;> exact ⟨rfl, rfl⟩
  · cases t
    · exact hy
    · exact hx
theorem R.pure_ok (h : R Γ hv F s a w) {o : Oper} {p : Prop} {x : SV} (hc : opConstOk o = true) (he : pureC P o s = some (p, x)) (hp : p) :
    ∃ v, (execOp a.eval o).run P w = .ok (.value v) w ∧ x.HD hv s.live w (Γ.t F) (Γ.p F) v := by
  have hev : ∀ y ∈ o.op.operands, (s.ev y).HD hv s.live w (Γ.t F) (Γ.p F) (a.eval y) := fun y hy => h.ev y (opConst hc hy)
  unfold pureC at he
  split at he
  · rename_i y e
    cases he
    exact ⟨_, by simp [execOp, e], hev _ (by simp [e, Op.operands])⟩
  · rename_i y e
    cases he
    exact ⟨_, by simp [execOp, e], hev _ (by simp [e, Op.operands])⟩
  · rename_i c x y e
    split at he
    · rename_i t hcv
      cases he
      have h1 := hev c (by simp [e, Op.operands])
      rw [hcv] at h1
      have h2 := hd_bool h1
      exact ⟨_, by simp [execOp, e, h2, asBool], pickV_hd (hev x (by simp [e, Op.operands])) (hev y (by simp [e, Op.operands]))⟩
    · cases he
  · rename_i op t y z t' e
    obtain ⟨pc, hpc, e2⟩ := Option.map_eq_some_iff.1 he
    obtain ⟨rfl, rfl⟩ := Prod.mk.inj e2
    obtain ⟨r, h1, h2, h3⟩ := binC_ok P w (X := y) (Y := z) (p := pc.1) (c := pc.2) (hev y (by simp [e, Op.operands])) (hev z (by simp [e, Op.operands])) hpc hp
    refine ⟨r, ?_, ?_⟩
    · simp only [execOp, e]
      rw [Sem.run_bind, h1]
      rfl
    · rw [h2]
      exact ⟨rfl, h3⟩
  · rename_i t' y e
    split at he
    · rename_i t hcv
      cases he
      have h1 := hev y (by simp [e, Op.operands])
      rw [hcv] at h1
      have h2 := hd_bool h1
      exact ⟨_, by simp [execOp, e, h2, Op.unary], ⟨rfl, rfl⟩⟩
    · cases he
  · rename_i t' y e
    split at he
    · rename_i k n hcv
      cases he
      have h1 := hev y (by simp [e, Op.operands])
      rw [hcv] at h1
      have h2 := hd_int h1
      exact ⟨_, by simp [execOp, e, h2, Op.unary, Op.intArith], ⟨rfl, rfl⟩⟩
    · cases he
  · rename_i y j e
    split at he
    · rename_i l hcv
      obtain ⟨x1, hx1, e2⟩ := Option.map_eq_some_iff.1 he
      obtain ⟨rfl, rfl⟩ := Prod.mk.inj e2
      have h1 := hev y (by simp [e, Op.operands])
      rw [hcv] at h1
      obtain ⟨us, e3, hl, hp'⟩ := h1
      have hj : j < us.length := by rw [hl]; exact (List.getElem?_eq_some_iff.1 hx1).1
      have hu : us[j]? = some us[j] := List.getElem?_eq_getElem hj
      refine ⟨us[j], ?_, hp' j x1 us[j] hx1 hu⟩
      simp [execOp, e, e3, Instr.extract, hj]
    · cases he
  · rename_i y e
    split at he
    · rename_i i sz k o' hcv
      cases he
      have h1 := hev y (by simp [e, Op.operands])
      rw [hcv] at h1
      have h1' := h1
      obtain ⟨_, b, _, hu⟩ := h1
      exact ⟨a.eval y, by simp [execOp, e, hu], h1'⟩
    · rename_i t cs hcv
      cases he
      have h1 := hev y (by simp [e, Op.operands])
      rw [hcv] at h1
      obtain ⟨b, o', hu, _⟩ := h.load_fp h1
      exact ⟨a.eval y, by simp [execOp, e, hu], h1⟩
    · cases he
  · cases he
end
/-! ### operations that look at memory: one step -/
def S.loadC (s : S) (n : Nat) : SV → Option (List C)
  | .val (.one (.fp t cs)) => if n ≤ cs.length then some ((cs.take n).map (C.rt t)) else none
  | .val (.one (.ptr id sz i off)) => match s.ob id with
    | some (.row _ z xs _ _) => if sz = z.length then match xs[i]? with
      | some el => if off + n ≤ el.length then some ((el.drop off).take n) else none
      | none => none
      else none
    | some (.box _ cs) => if sz = 0 then (if off + n ≤ cs.length then some ((cs.drop off).take n) else none) else none
    | _ => none
  | _ => none
def isStrT (P : Program) (t : Nat) : Bool := match P.underlying t with | some .string => true | _ => false
def intT (P : Program) (t : Nat) : Option IntKind := match P.underlying t with | some (.int k) => some k | _ => none
def lookC (P : Program) (o : Oper) (s : S) : Option (Prop × SV) :=
  match o.op with
  | .load t x => match tyI P t with
    | some y => match s.loadC y.sz (s.ev x) with
      | some cs => (mk1 y.agg cs).map fun v => (True, v)
      | none => none
    | none => none
  | .fieldAddr t x f => match fldT P t f with
    | some (off, t') => match tyI P t' with
      | some y => match s.ev x with
        | .val (.one (.ptr id sz i k)) => some (y.sz ≠ 0, .val (.one (.ptr id sz i (k + off))))
        | .val (.one (.fp tg cs)) => some (y.sz ≠ 0 ∧ off ≤ cs.length, .val (.one (.fp tg (cs.drop off))))
        | _ => none
      | none => none
    | none => none
  | .indexAddr t x ix => match elT P t with
    | some e => match tyI P e with
      | some y => match s.ev ix with
        | .val (.one (.v (.int _ n))) => match s.ev x with
          | .val (.one (.own id)) => match s.ob id with
            | some (.row _ z xs _ _) => some (z.length = y.sz ∧ 0 ≤ n ∧ n < xs.length, .val (.one (.ptr id z.length n.toNat 0)))
            | _ => none
          | .val (.one (.sl tg sz xs _ _)) => match xs[n.toNat]? with
            | some el => some (sz = y.sz ∧ 0 ≤ n, .val (.one (.fp tg el)))
            | none => none
          | _ => none
        | _ => none
      | none => none
    | none => none
  | .field t x f => match fldT P t f with
    | some (off, t') => match tyI P t' with
      | some y => match s.ev x with
        | .val (.agg cs) => (mk1 y.agg ((cs.drop off).take y.sz)).map fun v => (off + y.sz ≤ cs.length, v)
        | _ => none
      | none => none
    | none => none
  | .convert t t' x => match intT P t', s.ev x with
    | some k, .val (.one (.v (.int _ n))) => some ((P.underlying t).isSome = true, .val (.one (.v (.int k (k.wrap n)))))
    | _, _ => none
  | .call c => match c.callee, c.args.toList, c.argTypes.toList with
    | .builtin .len, [x], [t] => match s.ev x with
      | .val (.one (.own id)) => match s.ob id with
        | some (.row _ _ xs _ _) => some ((elT P t).isSome = true, .val (.one (.v (.int .i64 xs.length))))
        | _ => none
      | .val (.one (.sl _ _ xs _ _)) => some ((elT P t).isSome = true, .val (.one (.v (.int .i64 xs.length))))
      | .val (.one (.v (.string b))) => some (isStrT P t = true, .val (.one (.v (.int .i64 b.size))))
      | _ => none
    | _, _, _ => none
  | _ => none

section
variable {P : Program} {Γ : Fr} {hv : Nat → Value} {F : Nat → Prop} {s : S} {a : Act} {w : World}
theorem R.loadC_ok (h : R Γ hv F s a w) {t : Nat} {y : TyI} (hy : tyI P t = some y) {x : SV} {u : Value} {cs : List C} {sv : SV} (hx : x.HD hv s.live w (Γ.t F) (Γ.p F) u)
    (hl : s.loadC y.sz x = some cs) (hm : mk1 y.agg cs = some sv) : ∃ v, (Instr.loadAt t u).run P w = .ok v w ∧ sv.HD hv s.live w (Γ.t F) (Γ.p F) v := by
  unfold S.loadC at hl
  split at hl
  · rename_i tg cs0
    split at hl
    · rename_i hn
      cases hl
      obtain ⟨b, o, rfl, us, h1, h2, h3⟩ := h.load_fp hx
      refine load_of hy (us := us.take y.sz) (by rw [List.length_take, h2]; omega) (fun j v hj => ?_) ?_ hm
      · rw [List.getElem?_take] at hj
        split at hj
        · exact h1 j v hj
        · cases hj
      · have := h3.slice 0 y.sz
        simpa [List.map_take] using this
    · cases hl
  · rename_i id sz i off
    split at hl
    · rename_i e z xs ys ex hob
      split at hl
      · rename_i hsz
        subst hsz
        split at hl
        · rename_i el hel
          split at hl
          · rename_i hn
            cases hl
            obtain ⟨_, b, hb1, rfl⟩ := hx
            obtain ⟨g, cap, e1, us, h1, h2⟩ := h.load_row hob hel
            rw [e1] at hb1
            simp only [hb, Option.some.injEq] at hb1
            subst hb1
            have hl2 := h2.1
            refine load_of hy (us := (us.drop off).take y.sz) (by rw [List.length_take, List.length_drop, hl2]; omega) (fun j v hj => ?_) ?_ hm
            · rw [List.getElem?_take] at hj
              split at hj
              · rw [List.getElem?_drop] at hj
                have := h1 _ v hj
                rwa [← Nat.add_assoc] at this
              · cases hj
            · exact h2.slice _ _
          · cases hl
        · cases hl
      · cases hl
    · rename_i t' cs0 hob
      split at hl
      · rename_i hsz
        subst hsz
        split at hl
        · rename_i hn
          cases hl
          obtain ⟨_, b, hb1, rfl⟩ := hx
          obtain ⟨b', e1, us, h1, h2⟩ := h.load_box hob
          rw [e1] at hb1
          simp only [hb, Option.some.injEq] at hb1
          subst hb1
          have hl2 := h2.1
          refine load_of hy (us := (us.drop off).take y.sz) (by rw [List.length_take, List.length_drop, hl2]; omega) (fun j v hj => ?_) (h2.slice _ _) hm
          rw [List.getElem?_take] at hj
          split at hj
          · rw [List.getElem?_drop] at hj
            have := h1 _ v hj
            simpa using this
          · cases hj
        · cases hl
      · cases hl
    · cases hl
  · cases hl
theorem R.row_slice (h : R Γ hv F s a w) {id e : Nat} {z : List C} {xs ys : List (List C)} {ex : Bool} (ho : s.ob id = some (.row e z xs ys ex)) : ∃ A c, hv id = .slice A xs.length c ∧ xs.length ≤ c ∧ (A = none ∨ ∃ g, A = some ⟨g, 0, none⟩) := by
  obtain ⟨_, _, _, vals, rest, hf, _⟩ := h.obs id _ ho
  exact hf.slice
theorem fldT_some {P : Program} {t f off t' : Nat} (h : fldT P t f = some (off, t')) : ∃ fs x, P.underlying t = some (.struct fs) ∧ fs[f]? = some x ∧ x.offset = off ∧ x.type = t' := by
  unfold fldT at h
  split at h
  · rename_i fs e
    obtain ⟨x, h1, h2⟩ := Option.map_eq_some_iff.1 h
    cases h2
    exact ⟨fs, x, e, h1, rfl, rfl⟩
  · cases h
theorem run_fieldAt' {t f off t' b o : Nat} {y : TyI} (h : fldT P t f = some (off, t')) (hy : tyI P t' = some y) (h0 : y.sz ≠ 0) :
    (Instr.fieldAt t (.pointer (some ⟨b, o, none⟩)) f).run P w = .ok (.pointer (some ⟨b, o + off, none⟩)) w := by
  obtain ⟨fs, x, h1, h2, rfl, rfl⟩ := fldT_some h
  simp [Instr.fieldAt, run_underlying h1, h2, Instr.sureAddr, fieldPlace, run_sizeOf' hy, h0, addr_add]
theorem isStrT_some {P : Program} {t : Nat} (h : isStrT P t = true) : P.underlying t = some .string := by
  unfold isStrT at h
  split at h
  · assumption
  · cases h
theorem intT_some {P : Program} {t : Nat} {k : IntKind} (h : intT P t = some k) : P.underlying t = some (.int k) := by
  unfold intT at h
  split at h
  · cases h; assumption
  · cases h
theorem R.look_ok (h : R Γ hv F s a w) {o : Oper} {p : Prop} {x : SV} (hc : opConstOk o = true) (he : lookC P o s = some (p, x)) (hp : p) :
    ∃ v, (execOp a.eval o).run P w = .ok (.value v) w ∧ x.HD hv s.live w (Γ.t F) (Γ.p F) v := by
  have hev : ∀ y ∈ o.op.operands, (s.ev y).HD hv s.live w (Γ.t F) (Γ.p F) (a.eval y) := fun y hy => h.ev y (opConst hc hy)
  unfold lookC at he
  split at he
  · rename_i t x0 e
    split at he
    · rename_i y hy
      split at he
      · rename_i cs hl
        obtain ⟨v0, hm, e2⟩ := Option.map_eq_some_iff.1 he
        cases e2
        obtain ⟨v, h1, h2⟩ := h.loadC_ok hy (hev x0 (by simp [e, Op.operands])) hl hm
        exact ⟨v, by simp only [execOp, e, Sem.run_bind, h1]; rfl, h2⟩
      · cases he
    · cases he
  · rename_i t x0 f e
    split at he
    · rename_i off t' hf
      split at he
      · rename_i y hy
        have h1 := hev x0 (by simp [e, Op.operands])
        split at he
        · rename_i id sz i k hx
          cases he
          rw [hx] at h1
          obtain ⟨hl, b, hb1, hu⟩ := h1
          refine ⟨.pointer (some ⟨b, i * sz + k + off, none⟩), ?_, hl, b, hb1, by rw [Nat.add_assoc]⟩
          simp only [execOp, e, Sem.run_bind, hu, run_fieldAt' hf hy hp]
          rfl
        · rename_i tg cs hx
          cases he
          rw [hx] at h1
          have h1' : C.Den w (if tg then Γ.t F else Γ.p F) (.fp tg cs) (a.eval x0) := h1
          simp only [C.Den] at h1'
          obtain ⟨b, o', hu, hb1, hcs⟩ := h1'
          refine ⟨.pointer (some ⟨b, o' + off, none⟩), ?_, ?_⟩
          · simp only [execOp, e, Sem.run_bind, hu, run_fieldAt' hf hy hp.1]
            rfl
          · show C.Den w (if tg then Γ.t F else Γ.p F) (.fp tg (cs.drop off)) _
            simp only [C.Den]
            exact ⟨b, _, rfl, hb1, hcs.drop off⟩
        · cases he
      · cases he
    · cases he
  · rename_i t x0 ix e
    split at he
    · rename_i el0 hel
      have hu0 := elT_some hel
      split at he
      · rename_i y hy
        split at he
        · rename_i k n hix
          have h2 := hev ix (by simp [e, Op.operands])
          rw [hix] at h2
          have h2 := hd_int h2
          have h1 := hev x0 (by simp [e, Op.operands])
          split at he
          · rename_i id hx
            split at he
            · rename_i e' z xs ys ex hob
              cases he
              obtain ⟨hp0, hp1, hp2⟩ := hp
              rw [hx] at h1
              obtain ⟨hl, hu, _⟩ := h1
              obtain ⟨A, c, ev1, _, hA⟩ := h.row_slice hob
              have hlen : 0 < xs.length := by omega
              rcases hA with rfl | ⟨g, rfl⟩
              · exfalso
                obtain ⟨_, _, _, vals, rest, hf, _⟩ := h.obs id _ hob
                rcases hf with ⟨_, e2, _⟩ | ⟨g, cap, cur, e3, _⟩
                · omega
                · rw [ev1] at e3; cases e3
              · refine ⟨.pointer (some ⟨g, n.toNat * y.sz + 0, none⟩), ?_, hl, g, by rw [ev1]; rfl, by rw [hp0]⟩
                simp only [execOp, e, hu, ev1, h2]
                simp [Instr.indexAt, run_underlying hu0, asIntOf, hp1, hp2, run_sizeOf' hy, addr_add]
            · cases he
          · rename_i tg sz xs ys ex hx
            split at he
            · rename_i el hel2
              cases he
              obtain ⟨rfl, hp1⟩ := hp
              rw [hx] at h1
              have h1' : C.Den w (if tg then Γ.t F else Γ.p F) (.sl tg y.sz xs ys ex) (a.eval x0) := h1
              simp only [C.Den] at h1'
              obtain ⟨A, c, hu, hlc, hall, _, hr⟩ := h1'
              have hlt : n.toNat < xs.length := (List.getElem?_eq_some_iff.1 hel2).1
              rcases hr with hr0 | ⟨b, o', rfl, hb1, hr, _⟩
              · simp [(List.append_eq_nil_iff.1 hr0).1] at hlt
              · refine ⟨.pointer (some ⟨b, o' + n.toNat * y.sz, none⟩), ?_, ?_⟩
                · have hp2 : n < (xs.length : Int) := by omega
                  simp only [execOp, e, hu, h2]
                  simp [Instr.indexAt, run_underlying hu0, asIntOf, hp1, hp2, run_sizeOf' hy, addr_add]
                · show C.Den w (if tg then Γ.t F else Γ.p F) (.fp tg el) _
                  simp only [C.Den]
                  exact ⟨b, _, rfl, hb1, hr.at_ (fun e he => hall e (List.mem_append_left _ he)) hel2⟩
            · cases he
          · cases he
        · cases he
      · cases he
    · cases he
  · rename_i t x0 f e
    split at he
    · rename_i off t' hf
      split at he
      · rename_i y hy
        have h1 := hev x0 (by simp [e, Op.operands])
        split at he
        · rename_i cs hx
          obtain ⟨v0, hm, e2⟩ := Option.map_eq_some_iff.1 he
          cases e2
          rw [hx] at h1
          obtain ⟨us, hu, hds⟩ := h1
          obtain ⟨fs, fx, hf1, hf2, rfl, rfl⟩ := fldT_some hf
          have hl := hds.1
          have hsl := hds.slice fx.offset y.sz
          unfold mk1 at hm
          split at hm
          · rename_i hagg
            cases hm
            refine ⟨.agg ((us.drop fx.offset).take y.sz).toArray, ?_, _, rfl, hsl⟩
            simp only [execOp, e, hu]
            simp [Instr.field, run_underlying hf1, hf2, asAgg, part, run_isAgg' hy, hagg, run_sizeOf' hy]
          · rename_i hagg
            split at hm
            · rename_i c hcs
              cases hm
              rw [hcs] at hsl
              have hl1 : ((us.drop fx.offset).take y.sz).length = 1 := hsl.1
              match hus : (us.drop fx.offset).take y.sz, hl1 with
              | [v], _ =>
                rw [hus] at hsl
                have hv0 : us[fx.offset]? = some v := by
                  have := congrArg (fun l => l[0]?) hus
                  simp only [List.getElem?_take, List.getElem?_drop, List.getElem?_cons_zero, Nat.add_zero] at this
                  split at this
                  · exact this
                  · cases this
                refine ⟨v, ?_, hsl.2 0 c v rfl rfl⟩
                simp only [execOp, e, hu]
                simp [Instr.field, run_underlying hf1, hf2, asAgg, part, run_isAgg' hy, hagg, hv0]
            · cases hm
        · cases he
      · cases he
    · cases he
  · rename_i t t' x0 e
    split at he
    · rename_i k k' n hk hx
      cases he
      have h1 := hev x0 (by simp [e, Op.operands])
      rw [hx] at h1
      have h1 := hd_int h1
      obtain ⟨d, hd⟩ := Option.isSome_iff_exists.1 hp
      refine ⟨.int k (k.wrap n), ?_, rfl, rfl⟩
      simp only [execOp, e, h1, convert, Sem.run_bind, run_underlying hd, run_underlying (intT_some hk), Result.andThen_ok]
      cases d <;> simp [Conv.intToInt]
    · cases he
  · rename_i c e
    obtain ⟨callee, args, argTypes⟩ := c
    obtain ⟨args⟩ := args
    obtain ⟨argTypes⟩ := argTypes
    simp only at he
    split at he
    · rename_i x0 t
      have h1 := hev x0 (by simp [e, Op.operands, Call.operands])
      split at he
      · rename_i id hx
        split at he
        · rename_i e' z xs ys ex hob
          cases he
          rw [hx] at h1
          obtain ⟨hl, hu, _⟩ := h1
          obtain ⟨A, c, ev1, _, hA⟩ := h.row_slice hob
          obtain ⟨el, hel⟩ := Option.isSome_iff_exists.1 hp
          refine ⟨.int .i64 xs.length, ?_, rfl, rfl⟩
          simp [execOp, e, resolve, invoke, builtin, hu, ev1, Builtin.len_, run_underlying (elT_some hel), goInt]
        · cases he
      · rename_i tg sz xs ys ex hx
        cases he
        rw [hx] at h1
        have h1' : C.Den w (if tg then Γ.t F else Γ.p F) (.sl tg sz xs ys ex) (a.eval x0) := h1
        simp only [C.Den] at h1'
        obtain ⟨A, c, hu, _⟩ := h1'
        obtain ⟨el, hel⟩ := Option.isSome_iff_exists.1 hp
        refine ⟨.int .i64 xs.length, ?_, rfl, rfl⟩
        simp [execOp, e, resolve, invoke, builtin, hu, Builtin.len_, run_underlying (elT_some hel), goInt]
      · rename_i b hx
        cases he
        rw [hx] at h1
        have h1 := hd_str h1
        refine ⟨.int .i64 b.size, ?_, rfl, rfl⟩
        simp [execOp, e, resolve, invoke, builtin, h1, Builtin.len_, run_underlying (isStrT_some hp), goInt]
      · cases he
    · cases he
  · cases he
end
/-! ### freezing -/
theorem Rows.mk {w : World} {ok : Nat → Prop} {b : Nat} : ∀ {xs : List (List C)} {vals : List Value} {o : Nat}, (∀ (j : Nat) v, vals[j]? = some v → w.cell? ⟨b, o + j, none⟩ = some v) → Dens w ok xs.flatten vals → Rows w ok b o xs
  | [], _, _, _, _ => by simp [Rows]
  | e :: es, vals, o, h1, h2 => by
    rw [List.flatten_cons] at h2
    have hl := (dens_iff.1 h2).1
    rw [List.length_append] at hl
    have ha := h2.slice 0 e.length
    have hb := h2.slice e.length es.flatten.length
    simp only [List.drop_zero, List.take_left] at ha
    rw [List.drop_left, List.take_of_length_le (Nat.le_refl _), List.take_of_length_le (by rw [List.length_drop]; omega)] at hb
    simp only [Rows]
    refine ⟨Cells.mk (us := vals.take e.length) (fun j v hj => ?_) ha, Rows.mk (vals := vals.drop e.length) (fun j v hj => ?_) hb⟩
    · rw [List.getElem?_take] at hj
      split at hj
      · exact h1 j v hj
      · cases hj
    · rw [List.getElem?_drop] at hj
      have := h1 _ v hj
      rwa [← Nat.add_assoc] at this
/-- What a cell says, once it is frozen. -/
def C.fzc (c : C) : C := if c.st then c else .un
def fzR (xs : List (List C)) : List (List C) := xs.map (List.map C.fzc)
def Ob.fzg : Ob → C → C
  | .row _ z xs ys ex, .own _ => .sl false z.length (fzR xs) (fzR ys) ex
  | .box _ cs, .ptr _ sz i off => if sz = 0 ∧ i = 0 then .fp false ((cs.map C.fzc).drop off) else .un
  | _, _ => .un
/-- The object 'id' is written no more: its handles become what it holds. -/
def S.fz (s : S) (id : Nat) : S :=
  match s.ob id with
  | some o => s.sub id o.fzg none
  | none => s
section
variable {P : Program} {Γ : Fr} {hv : Nat → Value} {F : Nat → Prop} {s : S} {a : Act} {w : World}
theorem fzc_den {live : Nat → Prop} {okT okP : Nat → Prop} {c : C} {u : Value} (h : C.HD hv live w okT okP c u) : C.Den w okP c.fzc u := by
  unfold C.fzc
  split
  · rename_i hs
    cases c with
    | v x => exact h
    | sl t sz xs ys ex => simp only [C.st, Bool.not_eq_true'] at hs; subst hs; exact h
    | fp t cs => simp only [C.st, Bool.not_eq_true'] at hs; subst hs; exact h
    | _ => simp [C.st] at hs
  · exact h.one
theorem fzc_dens {live : Nat → Prop} {okT okP : Nat → Prop} {cs : List C} {us : List Value} (h : HDs hv live w okT okP cs us) : Dens w okP (cs.map C.fzc) us := by
  refine dens_iff.2 ⟨by simpa using h.1, fun j c u hc hu => ?_⟩
  rw [List.getElem?_map] at hc
  obtain ⟨c0, h0, rfl⟩ := Option.map_eq_some_iff.1 hc
  exact fzc_den (h.2 j c0 u h0 hu)
theorem fzR_flat (xs : List (List C)) : (fzR xs).flatten = xs.flatten.map C.fzc := by simp [fzR, List.map_flatten]
theorem fzR_len {n : Nat} {xs : List (List C)} (h : ∀ x ∈ xs, x.length = n) : ∀ x ∈ fzR xs, x.length = n := fun x hx => by
  obtain ⟨y, hy, rfl⟩ := List.mem_map.1 hx
  simpa using h y hy
theorem Dens.okMono {ok ok' : Nat → Prop} (hk : ∀ b, ok b → ok' b) {cs : List C} {us : List Value} (h : Dens w ok cs us) : Dens w ok' cs us := Dens.mono hk (fun _ _ => rfl) _ _ h
/-- A row that is ours as a frozen slice, where its block may be read. -/
theorem row_den {ok okT okP : Nat → Prop} {live : Nat → Prop} {id e : Nat} {z : List C} {xs ys : List (List C)} {ex : Bool} {g : C → C}
    (ho : (Ob.row e z xs ys ex).HD hv live w okT okP id) (hok : ∀ b, hb (hv id) = some b → ok b)
    (hg : ∀ cs us, HDs hv live w okT okP cs us → Dens w ok (cs.map g) us) (t : Bool) : C.Den w ok (.sl t z.length (xs.map (List.map g)) (ys.map (List.map g)) ex) (hv id) := by
  obtain ⟨h0, hall, hys, vals, rest, hat, hd, hr⟩ := ho
  have fl : ∀ l : List (List C), (l.map (List.map g)).flatten = l.flatten.map g := fun l => by simp [List.map_flatten]
  simp only [C.Den, List.length_map]
  have hall' : ∀ e ∈ xs.map (List.map g) ++ ys.map (List.map g), e.length = z.length := by
    rw [← List.map_append]
    intro x hx
    obtain ⟨y, hy, rfl⟩ := List.mem_map.1 hx
    simpa using hall y hy
  rcases hat with ⟨h1, h2, h3, h4⟩ | ⟨G, cap, cur, e1, e2, e3, e4, e5, e6, e7⟩
  · have hx0 : xs = [] := List.eq_nil_of_length_eq_zero h2
    have hy0 : ys = [] := by
      cases ex
      · exact hys rfl
      · simp only [if_true] at hr
        subst h4
        have := hr.1
        have hl := flat_length (xs := ys) (fun x hx => hall x (List.mem_append_right _ hx))
        simp only [List.length_nil] at this
        rw [← this] at hl
        exact List.eq_nil_of_length_eq_zero ((Nat.mul_eq_zero.1 hl.symm).resolve_right (by omega))
    subst hx0 hy0
    exact ⟨none, 0, h1, by simp, by simp, fun _ => by simp, .inl (by simp)⟩
  · have hcap : ex = true → cap = xs.length + ys.length := fun e => by
      subst e
      simp only [if_true] at hr
      have hl := flat_length (xs := ys) (fun x hx => hall x (List.mem_append_right _ hx))
      have h1 := hr.1
      have h2 : cur.toList.length = cap * z.length := by rw [Array.length_toList]; exact e5
      rw [e6, List.length_append, e7, h1, hl, ← Nat.add_mul] at h2
      exact (Nat.eq_of_mul_eq_mul_right h0 h2).symm
    refine ⟨_, cap, e1, ?_, hall', hcap, .inr ⟨G, 0, rfl, hok G (by rw [e1]; rfl), ?_, ?_⟩⟩
    · cases ex
      · rw [hys rfl]; simpa using e3
      · rw [← hcap rfl]; exact Nat.le_refl _
    · refine Rows.mk (vals := vals) (fun j v hj => ?_) (by rw [fl]; exact hg _ _ hd)
      have hlt : j < vals.length := (List.getElem?_eq_some_iff.1 hj).1
      simp only [World.cell?, e2, Nat.zero_add, Option.isSome_none, Bool.false_eq_true, if_false]
      rw [← Array.getElem?_toList, e6, List.getElem?_append_left hlt]
      exact hj
    · cases ex
      · rw [hys rfl]; simp [Rows]
      · simp only [if_true] at hr
        refine Rows.mk (vals := rest) (fun j v hj => ?_) (by rw [fl]; exact hg _ _ hr)
        simp only [World.cell?, e2, Nat.zero_add, Option.isSome_none, Bool.false_eq_true, if_false]
        rw [← Array.getElem?_toList, e6, ← e7, List.getElem?_append_right (by omega), Nat.add_sub_cancel_left]
        exact hj
theorem R.fz_ (h : R Γ hv F s a w) (id : Nat) : ∃ F', R Γ hv F' (s.fz id) a w := by
  unfold S.fz
  split
  · rename_i o hob
    have hH := h.obs id _ hob
    refine ⟨fun b => F b ∨ hb (hv id) = some b, h.turn id o.fzg none h.away (fun b hb => .inl hb) (fun b hb' => ?_) (fun _ _ => rfl) (fun i b hne hl hbi => ?_) (fun _ _ _ => rfl) (fun c' u hc' hu => ?_) (fun c' f caps hc' => ?_) (fun _ e => by cases e) (fun _ _ e => by cases e) (fun _ _ e => by cases e)⟩
    · rcases hb' with hb' | hb'
      · exact h.fz b hb'
      · have := h.blk id _ b hob hb'
        exact ⟨this.1, this.2.1⟩
    · obtain ⟨o, ho⟩ := hl
      have := h.blk i o b ho hbi
      refine ⟨rfl, this.2.1, fun hF => hF.elim this.2.2 fun he => hne (h.disj i id b ⟨o, ho⟩ ⟨_, hob⟩ hbi he)⟩
    · cases c' with
      | own i =>
        simp only [C.hd, Option.some.injEq] at hc'
        subst hc'
        obtain ⟨_, rfl, h1⟩ := hu
        cases o with
        | row e z xs ys ex =>
          show C.Den w _ (.sl false z.length (fzR xs) (fzR ys) ex) (hv i)
          exact row_den hH (fun b hb' => .inr (.inr hb')) (fun cs us hd => (fzc_dens hd).okMono fun b hb => hb.imp (fun x => x) .inl) false
        | box => exact h1
        | mp => exact h1
      | ptr i sz k off =>
        simp only [C.hd, Option.some.injEq] at hc'
        subst hc'
        have h1 := C.HD0.one hu
        cases o with
        | row => exact h1
        | box t cs =>
          simp only [Ob.fzg]
          split
          · rename_i hz
            obtain ⟨rfl, rfl⟩ := hz
            obtain ⟨b, cur, e1, e2, e3⟩ := hH
            obtain ⟨_, b', e4, rfl⟩ := hu
            rw [e1] at e4
            simp only [hb, Option.some.injEq] at e4
            subst e4
            show C.Den w _ (.fp false _) _
            simp only [C.Den]
            refine ⟨b, _, rfl, .inr (.inr (by rw [e1]; rfl)), ?_⟩
            have := Cells.mk (w := w) (b := b) (o := 0) (us := cur.toList) (cs := cs.map C.fzc) (ok := Γ.p fun b => F b ∨ hb (hv i) = some b) (fun j v hj => ?_) ((fzc_dens e3).okMono fun b hb => hb.imp (fun x => x) .inl)
            · have := this.drop off
              simpa using this
            · simp only [World.cell?, e2, Nat.zero_add, Option.isSome_none, Bool.false_eq_true, if_false]
              rw [← Array.getElem?_toList]; exact hj
          · exact h1
        | mp => exact h1
      | mh i => cases o <;> exact hu.one
      | _ => simp [C.hd] at hc'
    · cases o <;> cases c' <;> simp [Ob.fzg]
      split <;> simp
  · exact ⟨F, h⟩
def S.fzs (s : S) (ids : List Nat) : S := ids.foldl S.fz s
theorem R.fzs_ : ∀ (ids : List Nat) {F : Nat → Prop} {s : S}, R Γ hv F s a w → ∃ F', R Γ hv F' (s.fzs ids) a w
  | [], F, s, h => ⟨F, h⟩
  | id :: ids, F, s, h => by
    obtain ⟨F1, h1⟩ := h.fz_ id
    exact R.fzs_ ids h1

/-! ### new objects -/
theorem R.newOb_ (h : R Γ hv F s a w) {d : Nat} (hd : d < Γ.N) (hd1 : d < 1000) {o : Ob} {c : C} {v : Value} {w' : World} (hbel : Away Γ.L Γ.w0 w') (hsz : w.heap.size ≤ w'.heap.size) (hblk : ∀ b, b < w.heap.size → w'.heap[b]? = w.heap[b]?)
    (hb1 : ∀ b, hb v = some b → w.heap.size ≤ b ∧ b < w'.heap.size)
    (ho : ∀ live, (∀ i, (s.kill d).live i → live i) → o.HD (fun i => if i = d then v else hv i) live w' (Γ.t F) (Γ.p F) d)
    (hc : ∀ live, live d → C.HD (fun i => if i = d then v else hv i) live w' (Γ.t F) (Γ.p F) c v) :
    R Γ (fun i => if i = d then v else hv i) F (s.newOb d o (.val (.one c))) (a.put (some d) v) w' := by
  have h1 := (h.kill d).world hbel hsz hblk
  have hkd : Γ.K d = none := by
    cases hk : Γ.K d with
    | none => rfl
    | some v => have := (h.pins d v hk).1; omega
  have h2 := h1.new (id := d) (o := o) (v := v) (S.kill_ob s d) hkd (ho _ fun i ⟨o', ho'⟩ => ?_) (fun b hb' => ?_)
  · refine h2.put hd (hc _ ⟨o, ?_⟩)
    simp [S.setOb]
  · by_cases e : i = d
    · subst e; exact ⟨o, by simp [S.setOb]⟩
    · exact ⟨o', by simp [S.setOb, e, ho']⟩
  · obtain ⟨b1, b2⟩ := hb1 b hb'
    refine ⟨h.new_mine b1, b2, fun hF => ?_, fun i ⟨o', ho'⟩ hbi => ?_⟩
    · have := (h.fz b hF).2; omega
    · by_cases e : i = d
      · subst e; rw [S.kill_ob] at ho'; cases ho'
      · rw [S.kill, S.sub_ob_ne _ _ _ e] at ho'
        obtain ⟨o0, h0, _⟩ := Option.map_eq_some_iff.1 ho'
        have := (h.blk i o0 b h0 hbi).2.1
        omega
end
/-! ### operations that make an object: one step -/
def zeroT' (P : Program) (t : Nat) : Option (List C) :=
  match P.info? t with
  | some i => match i.zero with
    | some z => if z.cells.toList.all (·.oneCell') then some (z.cells.toList.map constC) else none
    | none => none
  | none => none
def SV.cs : SV → List C
  | .val x => x.cells
  | _ => []
def SV.owns (x : SV) : List Nat := x.cs.filterMap fun | .own i => some i | _ => none
def newC (P : Program) (o : Oper) (s : S) : Option (Prop × S) :=
  match o.dst with
  | none => none
  | some d => match o.op with
    | .alloc t => match zeroT' P t with
      | some cs => some (True, s.newOb d (.box t cs) (.val (.one (.ptr d 0 0 0))))
      | none => none
    | .box t x => match (s.kill d).ev x with
      | .val x => some (True, s.newOb d (.box t x.cells) (.val (.one (.ptr d 0 0 0))))
      | _ => none
    | .move (.const (.slice none 0 0)) | .assign (.const (.slice none 0 0)) => match elT P o.type with
      | some e => match zeroT' P e with
        | some z => some (0 < z.length, s.newOb d (.row e z [] [] true) (.val (.one (.own d))))
        | none => none
      | none => none
    | .makeSlice t l c => match elT P t with
      | some e => match tyI P e, zeroT' P e with
        | some y, some z => match s.ev l, s.ev c with
          | .val (.one (.v (.int _ n))), .val (.one (.v (.int _ m))) =>
            some (0 < y.sz ∧ z.length = y.sz ∧ 0 ≤ n ∧ n ≤ m ∧ y.by_ * m ≤ 140737488355328 ∧ m ≤ 9223372036854775807, s.newOb d (.row e z (List.replicate n.toNat z) (List.replicate (m.toNat - n.toNat) z) true) (.val (.one (.own d))))
          | _, _ => none
        | _, _ => none
      | none => none
    | .buildSlice t len parts => match elT P t with
      | some e => match tyI P e, zeroT' P e with
        | some y, some z =>
          let xs := parts.toList.map fun p => ((s.kill d).ev p.2).cs
          some (0 < y.sz ∧ z.length = y.sz ∧ parts.toList.map (·.1) = List.range len ∧ (∀ x ∈ xs, x.length = y.sz) ∧ len * y.sz ≤ 2 ^ 24, s.newOb d (.row e z xs [] true) (.val (.one (.own d))))
        | _, _ => none
      | none => none
    | _ => none

section
variable {P : Program} {Γ : Fr} {hv : Nat → Value} {F : Nat → Prop} {s : S} {a : Act} {w : World}
theorem zeroT'_some {t : Nat} {cs : List C} (h : zeroT' P t = some cs) : ∃ i z, P.info? t = some i ∧ i.zero = some z ∧ cs = z.cells.toList.map constC ∧ ∀ v ∈ z.cells.toList, v.oneCell' = true := by
  unfold zeroT' at h
  split at h
  · rename_i i hi
    split at h
    · rename_i z hz
      split at h
      · rename_i hall
        cases h
        exact ⟨i, z, hi, hz, rfl, fun v hv => List.all_eq_true.1 hall v hv⟩
      · cases h
    · cases h
  · cases h
theorem dens_const {w : World} {ok : Nat → Prop} {vs : List Value} (h : ∀ v ∈ vs, v.oneCell' = true) : Dens w ok (vs.map constC) vs := by
  refine dens_iff.2 ⟨by simp, fun j c u hc hu => ?_⟩
  rw [List.getElem?_map, hu] at hc
  cases hc
  exact constC_den (h u (List.mem_of_getElem? hu)) w ok
theorem V1.hd_cells {live : Nat → Prop} {okT okP : Nat → Prop} {x : V1} {u : Value} (h : x.HD hv live w okT okP u) : HDs hv live w okT okP x.cells u.cells.toList := by
  cases x with
  | one c =>
    have h1 := C.HD.one (c := c) (hv := hv) (live := live) (w := w) (okT := okT) (okP := okP) h
    have : u.cells.toList = [u] := by cases u <;> simp_all [Value.cells, Value.oneCell']
    rw [this]
    refine ⟨rfl, fun j c' u' hc hu => ?_⟩
    match j with
    | 0 => simp [V1.cells] at hc hu; subst hc hu; exact h
    | j + 1 => simp [V1.cells] at hc
  | agg cs =>
    obtain ⟨us, rfl, h⟩ := h
    simpa [Value.cells, V1.cells] using h
theorem HDs.turn {hv hv' : Nat → Value} {live live' : Nat → Prop} {w w' : World} {okT okP : Nat → Prop} (hi : ∀ i, live i → live' i ∧ hv' i = hv i) (pt : ∀ b, okP b → okT b) (hw : ∀ b, okT b → w'.heap[b]? = w.heap[b]?) {cs : List C} {us : List Value} (h : HDs hv live w okT okP cs us) : HDs hv' live' w' okT okP cs us := by
  have k : Keeps w w' okT okP okT okP := ⟨fun _ h => h, fun _ h => h, pt, hw⟩
  have := HDs.sub (id := 0) (g := fun c => c) k (hv' := hv') (live' := live') (fun i _ hl => hi i hl) (fun c u hc hh => ?_) (fun c f caps hc => by cases c <;> simp [C.hd] at hc ⊢) h
  · have e : C.sub 0 (fun c => c) = fun c => c := funext (C.sub_id 0)
    rw [e] at this
    simpa using this
  · cases c with
    | own i => exact ⟨(hi i hh.1).1, hh.2.1.trans (hi i hh.1).2.symm, hh.2.2⟩
    | mh i => exact ⟨(hi i hh.1).1, hh.2.1.trans (hi i hh.1).2.symm, hh.2.2⟩
    | ptr i _ _ _ => obtain ⟨h1, b, h2, h3⟩ := hh; exact ⟨(hi i h1).1, b, by rw [(hi i h1).2]; exact h2, h3⟩
    | _ => simp [C.hd] at hc
theorem kill_live {s : S} {d i : Nat} (h : (s.kill d).live i) : i ≠ d ∧ s.live i := by
  by_cases e : i = d
  · subst e; obtain ⟨o, ho⟩ := h; rw [S.kill_ob] at ho; cases ho
  · exact ⟨e, (S.live_sub s _ _ e).1 h⟩
theorem flat_rep {α : Type} (l : List α) : ∀ (n i : Nat), (List.replicate n l).flatten[i]? = if i < n * l.length then l[i % l.length]? else none
  | 0, i => by simp
  | n + 1, i => by
    rw [List.replicate_succ, List.flatten_cons]
    by_cases h : i < l.length
    · rw [List.getElem?_append_left h, Nat.mod_eq_of_lt h, if_pos (by rw [Nat.add_mul]; omega)]
    · rw [List.getElem?_append_right (by omega), flat_rep l n]
      have h1 : (i - l.length) % l.length = i % l.length := (Nat.mod_eq_sub_mod (by omega)).symm
      rw [h1]
      by_cases h2 : i < (n + 1) * l.length
      · rw [if_pos h2, if_pos (by rw [Nat.add_mul] at h2; omega)]
      · rw [if_neg h2, if_neg (by rw [Nat.add_mul] at h2; omega)]
theorem madeCells_flat {z : Value} {sz : Nat} (hz : z.cells.size = sz) (n : Nat) : (madeCells z.cells (n * sz)).toList = (List.replicate n z.cells.toList).flatten := by
  apply List.ext_getElem?
  intro i
  rw [flat_rep]
  simp only [madeCells, Array.toList_map, Array.toList_range, List.getElem?_map, Array.length_toList, hz]
  by_cases h : i < n * sz
  · have hs : 0 < sz := by rcases Nat.eq_zero_or_pos sz with e | e <;> simp_all
    have hm : i % sz < z.cells.size := by rw [hz]; exact Nat.mod_lt _ hs
    rw [if_pos h, List.getElem?_range h]
    simp [hm]
  · rw [if_neg h, List.getElem?_eq_none (by simp; omega)]
    rfl
theorem R.nil_ok (h : R Γ hv F s a w) {d e : Nat} {z : List C} (hd : d < Γ.N) (hd1 : d < 1000) (h0 : 0 < z.length) : R Γ (fun i => if i = d then .slice none 0 0 else hv i) F (s.newOb d (.row e z [] [] true) (.val (.one (.own d)))) (a.put (some d) (.slice none 0 0)) w := by
  refine h.newOb_ hd hd1 h.away (Nat.le_refl _) (fun _ _ => rfl) (fun b hb' => by simp [hb] at hb') (fun live hlive => ?_) (fun live hl => ⟨hl, by simp, rfl⟩)
  refine ⟨h0, by simp, (fun e => by cases e), [], [], .inl ⟨by simp, rfl, rfl, rfl⟩, ⟨rfl, fun j c u hc => by simp at hc⟩, ?_⟩
  simp only [if_true]
  exact ⟨rfl, fun j c u hc => by simp at hc⟩
theorem R.row_new (h : R Γ hv F s a w) {d e n : Nat} {z : List C} {xs ys : List (List C)} {ex : Bool} {cells : Array Value} (hd : d < Γ.N) (hd1 : d < 1000) (h0 : 0 < z.length) (hx : ∀ x ∈ xs ++ ys, x.length = z.length) (hys : ex = false → ys = []) (hn : xs.length = n) {cap : Nat} (hcap : n ≤ cap) (hcm : cap ≤ maxLen) (hcs : cells.size = cap * z.length)
    (hden : HDs hv (s.kill d).live w (Γ.t F) (Γ.p F) xs.flatten (cells.toList.take (n * z.length))) (hr : if ex then HDs hv (s.kill d).live w (Γ.t F) (Γ.p F) ys.flatten (cells.toList.drop (n * z.length)) else kinds z (cells.toList.drop (n * z.length))) :
    R Γ (fun i => if i = d then .slice (some ⟨w.heap.size, 0, none⟩) n cap else hv i) F (s.newOb d (.row e z xs ys ex) (.val (.one (.own d)))) (a.put (some d) (.slice (some ⟨w.heap.size, 0, none⟩) n cap)) (w.alloc (.cells cells e)) := by
  refine h.newOb_ hd hd1 (h.away.alloc _) (by simp) (fun b hb => Below.heap_alloc _ _ _ hb) (fun b hb' => ?_) (fun live hlive => ?_) (fun live hl => ⟨hl, by simp, rfl⟩)
  · simp only [hb, Option.some.injEq] at hb'
    subst hb'
    simp
  · have ht : ∀ cs us, HDs hv (s.kill d).live w (Γ.t F) (Γ.p F) cs us → HDs (fun i => if i = d then .slice (some ⟨w.heap.size, 0, none⟩) n cap else hv i) live (w.alloc (.cells cells e)) (Γ.t F) (Γ.p F) cs us := fun cs us hh =>
      hh.turn (fun i hl => ⟨hlive i hl, by simp [(kill_live hl).1]⟩) h.pt (fun b hb => Below.heap_alloc _ _ _ (h.t_lt hb))
    refine ⟨h0, hx, hys, cells.toList.take (n * z.length), cells.toList.drop (n * z.length), ?_, ht _ _ hden, ?_⟩
    · simp only [if_true]
      refine .inr ⟨w.heap.size, cap, cells, by rw [hn], heap_alloc_new w _, by rw [hn]; exact hcap, hcm, hcs, (List.take_append_drop _ _).symm, ?_⟩
      have hcl : cells.toList.length = cap * z.length := Array.length_toList.trans hcs
      rw [List.length_take, hcl, hn]
      exact Nat.min_eq_left (Nat.mul_le_mul_right _ hcap)
    · cases ex
      · exact hr
      · exact ht _ _ hr
theorem foldl_cells (off : Nat) : ∀ (l : List Value) (k : Nat) (cells : Array Value), off + k + l.length ≤ cells.size →
    ((l.zipIdx k).foldl (fun (cs : Array Value) (p : Value × Nat) => cs.setIfInBounds (off + p.2) p.1) cells).toList = cells.toList.take (off + k) ++ l ++ cells.toList.drop (off + k + l.length)
  | [], k, cells, _ => by simp
  | v :: l, k, cells, h => by
    simp only [List.zipIdx_cons, List.foldl_cons]
    simp only [List.length_cons] at h
    rw [foldl_cells off l (k + 1) _ (by simp; omega)]
    have hk : off + k < cells.toList.length := by simp; omega
    rw [Array.toList_setIfInBounds]
    have e1 : (cells.toList.set (off + k) v).take (off + (k + 1)) = cells.toList.take (off + k) ++ [v] := by
      rw [← Nat.add_assoc, List.take_succ_eq_append_getElem (by simpa using hk)]
      simp [List.take_set_of_le]
    have e2 : (cells.toList.set (off + k) v).drop (off + (k + 1) + l.length) = cells.toList.drop (off + k + (l.length + 1)) := by
      rw [List.drop_set_of_lt (by omega)]
      congr 1
      omega
    rw [e1, e2]
    simp
theorem fill_ok (size : Nat) : ∀ (parts : List (Nat × Value)) (k : Nat) (cells : Array Value), parts.map (·.1) = (List.range' k parts.length) → (∀ p ∈ parts, p.2.cells.size = size) → (k + parts.length) * size ≤ cells.size →
    ∃ r, Instr.fill (fun i => some (i * size, size)) cells parts = some r ∧ r.toList = cells.toList.take (k * size) ++ (parts.map (·.2.cells.toList)).flatten ++ cells.toList.drop ((k + parts.length) * size)
  | [], k, cells, _, _, _ => ⟨cells, rfl, by simp⟩
  | (i, v) :: parts, k, cells, h1, h2, h3 => by
    simp only [List.map_cons, List.length_cons, List.range'_succ, List.cons.injEq] at h1
    obtain ⟨rfl, h1⟩ := h1
    have hv : v.cells.size = size := h2 (i, v) (by simp)
    simp only [List.length_cons] at h3
    have hle : i * size + size ≤ cells.size := by
      rw [show i + (parts.length + 1) = (i + 1) + parts.length by omega, Nat.add_mul, Nat.add_mul] at h3
      omega
    have hf := foldl_cells (i * size) v.cells.toList 0 cells (by simpa [hv] using hle)
    obtain ⟨r, hr1, hr2⟩ := fill_ok size parts (i + 1) (v.cells.zipIdx.foldl (fun cs (c, j) => cs.setIfInBounds (i * size + j) c) cells) h1 (fun p hp => h2 p (by simp [hp])) (by
      have : (v.cells.zipIdx.foldl (fun cs (c, j) => cs.setIfInBounds (i * size + j) c) cells).size = cells.size := by
        rw [← Array.length_toList, ← Array.foldl_toList, Array.toList_zipIdx, hf]
        simp [hv]
        omega
      rw [this]
      rw [show i + 1 + parts.length = i + (parts.length + 1) by omega]
      exact h3)
    refine ⟨r, ?_, ?_⟩
    · simp only [Instr.fill, hv]
      rw [if_neg (by simp; omega)]
      exact hr1
    · rw [hr2, ← Array.foldl_toList, Array.toList_zipIdx, hf]
      simp only [Nat.add_zero, Array.length_toList, hv, List.map_cons, List.flatten_cons, List.length_cons]
      have l1 : (cells.toList.take (i * size)).length = i * size := by simp; omega
      have l2 : v.cells.toList.length = size := by simpa using hv
      have e1 : (cells.toList.take (i * size) ++ v.cells.toList ++ cells.toList.drop (i * size + size)).take ((i + 1) * size) = cells.toList.take (i * size) ++ v.cells.toList := by
        rw [List.take_left' (by simp [l2, Nat.add_mul]; omega)]
      have e2 : (cells.toList.take (i * size) ++ v.cells.toList ++ cells.toList.drop (i * size + size)).drop ((i + 1 + parts.length) * size) = cells.toList.drop ((i + (parts.length + 1)) * size) := by
        have e3 : (i + 1 + parts.length) * size = (cells.toList.take (i * size) ++ v.cells.toList).length + parts.length * size := by
          rw [List.length_append, l1, l2]; simp only [Nat.add_mul]; omega
        rw [e3, ← List.drop_drop, List.drop_left, List.drop_drop]
        congr 1
        simp only [Nat.add_mul]; omega
      rw [e1, e2]
      simp
theorem R.new_ok (h : R Γ hv F s a w) {o : Oper} {p : Prop} {s' : S} (hc : opConstOk o = true) (hdst : ∀ d, o.dst = some d → d < Γ.N ∧ d < 1000) (he : newC P o s = some (p, s')) (hp : p) :
    ∃ v w' hv' F', (execOp a.eval o).run P w = .ok (.value v) w' ∧ R Γ hv' F' s' (a.put o.dst v) w' := by
  unfold newC at he
  split at he
  · cases he
  · rename_i d hd
    obtain ⟨hdl, hd1⟩ := hdst d hd
    split at he
    · rename_i t e
      split at he
      · rename_i cs hz
        cases he
        obtain ⟨i, z, h1, h2, rfl, h3⟩ := zeroT'_some hz
        refine ⟨.pointer (some ⟨w.heap.size, 0, none⟩), w.alloc (.cells z.cells t), fun i => if i = d then .pointer (some ⟨w.heap.size, 0, none⟩) else hv i, F, ?_, ?_⟩
        · simp only [execOp, e]
          simp [Instr.alloc, zeroValue, typeInfo, h1, h2, newVar, newRow]
        · rw [hd]
          refine h.newOb_ hdl hd1 (h.away.alloc _) (by simp) (fun b hb => Below.heap_alloc _ _ _ hb) (fun b hb' => ?_) (fun live hlive => ?_) (fun live hl => ?_)
          · simp only [hb, Option.some.injEq] at hb'
            subst hb'
            simp
          · refine ⟨w.heap.size, z.cells, by simp, heap_alloc_new w _, Dens.hds h.pt (dens_const h3)⟩
          · exact ⟨hl, w.heap.size, by simp [hb], by simp⟩
      · cases he
    · rename_i t x e
      split at he
      · rename_i x1 hx1
        cases he
        have h1 := (h.kill d).ev x (opConst hc (by simp [e, Op.operands]))
        rw [hx1] at h1
        have h2 := V1.hd_cells (x := x1) h1
        refine ⟨.pointer (some ⟨w.heap.size, 0, none⟩), w.alloc (.cells (a.eval x).cells t), fun i => if i = d then .pointer (some ⟨w.heap.size, 0, none⟩) else hv i, F, ?_, ?_⟩
        · simp only [execOp, e]
          simp [Instr.box, newVar, newRow]
        · rw [hd]
          refine h.newOb_ hdl hd1 (h.away.alloc _) (by simp) (fun b hb => Below.heap_alloc _ _ _ hb) (fun b hb' => ?_) (fun live hlive => ?_) (fun live hl => ?_)
          · simp only [hb, Option.some.injEq] at hb'
            subst hb'
            simp
          · refine ⟨w.heap.size, (a.eval x).cells, by simp, heap_alloc_new w _, h2.turn (fun i hl => ⟨hlive i hl, by simp [(kill_live hl).1]⟩) h.pt (fun b hb => Below.heap_alloc _ _ _ (h.t_lt hb))⟩
          · exact ⟨hl, w.heap.size, by simp [hb], by simp⟩
      · cases he
    · rename_i e
      split at he
      · rename_i e' hel
        split at he
        · rename_i z hz
          cases he
          refine ⟨.slice none 0 0, w, _, F, ?_, by rw [hd]; exact h.nil_ok hdl hd1 hp⟩
          simp only [execOp, e]
          rfl
        · cases he
      · cases he
    · rename_i e
      split at he
      · rename_i e' hel
        split at he
        · rename_i z hz
          cases he
          refine ⟨.slice none 0 0, w, _, F, ?_, by rw [hd]; exact h.nil_ok hdl hd1 hp⟩
          simp only [execOp, e]
          rfl
        · cases he
      · cases he
    · rename_i t l c e
      split at he
      · rename_i e' hel
        split at he
        · rename_i y z hy hz
          split at he
          · rename_i kl n kc m hl hm
            cases he
            obtain ⟨p1, p2, p3, p4, p5, p6⟩ := hp
            have h1 := h.ev l (opConst hc (by simp [e, Op.operands]))
            have h2 := h.ev c (opConst hc (by simp [e, Op.operands]))
            rw [hl] at h1
            rw [hm] at h2
            have h1 := hd_int h1
            have h2 := hd_int h2
            obtain ⟨i, zv, hi, hz1, rfl, hz3⟩ := zeroT'_some hz
            obtain ⟨i', d', hi', _, hsz, hby, _⟩ := tyI_some hy
            obtain rfl : i = i' := Option.some.inj (hi.symm.trans hi')
            have hzs : zv.cells.size = y.sz := by simpa using p2
            have hr := run_make (P := P) w t e' i zv (elT_some hel) hi hz1 kl kc n m p3 p4 (by rw [hby]; omega) p6
            rw [hsz] at hr
            have hnm : n.toNat ≤ m.toNat := by omega
            obtain ⟨k, hk⟩ : ∃ k, m.toNat = n.toNat + k := ⟨m.toNat - n.toNat, by omega⟩
            have hmk : m.toNat - n.toNat = k := by omega
            have e0 : (madeCells zv.cells (m.toNat * y.sz)).toList = (List.replicate n.toNat zv.cells.toList).flatten ++ (List.replicate k zv.cells.toList).flatten := by
              rw [madeCells_flat hzs, hk, ← List.replicate_append_replicate, List.flatten_append]
            have e3 : n.toNat * y.sz = (List.replicate n.toNat zv.cells.toList).flatten.length := by simp [hzs]
            have hdk : ∀ k, Dens w (Γ.p F) (List.replicate k (zv.cells.toList.map constC)).flatten (List.replicate k zv.cells.toList).flatten := fun k => by
              have e2 : (List.replicate k (zv.cells.toList.map constC)).flatten = ((List.replicate k zv.cells.toList).flatten).map constC := by
                rw [List.map_flatten, List.map_replicate]
              rw [e2]
              refine dens_const fun v hv' => ?_
              obtain ⟨l', hl', hv''⟩ := List.mem_flatten.1 hv'
              rw [List.eq_of_mem_replicate hl'] at hv''
              exact hz3 v hv''
            have hzl : (zv.cells.toList.map constC).length = y.sz := p2
            have hR := h.row_new (e := e') (n := n.toNat) (cap := m.toNat) (cells := madeCells zv.cells (m.toNat * y.sz)) (z := zv.cells.toList.map constC) (xs := List.replicate n.toNat (zv.cells.toList.map constC)) (ys := List.replicate (m.toNat - n.toNat) (zv.cells.toList.map constC)) (ex := true) hdl hd1 (by omega)
              (fun x hx => by rw [List.replicate_append_replicate] at hx; rw [List.eq_of_mem_replicate hx]) (fun e => by cases e) (by simp) hnm (by simp only [maxLen]; omega) (by rw [size_madeCells, hzl])
              (by rw [hzl, e0, e3, List.take_left]; exact Dens.hds h.pt (hdk _)) (by simp only [if_true]; rw [hzl, e0, e3, List.drop_left, hmk]; exact Dens.hds h.pt (hdk _))
            refine ⟨.slice (some ⟨w.heap.size, 0, none⟩) n.toNat m.toNat, _, _, F, ?_, by rw [hd]; exact hR⟩
            simp only [execOp, e, h1, h2, Sem.run_bind, hr]
            rfl
          · cases he
        · cases he
      · cases he
    · rename_i t len parts e
      split at he
      · rename_i e' hel
        split at he
        · rename_i y z hy hz
          simp only [Option.some.injEq, Prod.mk.injEq] at he
          obtain ⟨rfl, rfl⟩ := he
          obtain ⟨p1, pz, p2, p3, p4⟩ := hp
          obtain ⟨i, zv, hi, hz1, rfl, hz3⟩ := zeroT'_some hz
          obtain ⟨i', d', hi', _, hsz, hby, _⟩ := tyI_some hy
          obtain rfl : i = i' := Option.some.inj (hi.symm.trans hi')
          have hxs : ∀ q ∈ parts.toList, ∃ us : List Value, (a.eval q.2).cells.toList = us ∧ HDs hv (s.kill d).live w (Γ.t F) (Γ.p F) ((s.kill d).ev q.2).cs us ∧ us.length = y.sz := by
            intro q hq
            have hlen := p3 _ (List.mem_map.2 ⟨q, hq, rfl⟩)
            have hev := (h.kill d).ev q.2 (opConst hc (by rw [e]; simp only [Op.operands]; simp; exact ⟨q.1, by simpa using hq⟩))
            cases hx : (s.kill d).ev q.2 with
            | un => rw [hx] at hlen; simp [SV.cs] at hlen; omega
            | tup l => rw [hx] at hlen; simp [SV.cs] at hlen; omega
            | val x =>
              rw [hx] at hev hlen
              have hd := V1.hd_cells (x := x) hev
              simp only [SV.cs] at hlen
              exact ⟨_, rfl, hd, by rw [hd.1, hlen]⟩
          have hfill := fill_ok y.sz (parts.map fun (i, x) => (i, a.eval x)).toList 0 ((Array.range (len * y.sz)).map (fun i => (if len * y.sz = 0 then #[] else zv.cells)[i % (if len * y.sz = 0 then #[] else zv.cells).size]!)) (by
              have : (parts.map fun (i, x) => (i, a.eval x)).toList.map (·.1) = parts.toList.map (·.1) := by simp
              rw [this, p2, List.range_eq_range']
              have hl := congrArg List.length p2
              simp at hl
              simp [hl]) (by
              intro q hq
              simp only [Array.toList_map, List.mem_map] at hq
              obtain ⟨q0, hq0, rfl⟩ := hq
              obtain ⟨us, hu1, _, hu3⟩ := hxs q0 hq0
              rw [← Array.length_toList, hu1, hu3]) (by
              have hl := congrArg List.length p2
              simp at hl
              simp [hl])
          obtain ⟨r, hr1, hr2⟩ := hfill
          have hl := congrArg List.length p2
          simp only [List.length_map, Array.length_toList, List.length_range] at hl
          have hr3 : r.toList = (parts.toList.map fun q => (a.eval q.2).cells.toList).flatten := by
            rw [hr2, Nat.zero_mul, List.take_zero, List.nil_append, List.drop_eq_nil_of_le (by simp [hl]), List.append_nil]
            simp [Function.comp_def]
          have hsz' : r.size = len * y.sz := by
            rw [← Array.length_toList, hr3, flat_length (sz := y.sz) (by
              intro x hx
              obtain ⟨q0, hq0, rfl⟩ := List.mem_map.1 hx
              obtain ⟨us, hu1, _, hu3⟩ := hxs q0 hq0
              rw [hu1, hu3])]
            simp [hl]
          have hden : ∀ l : List (Nat × Operand), (∀ q ∈ l, q ∈ parts.toList) → HDs hv (s.kill d).live w (Γ.t F) (Γ.p F) (l.map fun q => ((s.kill d).ev q.2).cs).flatten (l.map fun q => (a.eval q.2).cells.toList).flatten := by
            intro l
            induction l with
            | nil => intro _; exact ⟨rfl, fun j c u hc => by simp at hc⟩
            | cons q l ih =>
              intro hl
              obtain ⟨us, hu1, hu2, _⟩ := hxs q (hl q (by simp))
              simp only [List.map_cons, List.flatten_cons]
              rw [hu1]
              exact hu2.append (ih fun q' hq' => hl q' (by simp [hq']))
          have hlen2 : len ≤ maxLen := by
            have : len ≤ len * y.sz := Nat.le_mul_of_pos_right _ p1
            have h24 : (2 : Nat) ^ 24 = 16777216 := by decide
            simp only [maxLen]
            omega
          have hR := h.row_new (e := e') (n := len) (cap := len) (cells := r) (z := zv.cells.toList.map constC) (xs := parts.toList.map fun p => ((s.kill d).ev p.2).cs) (ys := []) (ex := true) hdl hd1 (by rw [pz]; exact p1) (fun x hx => by rw [List.append_nil] at hx; rw [pz]; exact p3 x hx) (fun _ => rfl) (by simp [hl]) (Nat.le_refl _) hlen2 (by rw [pz]; exact hsz') (by
            rw [pz, List.take_of_length_le (by rw [Array.length_toList, hsz']; exact Nat.le_refl _), hr3]
            exact hden _ fun _ h => h) (by
            simp only [if_true]
            rw [pz, List.drop_eq_nil_of_le (by rw [Array.length_toList, hsz']; exact Nat.le_refl _)]
            exact ⟨rfl, fun j c u hc => by simp at hc⟩)
          refine ⟨.slice (some ⟨w.heap.size, 0, none⟩) len len, _, _, F, ?_, by rw [hd]; exact hR⟩
          simp only [execOp, e, Sem.run_bind, Instr.buildSlice, run_underlying (elT_some hel), Result.andThen_ok, run_sizeOf' hy]
          rw [if_neg (by omega)]
          by_cases h0 : len * y.sz = 0
          · simp only [h0, if_true] at hr1 ⊢
            simp only [Sem.run_bind, Sem.run_pure, Result.andThen_ok]
            rw [hr1]
            simp [newRow]
          · simp only [h0, if_false, Sem.run_bind, zeroValue, typeInfo, run_program, Result.andThen_ok, hi, hz1, Sem.run_pure] at hr1 ⊢
            rw [hr1]
            simp [newRow]
        · cases he
      · cases he
    · cases he
end
/-! ### operations that write: one step -/
/-- Are the cells of these rows of the kinds of this zero? -/
def kindC : C → C → Bool
  | .v (.int k _), .v (.int k' _) => decide (k = k')
  | .v (.int _ _), _ => false
  | .v (.bool _), .v (.bool _) => true
  | .v (.bool _), _ => false
  | .v (.string _), .v (.string _) => true
  | .v (.string _), _ => false
  | _, _ => true
def kindsC (z : List C) (ys : List (List C)) : Prop := ∀ y ∈ ys, ∀ (j : Nat) c, y[j]? = some c → kindC (z.getD j .un) c = true
/-- What a slice that is read holds. -/
def S.srcC (s : S) (id : Nat) : SV → Option (Nat × List (List C))
  | .val (.one (.sl tg sz ys _ _)) => some (sz, ys.map (List.map (C.rt tg)))
  | .val (.one (.own id2)) => if id2 = id then none else match s.ob id2 with
    | some (.row _ z ys _ _) => some (z.length, ys)
    | _ => none
  | _ => none
def S.app (s : S) (id e : Nat) (z : List C) (xs : List (List C)) : S := s.sub id (fun _ => .un) (some (.row e z (subR id (fun _ => .un) xs) [] false))
def writeC (P : Program) (o : Oper) (s : S) : Option (Prop × S) :=
  match o.op with
  | .store t x y => match tyI P t, s.ev x with
    | some yv, .val (.one (.ptr id sz i off)) => match s.ob id with
      | some (.box t' cs0) => some (o.dst = none ∧ sz = 0 ∧ i = 0 ∧ (∃ v, s.ev y = .val v) ∧ (s.ev y).cs.length = yv.sz ∧ off + yv.sz ≤ cs0.length,
          s.setOb id (.box t' (cs0.take off ++ (s.ev y).cs ++ cs0.drop (off + yv.sz))))
      | some (.row e z xs ys ex) => match xs[i]? with
          | some el => some (o.dst = none ∧ sz = z.length ∧ (∃ v, s.ev y = .val v) ∧ (s.ev y).cs.length = yv.sz ∧ off + yv.sz ≤ el.length,
              s.setOb id (.row e z (xs.set i (el.take off ++ (s.ev y).cs ++ el.drop (off + yv.sz))) ys ex))
          | none => none
      | _ => none
    | _, _ => none
  | .call c => match c.callee, c.args.toList, c.argTypes.toList with
    | .builtin .append, [x, y], [t, t'] => match s.ev x with
      | .val (.one (.own id)) => match s.ob id with
        | some (.row e z xs ys0 _) => match tyI P e, zeroT' P e, s.srcC id (s.ev y), o.dst with
          | some yv, some z', some (sz', ys), some d => some (t = t' ∧ elT P t = some e ∧ yv.sz = z.length ∧ 0 < yv.by_ ∧ (ys = [] ∨ sz' = z.length) ∧ (xs.length + ys.length) * yv.by_ ≤ 140737488355328 ∧ z' = z ∧ kindsC z ys0 ∧ id < 2000,
              (s.app id e z (xs ++ ys)).put d (.val (.one (.own id))))
          | _, _, _, _ => none
        | _ => none
      | _ => none
    | _, _, _ => none
  | _ => none

section
variable {P : Program} {Γ : Fr} {hv : Nat → Value} {F : Nat → Prop} {s : S} {a : Act} {w : World}
theorem grown_setRow {g : Nat} {cs : Array Value} : w.grownBy (w.setRow g cs) (some g) := ⟨rfl, rfl, rfl, by simp, fun k _ hk => setRow_other w g k _ (fun e => hk (by simp [e]))⟩
theorem S.live_setOb {id : Nat} {o0 o1 : Ob} (h0 : s.ob id = some o0) : (s.setOb id o1).live = s.live := by
  funext i
  by_cases e : i = id
  · subst e; simp [S.live, S.setOb, h0]
  · simp [S.live, S.setOb, e]
theorem Away.grown {w0 w' : World} {L : Nat → Prop} (h : Away L w0 w) {row : Option Nat} (hg : w.grownBy w' row) (hm : ∀ k, row = some k → w0.heap.size ≤ k ∨ L k) : Away L w0 w' := by
  refine ⟨hg.os.trans h.os, hg.tape.trans h.tape, hg.output.trans h.output, Nat.le_trans h.size hg.size, fun b hb hL => ?_⟩
  refine (hg.block b (Nat.lt_of_lt_of_le hb h.size) fun e => ?_).trans (h.block b hb hL)
  exact (hm b e.symm).elim (fun x => by omega) hL
theorem R.t_ne (h : R Γ hv F s a w) {id : Nat} {o : Ob} (h0 : s.ob id = some o) {b g : Nat} (hb' : Γ.t F b) (hg : hb (hv id) = some g) : b ≠ g := fun e => by
  subst e
  have := h.blk id o b h0 hg
  exact this.2.2 (h.t_mine hb' this.1)
theorem R.setOb_ (h : R Γ hv F s a w) {id : Nat} {o0 o1 : Ob} (h0 : s.ob id = some o0) {w' : World} {row : Option Nat} (hrow : hb (hv id) = row) (hg : w.grownBy w' row)
    (ho1 : o1.HD hv s.live w' (Γ.t F) (Γ.p F) id) : R Γ hv F (s.setOb id o1) a w' := by
  have hlive : (s.sub id (fun c => c) (some o1)).live = s.live := by rw [S.sub_id]; exact S.live_setOb h0
  have hbel : Away Γ.L Γ.w0 w' := h.away.grown hg (fun k hk => (h.blk id o0 k h0 (hrow.trans hk)).1)
  rw [← S.sub_id]
  refine h.turn id (fun c => c) (some o1) hbel (fun _ x => x) (fun b hF => ⟨(h.fz b hF).1, Nat.lt_of_lt_of_le (h.fz b hF).2 hg.size⟩) (fun b hb' => ?_) (fun i b hne hl hbi => ?_) (fun _ _ _ => rfl) (fun c u hc hu => ?_) (fun c f caps hc => by cases c <;> simp [C.hd] at hc ⊢) (fun o' e => by cases e; rw [hlive]; exact ho1) (fun o' b e hb' => ?_) (fun o' v _ hk => h.pin id v hk ⟨_, h0⟩)
  · refine hg.block b (h.t_lt hb') (fun e => ?_)
    exact h.t_ne h0 hb' (hrow.trans e.symm) rfl
  · obtain ⟨o, ho⟩ := hl
    have := h.blk i o b ho hbi
    exact ⟨hg.block b this.2.1 (fun e => hne (h.disj i id b ⟨o, ho⟩ ⟨o0, h0⟩ hbi (hrow.trans e.symm))), Nat.lt_of_lt_of_le this.2.1 hg.size, this.2.2⟩
  · rw [hlive]
    cases c with
    | own i => exact hu
    | mh i => exact hu
    | ptr i _ _ _ => exact hu
    | _ => simp [C.hd] at hc
  · have := h.blk id o0 b h0 hb'
    exact ⟨this.1, Nat.lt_of_lt_of_le this.2.1 hg.size, this.2.2, fun i hne hl hbi => hne (h.disj i id b hl ⟨o0, h0⟩ hbi hb')⟩
theorem HDs.drop_ {live : Nat → Prop} {okT okP : Nat → Prop} {cs : List C} {us : List Value} (h : HDs hv live w okT okP cs us) (o : Nat) : HDs hv live w okT okP (cs.drop o) (us.drop o) :=
  ⟨by simp [h.1], fun j c u hc hu => by rw [List.getElem?_drop] at hc hu; exact h.2 _ c u hc hu⟩
theorem Dens.drop_ {ok : Nat → Prop} {cs : List C} {us : List Value} (h : Dens w ok cs us) (o : Nat) : Dens w ok (cs.drop o) (us.drop o) := by
  obtain ⟨hl, hp⟩ := dens_iff.1 h
  exact dens_iff.2 ⟨by simp [hl], fun j c u hc hu => by rw [List.getElem?_drop] at hc hu; exact hp _ c u hc hu⟩
theorem HDs.one {live : Nat → Prop} {okT okP : Nat → Prop} {cs : List C} {us : List Value} (h : HDs hv live w okT okP cs us) : ∀ u ∈ us, u.oneCell' = true := by
  intro u hu
  obtain ⟨j, hj⟩ := List.mem_iff_getElem?.1 hu
  have hlt : j < cs.length := by rw [← h.1]; exact (List.getElem?_eq_some_iff.1 hj).1
  exact C.HD.one (h.2 j _ u (List.getElem?_eq_getElem hlt) hj)
theorem run_storeAt_row {t : Nat} {y : TyI} (hy : tyI P t = some y) {b o : Nat} {ty : Nat} {cur : Array Value} {v : Value} (hg : w.heap[b]? = some (.cells cur ty (0, 0))) (hl : v.cells.size = y.sz) (hfit : o + y.sz ≤ cur.size) (h1 : ∀ u ∈ v.cells.toList, u.oneCell' = true) :
    (Instr.storeAt t (.pointer (some ⟨b, o, none⟩)) v).run P w = .ok () (w.setRow b (cur.toList.take o ++ v.cells.toList ++ cur.toList.drop (o + y.sz)).toArray) := by
  have hst := run_storeCells_at P b o ty v.cells.toList 0 cur w hg (by simpa [hl] using hfit) h1
  simp only [Nat.add_zero, Array.length_toList, hl] at hst
  simp only [Instr.storeAt, Instr.sureAddr, storeVar, Sem.run_bind, Sem.run_pure, Result.andThen_ok, run_sizeOf' hy]
  rw [if_neg (by simp [hl])]
  exact hst
theorem Rows.vals {ok : Nat → Prop} {b : Nat} : ∀ {xs : List (List C)} {o : Nat}, Rows w ok b o xs → ∃ vals : List Value, (∀ (j : Nat) v, vals[j]? = some v → w.cell? ⟨b, o + j, none⟩ = some v) ∧ Dens w ok xs.flatten vals
  | [], o, _ => ⟨[], by simp, by simp [Dens]⟩
  | e :: es, o, h => by
    simp only [Rows] at h
    obtain ⟨us, h1, h2⟩ := Cells.get h.1
    obtain ⟨vs, h3, h4⟩ := Rows.vals h.2
    refine ⟨us ++ vs, fun j v hj => ?_, by rw [List.flatten_cons]; exact h2.append h4⟩
    have hl := (dens_iff.1 h2).1
    by_cases hjl : j < us.length
    · rw [List.getElem?_append_left hjl] at hj
      exact h1 j v hj
    · rw [List.getElem?_append_right (by omega)] at hj
      have := h3 _ v hj
      rwa [show o + e.length + (j - us.length) = o + j by omega] at this
theorem kindOk_of {live : Nat → Prop} {okT okP : Nat → Prop} {z c : C} {u : Value} (h : C.HD hv live w okT okP c u) (hk : kindC z c = true) : kindOk z u := by
  unfold kindC at hk
  split at hk
  · obtain rfl : u = _ := h.1
    simp only [decide_eq_true_eq] at hk
    subst hk
    exact ⟨_, rfl⟩
  · cases hk
  · obtain rfl : u = _ := h.1
    exact ⟨_, rfl⟩
  · cases hk
  · obtain rfl : u = _ := h.1
    exact ⟨_, rfl⟩
  · cases hk
  · unfold kindOk
    split
    · simp_all
    · simp_all
    · simp_all
    · exact h.one
theorem kinds_of {live : Nat → Prop} {okT okP : Nat → Prop} {z : List C} {ys : List (List C)} {rest : List Value} (h0 : 0 < z.length) (h : HDs hv live w okT okP ys.flatten rest) (hl : ∀ y ∈ ys, y.length = z.length) (hk : kindsC z ys) : kinds z rest := by
  intro i v hi
  have hlt : i < ys.flatten.length := by rw [← h.1]; exact (List.getElem?_eq_some_iff.1 hi).1
  have hlf := flat_length hl
  have hq : i / z.length < ys.length := by rw [hlf] at hlt; exact Nat.div_lt_of_lt_mul (by rw [Nat.mul_comm]; exact hlt)
  have hy := List.getElem?_eq_getElem hq
  have hc := flat_at hl hy
  have hm : i % z.length < z.length := Nat.mod_lt _ h0
  have e1 : ys.flatten[i]? = (ys[i / z.length])[i % z.length]? := by
    rw [← hc, List.getElem?_take, if_pos hm, List.getElem?_drop]
    congr 1
    rw [Nat.mul_comm]
    exact (Nat.div_add_mod i z.length).symm
  have hmem : ys[i / z.length] ∈ ys := List.getElem_mem hq
  have hc2 := List.getElem?_eq_getElem (show i % z.length < (ys[i / z.length]).length by rw [hl _ hmem]; exact hm)
  exact kindOk_of (h.2 i _ v (e1.trans hc2) hi) (hk _ hmem _ _ hc2)
theorem kinds_drop {z : List C} {rest : List Value} (h : kinds z rest) (m : Nat) : kinds z (rest.drop (m * z.length)) := by
  intro i v hi
  rw [List.getElem?_drop] at hi
  have := h _ v hi
  rwa [Nat.add_comm, Nat.add_mul_mod_self_right] at this
theorem kinds_zero {zv : Value} (hz : ∀ v ∈ zv.cells.toList, v.oneCell' = true) (n : Nat) : kinds (zv.cells.toList.map constC) (Builtin.zeroCells zv.cells n).toList := by
  intro i v hi
  simp only [Builtin.zeroCells, Array.toList_map, Array.toList_range, List.getElem?_map] at hi
  obtain ⟨k, hk, rfl⟩ := Option.map_eq_some_iff.1 hi
  have hlt : i < n * zv.cells.size := by have := (List.getElem?_eq_some_iff.1 hk).1; simpa using this
  rw [List.getElem?_range hlt] at hk
  obtain rfl := Option.some.inj hk
  have hs : 0 < zv.cells.size := by rcases Nat.eq_zero_or_pos zv.cells.size with e | e <;> simp_all
  have hm : i % zv.cells.size < zv.cells.size := Nat.mod_lt _ hs
  have e1 : (zv.cells.toList.map constC).getD (i % (zv.cells.toList.map constC).length) .un = constC (zv.cells[i % zv.cells.size]!) := by
    simp [List.getD_eq_getElem?_getD, hm]
  rw [e1]
  have hmem : zv.cells[i % zv.cells.size]! ∈ zv.cells.toList := by
    rw [getElem!_pos zv.cells _ hm]; exact Array.getElem_mem_toList hm
  have h1 := hz _ hmem
  generalize zv.cells[i % zv.cells.size]! = v at *
  unfold constC
  split
  · exact rfl
  · unfold kindOk
    split
    · rename_i e; cases e; exact ⟨_, rfl⟩
    · rename_i e; cases e; exact ⟨_, rfl⟩
    · rename_i e; cases e; exact ⟨_, rfl⟩
    · exact h1
theorem RowAt.cells {e sz : Nat} {u : Value} {n : Nat} {vals rest : List Value} (h : RowAt w e sz u n vals rest) {g : Nat} (hg : hb u = some g) (j : Nat) (v : Value) (hj : vals[j]? = some v) : w.cell? ((⟨g, 0, none⟩ : Addr).add j) = some v := by
  rcases h with ⟨h1, _⟩ | ⟨g', cap, cur, e1, e2, e3, e4, e5, e6, e7⟩
  · subst h1; simp [hb] at hg
  · subst e1
    simp only [hb, Option.some.injEq] at hg
    subst hg
    rw [addr_add]
    have hlt : j < vals.length := (List.getElem?_eq_some_iff.1 hj).1
    simp only [World.cell?, e2, Nat.zero_add, Option.isSome_none, Bool.false_eq_true, if_false]
    rw [← Array.getElem?_toList, e6, List.getElem?_append_left hlt]
    exact hj
/-- The source of an append: its cells. -/
theorem R.src_ok (h : R Γ hv F s a w) {id sz : Nat} {x : SV} {u : Value} {ys : List (List C)} (hx : x.HD hv s.live w (Γ.t F) (Γ.p F) u) (he : s.srcC id x = some (sz, ys)) :
    ∃ A c, u = .slice A ys.length c ∧ (∀ e ∈ ys, e.length = sz) ∧ ∃ vals : List Value, HDs hv s.live w (Γ.t F) (Γ.p F) ys.flatten vals ∧ ((A = none ∧ ys = []) ∨ ∃ ad, A = some ad ∧ ∀ (j : Nat) v, vals[j]? = some v → w.cell? (ad.add j) = some v) := by
  unfold S.srcC at he
  split at he
  · rename_i tg sz' ys' yr ex
    cases he
    have h1 : C.Den w (if tg then Γ.t F else Γ.p F) (.sl tg sz ys' yr ex) u := hx
    simp only [C.Den] at h1
    obtain ⟨A, c, rfl, hc, hall, _, hr⟩ := h1
    refine ⟨A, c, by simp, fun e he => ?_, ?_⟩
    · obtain ⟨y, hy, rfl⟩ := List.mem_map.1 he
      simpa using hall y (List.mem_append_left _ hy)
    rcases hr with hr | ⟨b, o, rfl, _, hr, _⟩
    · obtain ⟨rfl, rfl⟩ := List.append_eq_nil_iff.1 hr
      refine ⟨[], ⟨rfl, fun j c u hc => by simp at hc⟩, ?_⟩
      cases A with
      | none => exact .inl ⟨rfl, rfl⟩
      | some ad => exact .inr ⟨ad, rfl, fun j v hj => by simp at hj⟩
    · obtain ⟨vals, h2, h3⟩ := hr.vals
      refine ⟨vals, ?_, .inr ⟨_, rfl, fun j v hj => by rw [addr_add]; exact h2 j v hj⟩⟩
      have := Dens.rt (hv := hv) (live := s.live) h.pt h3
      rwa [List.map_flatten] at this
  · rename_i id2
    split at he
    · cases he
    · split at he
      · rename_i e z ys' yr ex hob
        cases he
        obtain ⟨_, hall, _, vals, rest, hown, hd, _⟩ := h.obs id2 _ hob
        obtain ⟨hl, rfl, _⟩ := hx
        have hc := fun g hg => hown.cells (g := g) hg
        have hall' : ∀ e ∈ ys, e.length = z.length := fun e he => hall e (List.mem_append_left _ he)
        rcases hown with ⟨e1, e2, e3, _⟩ | ⟨g, cap, cur, e1, _⟩
        · have : ys = [] := List.eq_nil_of_length_eq_zero e2
          subst this
          subst e3
          exact ⟨none, 0, e1, hall', [], hd, .inl ⟨rfl, rfl⟩⟩
        · exact ⟨_, cap, e1, hall', vals, hd, .inr ⟨_, rfl, hc g (by rw [e1]; rfl)⟩⟩
      · cases he
  · cases he
theorem hb_own {A : Option Addr} {n c : Nat} : hb (.slice A n c) = (Value.slice A n c).ownBlock := by cases A <;> rfl
theorem sub_un_hd {live live' : Nat → Prop} {okT okP : Nat → Prop} {hv hv' : Nat → Value} {id : Nat} (pt : ∀ b, okP b → okT b) (hi : ∀ i, i ≠ id → live i → live' i ∧ hv' i = hv i) {w' : World} (hw : ∀ b, okT b → w'.heap[b]? = w.heap[b]?) {cs : List C} {us : List Value} (h : HDs hv live w okT okP cs us) :
    HDs hv' live' w' okT okP (cs.map (C.sub id (fun _ => .un))) us :=
  HDs.sub (g := fun _ => .un) ⟨fun _ h => h, fun _ h => h, pt, hw⟩ hi (fun c u _ hu => by exact C.HD0.one hu) (fun c f caps _ => by simp) h
theorem run_append_at (w : World) (t ty e : Nat) (i : TypeInfo) (z : Value) (size bytes : Nat) (ht : P.underlying t = some (.slice e)) (hi : P.info? e = some i) (hz : i.zero = some z)
    (hsize : i.size = size) (hby : i.bytes = bytes) (hzs : z.cells.size = size) (hz1 : ∀ v ∈ z.cells.toList, v.oneCell' = true) (hsz : 0 < size) (v : Value) (n : Nat) (xs rest : List Value) (hown : RowAt w e size v n xs rest) (hk : kinds (z.cells.toList.map constC) rest)
    (a : Addr) (m c : Nat) (news : List Value) (hl : news.length = m * size) (hnews : ∀ j u, news[j]? = some u → w.cell? (a.add j) = some u) (h1 : ∀ u ∈ news, u.oneCell' = true)
    (h63 : n + m ≤ maxLen) (hbytes : (n + m) * bytes ≤ 140737488355328) :
    ∃ v' w' rest', (Builtin.append_ #[t, t] ty #[v, .slice (some a) m c]).run P w = .ok v' w' ∧ RowAt w' e size v' (n + m) (xs ++ news) rest' ∧ kinds (z.cells.toList.map constC) rest' ∧ w.grownBy w' v.ownBlock ∧
      (v'.ownBlock = v.ownBlock ∨ v'.ownBlock = some w.heap.size) := by
  subst hsize
  subst hby
  have hzl : (z.cells.toList.map constC).length = i.size := by simpa using hzs
  have hsmall : n + m ≤ 9223372036854775807 := by simp only [maxLen] at h63; omega
  have hxl : xs.length = n * i.size := hown.own.1
  have hlen : (xs ++ news).length = (n + m) * i.size := by rw [List.length_append, hxl, hl, Nat.add_mul]
  have grown : ∀ (old : Nat), old < n + m → ∀ (row : Option Nat),
      RowAt (w.drew.alloc (.cells (xs.toArray ++ news.toArray ++ Builtin.zeroCells z.cells (grownCap w (n + m) old e - (n + m))) e)) e i.size
        (.slice (some ⟨w.heap.size, 0, none⟩) (n + m) (grownCap w (n + m) old e)) (n + m) (xs ++ news) (Builtin.zeroCells z.cells (grownCap w (n + m) old e - (n + m))).toList ∧
      w.grownBy (w.drew.alloc (.cells (xs.toArray ++ news.toArray ++ Builtin.zeroCells z.cells (grownCap w (n + m) old e - (n + m))) e)) row := by
    intro old ho row
    have hge := grownCap_ge w (n + m) old e
    have hcm : grownCap w (n + m) old e ≤ maxLen := grownCap_le_maxLen w (n + m) old e h63
    refine ⟨.inr ⟨w.heap.size, _, _, rfl, heap_alloc_new w.drew _, hge, hcm, ?_, ?_, hlen⟩, ⟨rfl, rfl, rfl, by simp, fun k hk _ => heap_alloc_old w.drew _ k hk⟩⟩
    · simp only [Array.size_append, List.size_toArray, size_zeroCells, hzs, hxl, hl, ← Nat.add_mul]
      congr 1
      omega
    · simp
  have hkz := fun k => kinds_zero hz1 k
  rcases hown with ⟨rfl, rfl, rfl, rfl⟩ | ⟨g, cap, cur, rfl, hg, hnc, hcm, hcs, htake, hvl⟩
  · by_cases hm : m = 0
    · subst hm
      have hn : news = [] := List.eq_nil_of_length_eq_zero (by simpa using hl)
      subst hn
      refine ⟨.slice none 0 0, w, [], ?_, .inl ⟨rfl, rfl, rfl, rfl⟩, hk, ⟨rfl, rfl, rfl, Nat.le_refl _, fun _ _ _ => rfl⟩, Or.inl rfl⟩
      simp [Builtin.append_, run_underlying ht, sizeOf, typeInfo, hi, Builtin.lenOf, Builtin.firstCells, loadCells, loadCellsFrom]
    · have hr := run_append_nil (P := P) w t ty e i z ht hi hz a m c news hl hnews (by omega) (by omega) (by have hb := hbytes; simp only [Nat.zero_add] at hb; omega)
      have hgr := grown 0 (by omega) (Value.ownBlock (.slice none 0 0))
      simp only [Nat.zero_add, List.nil_append, Array.empty_append] at hgr ⊢
      exact ⟨_, _, _, hr, hgr.1, hkz _, hgr.2, Or.inr rfl⟩
  · have hown' : RowAt w e i.size (.slice (some ⟨g, 0, none⟩) n cap) n xs rest := .inr ⟨g, cap, cur, rfl, hg, hnc, hcm, hcs, htake, hvl⟩
    by_cases hroom : n + m ≤ cap
    · have hfit : n * i.size + news.length ≤ cur.size := by rw [hl, hcs, ← Nat.add_mul]; exact Nat.mul_le_mul_right _ hroom
      have hr := run_append_room (P := P) w t ty e i ht hi g n cap cur hg a m c news hl hnews h1 hroom hfit
      refine ⟨_, _, rest.drop (m * i.size), hr, .inr ⟨g, cap, _, rfl, setRow_heap w g cur _ e _ hg, hroom, hcm, ?_, ?_, hlen⟩, by rw [← hzl]; exact kinds_drop hk m, ⟨rfl, rfl, rfl, by simp, fun k _ hk => setRow_other w g k _ (fun e => hk (by simp [Value.ownBlock, e]))⟩, Or.inl rfl⟩
      · simp only [List.size_toArray, List.length_append, List.length_take, List.length_drop, Array.length_toList]
        omega
      · have e1 : cur.toList.take (n * i.size) = xs := by rw [htake, ← hvl]; exact List.take_left
        have e2 : cur.toList.drop (n * i.size + news.length) = rest.drop (m * i.size) := by
          rw [htake, ← List.drop_drop, ← hvl, List.drop_left, hl]
        simp only [e1, e2]
    · have hr := run_append_grow (P := P) w t ty e i z ht hi hz ⟨g, 0, none⟩ n cap xs hvl (hown'.cells (g := g) rfl) a m c news hl hnews (by omega) (by omega) (growslice_fits (by omega) hbytes)
      have hgr := grown cap (by omega) (Value.ownBlock (.slice (some ⟨g, 0, none⟩) n cap))
      exact ⟨_, _, _, hr, hgr.1, hkz _, hgr.2, Or.inr rfl⟩
theorem run_append_none (t ty e : Nat) (i : TypeInfo) (size : Nat) (ht : P.underlying t = some (.slice e)) (hi : P.info? e = some i)
    (v : Value) (n c : Nat) (xs rest : List Value) (hown : RowAt w e size v n xs rest) :
    (Builtin.append_ #[t, t] ty #[v, .slice none 0 c]).run P w = .ok v w := by
  rcases hown with ⟨rfl, rfl, _⟩ | ⟨g, cap, cur, rfl, _, hnc, _⟩
  · simp [Builtin.append_, run_underlying ht, sizeOf, typeInfo, hi, Builtin.lenOf, Builtin.firstCells]
  · simp [Builtin.append_, run_underlying ht, sizeOf, typeInfo, hi, Builtin.lenOf, Builtin.firstCells, hnc, storeCells]
theorem R.append_ok (h : R Γ hv F s a w) {d id e : Nat} {z : List C} {xs ys ys0 : List (List C)} {ex : Bool} {yv : TyI} {t ty : Nat} {u : Value} {x : SV} {sz' : Nat} (hd : d < Γ.N) (hob : s.ob id = some (.row e z xs ys0 ex)) (hy : tyI P e = some yv)
    (hx : x.HD hv s.live w (Γ.t F) (Γ.p F) u) (he : s.srcC id x = some (sz', ys))
    (hel : elT P t = some e) (hsz : yv.sz = z.length) (hby : 0 < yv.by_) (hyz : ys = [] ∨ sz' = z.length) (hlim : (xs.length + ys.length) * yv.by_ ≤ 140737488355328) (hz : zeroT' P e = some z) (hkc : kindsC z ys0) (hid : id < 2000) :
    ∃ v w' hv', (Builtin.append_ #[t, t] ty #[hv id, u]).run P w = .ok v w' ∧ R Γ hv' F ((s.app id e z (xs ++ ys)).put d (.val (.one (.own id)))) (a.put (some d) v) w' := by
  obtain ⟨h0, hall, hex, vals, rest, hown, hden, hrest⟩ := h.obs id _ hob
  obtain ⟨A, c, rfl, hally, news, hdn, hA⟩ := h.src_ok hx he
  obtain ⟨i, zv, hi, hz3, rfl, hz4⟩ := zeroT'_some hz
  obtain ⟨i', d', hi', _, hszi, hbyi, _⟩ := tyI_some hy
  obtain rfl : i = i' := Option.some.inj (hi.symm.trans hi')
  generalize hzz : zv.cells.toList.map constC = z at *
  have hzs : zv.cells.size = z.length := by rw [← hzz]; simp
  have hally' : ∀ e ∈ ys, e.length = z.length := by
    rcases hyz with rfl | rfl
    · simp
    · exact hally
  have hkr : kinds z rest := by
    cases ex
    · exact hrest
    · simp only [if_true] at hrest
      exact kinds_of h0 hrest (fun y hy => hall y (List.mem_append_right _ hy)) hkc
  have hnl : news.length = ys.length * z.length := by rw [hdn.1, flat_length hally']
  have hrun : ∃ v' w' rest', (Builtin.append_ #[t, t] ty #[hv id, .slice A ys.length c]).run P w = .ok v' w' ∧ RowAt w' e z.length v' (xs.length + ys.length) (vals ++ news) rest' ∧ kinds z rest' ∧ w.grownBy w' (hv id).ownBlock ∧ (v'.ownBlock = (hv id).ownBlock ∨ v'.ownBlock = some w.heap.size) := by
    rcases hA with ⟨rfl, rfl⟩ | ⟨ad, rfl, hcells⟩
    · have hn0 : news = [] := List.eq_nil_of_length_eq_zero (by simpa using hnl)
      subst hn0
      refine ⟨hv id, w, rest, ?_, by simpa using hown, hkr, World.grownBy.refl w _, .inl rfl⟩
      exact run_append_none (P := P) (w := w) t ty e i z.length (elT_some hel) hi (hv id) xs.length c vals rest hown
    · obtain ⟨v', w', rest', h1, h2, h3, h4, h5⟩ := run_append_at (P := P) w t ty e i zv z.length yv.by_ (elT_some hel) hi hz3 (hszi.trans hsz) hbyi hzs hz4 h0 (hv id) xs.length vals rest hown (by rw [hzz]; exact hkr) ad ys.length c news hnl hcells hdn.one (by
        have : xs.length + ys.length ≤ (xs.length + ys.length) * yv.by_ := Nat.le_mul_of_pos_right _ hby
        simp only [maxLen]; omega) hlim
      rw [hzz] at h3
      exact ⟨v', w', rest', h1, h2, h3, h4, h5⟩
  obtain ⟨v', w', rest', hr1, hr2, hr2k, hr3, hr4⟩ := hrun
  obtain ⟨A', c', hvs, hcc, _⟩ := hr2.slice
  obtain ⟨A0, c0, hvs0, _⟩ := h.row_slice hob
  have hrow : hb (hv id) = (hv id).ownBlock := by rw [hvs0, hb_own]
  have hrow' : hb v' = v'.ownBlock := by rw [hvs, hb_own]
  have hkeep : ∀ b, Γ.t F b → w'.heap[b]? = w.heap[b]? := fun b hb' => hr3.block b (h.t_lt hb') (fun e => h.t_ne hob hb' (hrow.trans e.symm) rfl)
  have hbel : Away Γ.L Γ.w0 w' := h.away.grown hr3 (fun k hk => (h.blk id _ k hob (hrow.trans hk)).1)
  have hli : ∀ i, i ≠ id → s.live i → (s.app id e z (xs ++ ys)).live i ∧ (fun i => if i = id then v' else hv i) i = hv i := fun i hne hl => ⟨(S.live_sub s _ _ hne).2 hl, by simp [hne]⟩
  have hnew : R Γ (fun i => if i = id then v' else hv i) F (s.app id e z (xs ++ ys)) a w' := by
    refine h.turn id (fun _ => .un) _ hbel (fun _ x => x) (fun b hF => ⟨(h.fz b hF).1, Nat.lt_of_lt_of_le (h.fz b hF).2 hr3.size⟩) hkeep (fun i b hne hl hbi => ?_) (fun i hne _ => by simp [hne]) (fun c u _ hu => hu.one) (fun c f caps _ => by simp) (fun o' eo => ?_) (fun o' b eo hb' => ?_) (fun o' v _ hk => ?_)
    · obtain ⟨o, ho⟩ := hl
      have := h.blk i o b ho hbi
      exact ⟨hr3.block b this.2.1 (fun e => hne (h.disj i id b ⟨o, ho⟩ ⟨_, hob⟩ hbi (hrow.trans e.symm))), Nat.lt_of_lt_of_le this.2.1 hr3.size, this.2.2⟩
    · cases eo
      have hall2 : ∀ x ∈ xs ++ ys, x.length = z.length := fun x hx => (List.mem_append.1 hx).elim (fun hx => hall x (List.mem_append_left _ hx)) (hally' x)
      refine ⟨h0, by rw [List.append_nil]; exact subR_len _ _ hall2, fun _ => rfl, vals ++ news, rest', ?_, ?_, ?_⟩
      · have : (subR id (fun _ => C.un) (xs ++ ys)).length = xs.length + ys.length := by simp [subR]
        rw [this]
        simp only [if_true]
        exact hr2
      · rw [flat_subR, List.flatten_append]
        exact sub_un_hd (id := id) h.pt hli hkeep (hden.append hdn)
      · exact hr2k
    · simp only [if_true] at hb'
      rw [hrow'] at hb'
      have l2 : b < w'.heap.size := by
        rcases hr2 with ⟨e1, _⟩ | ⟨g, cap, cur, e1, e2, _⟩
        · rw [e1] at hb'; simp [Value.ownBlock] at hb'
        · rw [e1] at hb'
          simp only [Value.ownBlock, Option.some.injEq] at hb'
          subst hb'
          exact (Array.getElem?_eq_some_iff.1 e2).1
      rcases hr4 with hr4 | hr4
      · have := h.blk id _ b hob (hrow.trans (hr4.symm.trans hb'))
        exact ⟨this.1, l2, this.2.2, fun i hne hl hbi => hne (h.disj i id b hl ⟨_, hob⟩ hbi (hrow.trans (hr4.symm.trans hb')))⟩
      · have hbw : b = w.heap.size := by rw [hr4] at hb'; exact (Option.some.inj hb').symm
        refine ⟨h.new_mine (by omega), l2, fun hF => ?_, fun i hne ⟨o, ho⟩ hbi => ?_⟩
        · have := (h.fz b hF).2; omega
        · have := (h.blk i o b ho hbi).2.1; omega
    · exfalso
      have h1 := h.pin id v hk ⟨_, hob⟩
      rw [hvs0] at h1
      cases v with
      | slice A1 n1 c1 => have := (h.pins id _ hk).2 _ _ _ rfl; omega
      | _ => simp [pinOk] at h1
  refine ⟨v', w', _, hr1, hnew.put hd ?_⟩
  refine ⟨⟨_, S.sub_ob_same _ _ _ _⟩, by simp, ?_⟩
  rw [hvs]; rfl
theorem R.store_ok (h : R Γ hv F s a w) {o : Oper} {p : Prop} {s' : S} {t : Nat} {x y : Operand} (e : o.op = .store t x y) (hc : opConstOk o = true) (he : writeC P o s = some (p, s')) (hp : p) :
    ∃ w', (execOp a.eval o).run P w = .ok .skip w' ∧ R Γ hv F s' (a.put o.dst undef) w' := by
  have hev : ∀ y ∈ o.op.operands, (s.ev y).HD hv s.live w (Γ.t F) (Γ.p F) (a.eval y) := fun y hy => h.ev y (opConst hc hy)
  unfold writeC at he
  rw [e] at he
  simp only at he
  split at he
  · rename_i yv id sz i off hy hx
    have h1 := hev x (by simp [e, Op.operands])
    have h2 := hev y (by simp [e, Op.operands])
    rw [hx] at h1
    obtain ⟨_, b, hb1, hu⟩ := h1
    split at he
    · rename_i t' cs0 hob
      simp only [Option.some.injEq, Prod.mk.injEq] at he
      obtain ⟨rfl, rfl⟩ := he
      obtain ⟨hd, rfl, rfl, ⟨v, hv1⟩, hl, hfit⟩ := hp
      obtain ⟨b', cur, e1, e2, e3⟩ := h.obs id _ hob
      rw [e1] at hb1
      simp only [hb, Option.some.injEq] at hb1
      subst hb1
      rw [hv1] at h2 hl
      have h3 := V1.hd_cells (x := v) h2
      simp only [SV.cs] at hl
      have hvl : (a.eval y).cells.size = yv.sz := by rw [← Array.length_toList, h3.1, hl]
      have hcl := e3.1
      have hst := run_storeAt_row (P := P) (w := w) hy (o := off) e2 hvl (by rw [← Array.length_toList, hcl]; exact hfit) h3.one
      refine ⟨w.setRow b' (cur.toList.take off ++ (a.eval y).cells.toList ++ cur.toList.drop (off + yv.sz)).toArray, ?_, ?_⟩
      · simp only [execOp, e, hu, Nat.zero_mul, Nat.zero_add, Sem.run_bind, hst]
        rfl
      · rw [hd]
        refine h.setOb_ hob (row := some b') (by rw [e1]; rfl) grown_setRow ?_
        refine ⟨b', _, e1, setRow_heap w b' cur _ _ _ e2, ?_⟩
        have hne : ∀ b, Γ.t F b → (w.setRow b' (cur.toList.take off ++ (a.eval y).cells.toList ++ cur.toList.drop (off + yv.sz)).toArray).heap[b]? = w.heap[b]? := fun b hb' => setRow_other w b' b _ (h.t_ne hob hb' (by rw [e1]; rfl))
        have a1 := (e3.slice 0 off).turn (hv' := hv) (live' := s.live) (fun i hl => ⟨hl, rfl⟩) h.pt hne
        have a2 := h3.turn (hv' := hv) (live' := s.live) (fun i hl => ⟨hl, rfl⟩) h.pt hne
        have a3 := (e3.drop_ (off + yv.sz)).turn (hv' := hv) (live' := s.live) (fun i hl => ⟨hl, rfl⟩) h.pt hne
        simp only [List.drop_zero] at a1
        have := (a1.append a2).append a3
        rw [hv1]
        simpa [SV.cs] using this
    · rename_i e0 z xs ys ex hob
      split at he
      · rename_i el hel
        simp only [Option.some.injEq, Prod.mk.injEq] at he
        obtain ⟨rfl, rfl⟩ := he
        obtain ⟨hd, rfl, ⟨v, hv1⟩, hl, hfit⟩ := hp
        rw [hv1] at h2 hl
        simp only [SV.cs] at hl
        have h3 := V1.hd_cells (x := v) h2
        have hlt : i < xs.length := (List.getElem?_eq_some_iff.1 hel).1
        obtain ⟨h0, hall, hex, vals, rest, hown, hden, hrest⟩ := h.obs id _ hob
        have hallx : ∀ x ∈ xs, x.length = z.length := fun x hx => hall x (List.mem_append_left _ hx)
        have hels : el.length = z.length := hallx el (List.mem_of_getElem? hel)
        rcases hown with ⟨_, hn0, _⟩ | ⟨g, cap, cur, e1, e3, e4, e5, e6, e7, e8⟩
        · omega
        · rw [e1] at hb1
          simp only [hb, Option.some.injEq] at hb1
          subst hb1
          have hvl : (a.eval y).cells.size = yv.sz := by rw [← Array.length_toList, h3.1, hl]
          have hle1 : i * z.length + z.length ≤ xs.length * z.length := by rw [← Nat.succ_mul]; exact Nat.mul_le_mul_right _ hlt
          have hle2 : xs.length * z.length ≤ cap * z.length := Nat.mul_le_mul_right _ e4
          have hstr := run_storeAt_row (P := P) (w := w) hy (o := i * z.length + off) e3 hvl (by omega) h3.one
          refine ⟨w.setRow g (cur.toList.take (i * z.length + off) ++ (a.eval y).cells.toList ++ cur.toList.drop (i * z.length + off + yv.sz)).toArray, ?_, ?_⟩
          · simp only [execOp, e, hu, Sem.run_bind, hstr]
            rfl
          · rw [hd, hv1]
            simp only [SV.cs]
            refine h.setOb_ hob (row := some g) (by rw [e1]; rfl) grown_setRow ?_
            have hne : ∀ b, Γ.t F b → (w.setRow g (cur.toList.take (i * z.length + off) ++ (a.eval y).cells.toList ++ cur.toList.drop (i * z.length + off + yv.sz)).toArray).heap[b]? = w.heap[b]? := fun b hb' => setRow_other w g b _ (h.t_ne hob hb' (by rw [e1]; rfl))
            have hfl := flat_at hallx hel
            have hfll : xs.flatten.length = xs.length * z.length := flat_length hallx
            have hl' : v.cells.length = yv.sz := hl
            have e8' : (xs.set i (el.take off ++ v.cells ++ el.drop (off + yv.sz))).flatten = xs.flatten.take (i * z.length + off) ++ v.cells ++ xs.flatten.drop (i * z.length + off + yv.sz) := by
              rw [flat_set hallx hlt (by simp; omega), ← hfl]
              rw [List.take_take, Nat.min_eq_left (by omega), List.take_add]
              have e9 : ((xs.flatten.drop (i * z.length)).take z.length).drop (off + yv.sz) ++ xs.flatten.drop (i * z.length + z.length) = xs.flatten.drop (i * z.length + off + yv.sz) := by
                have hm : z.length ≤ (xs.flatten.drop (i * z.length)).length := by rw [List.length_drop, hfll]; omega
                have hdd : ∀ k, xs.flatten.drop (i * z.length + k) = (xs.flatten.drop (i * z.length)).drop k := fun k => by rw [List.drop_drop]
                rw [hdd z.length, Nat.add_assoc, hdd]
                generalize xs.flatten.drop (i * z.length) = m at *
                have : m.drop (off + yv.sz) = (m.take z.length ++ m.drop z.length).drop (off + yv.sz) := by rw [List.take_append_drop]
                rw [this, List.drop_append_of_le_length (by rw [List.length_take]; omega)]
              rw [← e9]
              simp
            have e10 : cur.toList.take (i * z.length + off) = vals.take (i * z.length + off) := by
              rw [e7, List.take_append_of_le_length (by omega)]
            have e11 : cur.toList.drop (i * z.length + off + yv.sz) = vals.drop (i * z.length + off + yv.sz) ++ rest := by
              rw [e7, List.drop_append_of_le_length (by omega)]
            refine ⟨h0, fun x' hx' => ?_, hex, vals.take (i * z.length + off) ++ (a.eval y).cells.toList ++ vals.drop (i * z.length + off + yv.sz), rest, ?_, ?_, ?_⟩
            · rcases List.mem_append.1 hx' with hx' | hx'
              · rcases List.mem_or_eq_of_mem_set hx' with hx' | rfl
                · exact hallx x' hx'
                · simp; omega
              · exact hall x' (List.mem_append_right _ hx')
            · have hcl : cur.size = cap * z.length := e6
              refine .inr ⟨g, cap, _, by rw [e1]; simp, setRow_heap w g cur _ _ _ e3, by simpa using e4, e5, ?_, ?_, ?_⟩
              · simp [hvl, hcl]
                omega
              · simp only [e10, e11, List.append_assoc]
              · simp [hvl, e8]
                omega
            · rw [e8']
              have d1 := (hden.slice 0 (i * z.length + off)).append h3
              have d2 := hden.drop_ (i * z.length + off + yv.sz)
              simp only [List.drop_zero] at d1
              exact (d1.append d2).turn (hv' := hv) (live' := s.live) (fun i hl => ⟨hl, rfl⟩) h.pt hne
            · cases ex
              · exact hrest
              · simp only [if_true] at hrest ⊢
                exact hrest.turn (hv' := hv) (live' := s.live) (fun i hl => ⟨hl, rfl⟩) h.pt hne
      · cases he
    · cases he
  · cases he
end
/-! ### one step, of any kind -/
def stepC (P : Program) (o : Oper) (s : S) : Option (Prop × S) :=
  match newC P o s with
  | some r => some r
  | none => match pureC P o s with
    | some (p, x) => some (p, s.dst o.dst x)
    | none => match lookC P o s with
      | some (p, x) => some (p, s.dst o.dst x)
      | none => writeC P o s
def dstOk (N : Nat) (o : Oper) : Bool := match o.dst with | none => true | some d => decide (d < N ∧ d < 1000)
def Oper.V (P : Program) (N : Nat) (o : Oper) (s : S) (K : S → Prop) : Prop :=
  ∀ (Γ : Fr) (hv : Nat → Value) (F : Nat → Prop) (a : Act) (w : World), Γ.N = N → R Γ hv F s a w → ∀ Q, Oper.wp P o a w (fun a' w' => ∃ hv' F' s', K s' ∧ R Γ hv' F' s' a' w') Q
def Code.V (P : Program) (N : Nat) (c : Code) (s : S) (Q : Exit → S → Prop) : Prop :=
  ∀ (Γ : Fr) (hv : Nat → Value) (F : Nat → Prop) (a : Act) (w : World), Γ.N = N → R Γ hv F s a w → Code.wp P c (fun e a' w' => ∃ hv' F' s', Q e s' ∧ R Γ hv' F' s' a' w') a w
section
variable {P : Program} {N : Nat} {o : Oper} {s s' : S} {K K' : S → Prop}
theorem dstOk_spec (h : dstOk N o = true) : ∀ d, o.dst = some d → d < N ∧ d < 1000 := fun d hd => by
  unfold dstOk at h
  rw [hd] at h
  simpa using h
theorem Oper.V.mono (h : Oper.V P N o s K) (hk : ∀ s, K s → K' s) : Oper.V P N o s K' := fun Γ hv F a w hN hR Q =>
  Oper.wp_mono (fun _ _ ⟨hv', F', s', h1, h2⟩ => ⟨hv', F', s', hk _ h1, h2⟩) (h Γ hv F a w hN hR Q)
theorem V_put {x : SV} (hd : dstOk N o = true) (h : ∀ Γ hv F a w, Γ.N = N → R Γ hv F s a w → ∃ v, (execOp a.eval o).run P w = .ok (.value v) w ∧ x.HD hv s.live w (Γ.t F) (Γ.p F) v) (hK : K (s.dst o.dst x)) : Oper.V P N o s K := fun Γ hv F a w hN hR Q => by
  obtain ⟨v, h1, h2⟩ := h Γ hv F a w hN hR
  show Oper.upon P o a _ Q _
  rw [h1, Oper.upon_value]
  exact ⟨hv, F, _, hK, hR.put' (fun i hi => hN ▸ (dstOk_spec hd i hi).1) h2⟩
theorem write_call {c : Call} {p : Prop} (e : o.op = .call c) (hc : opConstOk o = true) (hdo : dstOk N o = true) {Γ : Fr} {hv : Nat → Value} {F : Nat → Prop} {a : Act} {w : World} (hN : Γ.N = N) (h : R Γ hv F s a w) (he : writeC P o s = some (p, s')) (hp : p) :
    ∃ v w' hv', (execOp a.eval o).run P w = .ok (.value v) w' ∧ R Γ hv' F s' (a.put o.dst v) w' := by
  obtain ⟨callee, args, argTypes⟩ := c
  obtain ⟨args⟩ := args
  obtain ⟨argTypes⟩ := argTypes
  have hev : ∀ y ∈ o.op.operands, (s.ev y).HD hv s.live w (Γ.t F) (Γ.p F) (a.eval y) := fun y hy => h.ev y (opConst hc hy)
  unfold writeC at he
  rw [e] at he
  simp only at he
  split at he
  · rename_i x y t t'
    have h1 := hev x (by simp [e, Op.operands, Call.operands])
    have h2 := hev y (by simp [e, Op.operands, Call.operands])
    split at he
    · rename_i id hx
      rw [hx] at h1
      split at he
      · rename_i e' z xs ys0 ex hob
        split at he
        · rename_i yv z' sz' ys d hy hz hsrc hd
          simp only [Option.some.injEq, Prod.mk.injEq] at he
          obtain ⟨rfl, rfl⟩ := he
          obtain ⟨rfl, p1, p2, p3, p4, p5, rfl, p6, p7⟩ := hp
          obtain ⟨v, w', hv', h3, h4⟩ := h.append_ok (P := P) (t := t) (ty := o.type) (d := d) (hN ▸ (dstOk_spec hdo d hd).1) hob hy h2 hsrc p1 p2 p3 p4 p5 hz p6 p7
          refine ⟨v, w', hv', ?_, by rw [hd]; exact h4⟩
          rw [← h1.2.1] at h3
          simp only [execOp, e, resolve, List.map_toArray, List.map_cons, List.map_nil, Sem.run_bind, Sem.run_pure, Result.andThen_ok, invoke, builtin, h3]
        · cases he
      · cases he
    · cases he
  · cases he
theorem step_V {p : Prop} (hc : opConstOk o = true) (hd : dstOk N o = true) (he : stepC P o s = some (p, s')) (hp : p) (hK : K s') : Oper.V P N o s K := by
  unfold stepC at he
  split at he
  · rename_i r hr
    cases he
    intro Γ hv F a w hN hR Q
    obtain ⟨v, w', hv', F', h1, h2⟩ := hR.new_ok hc (fun d h => hN ▸ dstOk_spec hd d h) hr hp
    show Oper.upon P o a _ Q _
    rw [h1, Oper.upon_value]
    exact ⟨hv', F', _, hK, h2⟩
  · split at he
    · rename_i p' x hx
      cases he
      exact V_put hd (fun Γ hv F a w hN hR => hR.pure_ok hc hx hp) hK
    · split at he
      · rename_i p' x hx
        cases he
        exact V_put hd (fun Γ hv F a w hN hR => hR.look_ok hc hx hp) hK
      · intro Γ hv F a w hN hR Q
        have he' := he
        unfold writeC at he'
        split at he'
        · rename_i t x y e
          obtain ⟨w', h1, h2⟩ := hR.store_ok e hc he hp
          show Oper.upon P o a _ Q _
          rw [h1, Oper.upon_skip]
          exact ⟨hv, F, _, hK, h2⟩
        · rename_i c e
          obtain ⟨v, w', hv', h1, h2⟩ := write_call e hc hd hN hR he hp
          show Oper.upon P o a _ Q _
          rw [h1, Oper.upon_value]
          exact ⟨hv', F, _, hK, h2⟩
        · cases he'
end

/-! ### code -/
def thenS (next : S → Prop) (Q : Exit → S → Prop) : Exit → S → Prop
  | .normal, s => next s
  | e, s => Q e s
def inBlockS (id : Nat) (Q : Exit → S → Prop) : Exit → S → Prop
  | .exit id', s => if id' = id then Q .normal s else Q (.exit id') s
  | e, s => Q e s
def guardS (ops : Array Oper) (g : Nat) (s : S) : Option Bool :=
  match (ops[g]?).bind (·.dst) with
  | some d => match s.sl d with
    | .val (.one (.v (.bool b))) => some b
    | _ => none
  | none => none
/-- The operations of a region, one behind the other. -/
def vl (P : Program) (N : Nat) (ops : Array Oper) (Q : S → Prop) : List Oper → S → Prop
  | [], s => Q s
  | o :: rest, s => match o.guard with
    | none => Oper.V P N o s (vl P N ops Q rest)
    | some (g, b) => ∃ t, guardS ops g s = some t ∧ (t = b → Oper.V P N o s (vl P N ops Q rest)) ∧ (t ≠ b → vl P N ops Q rest (s.dst o.dst .un))
section
variable {P : Program} {N : Nat} {s : S} {Q Q' : Exit → S → Prop}
theorem Code.V.mono {c : Code} (h : Code.V P N c s Q) (hq : ∀ e s, Q e s → Q' e s) : Code.V P N c s Q' := fun Γ hv F a w hN hR =>
  wp_mono (h Γ hv F a w hN hR) fun _ _ _ ⟨hv', F', s', h1, h2⟩ => ⟨hv', F', s', hq _ _ h1, h2⟩
theorem V_skip (h : Q .normal s) : Code.V P N .skip s Q := fun _ hv F _ _ _ hR => wp_skip ⟨hv, F, s, h, hR⟩
theorem V_exit {id : Nat} (h : Q (.exit id) s) : Code.V P N (.exit id) s Q := fun _ hv F _ _ _ hR => wp_exit ⟨hv, F, s, h, hR⟩
theorem V_ret (h : Q .ret s) : Code.V P N .ret s Q := fun _ hv F _ _ _ hR => wp_ret ⟨hv, F, s, h, hR⟩
theorem V_seq {x y : Code} (h : Code.V P N x s (thenS (fun s => Code.V P N y s Q) Q)) : Code.V P N (.seq x y) s Q := fun Γ hv F a w hN hR => by
  refine wp_seq (wp_mono (h Γ hv F a w hN hR) fun e a' w' ⟨hv', F', s', h1, h2⟩ => ?_)
  cases e with
  | normal => exact h1 Γ hv' F' a' w' hN h2
  | _ => exact ⟨hv', F', s', h1, h2⟩
/-- The join: what holds between the two. -/
theorem V_seq_cut {x y : Code} (M : S → Prop) (h : Code.V P N x s (thenS M Q)) (h2 : ∀ s, M s → Code.V P N y s Q) : Code.V P N (.seq x y) s Q :=
  V_seq (h.mono fun e s hs => by cases e <;> first | exact h2 _ hs | exact hs)
theorem V_cond {c : Operand} {x y : Code} {t : Bool} (hc : s.ev c = .val (.one (.v (.bool t)))) (hk : ∀ v, c = .const v → v.oneCell' = true) (ht : t = true → Code.V P N x s Q) (hf : t = false → Code.V P N y s Q) : Code.V P N (.cond c x y) s Q := fun Γ hv F a w hN hR => by
  have h1 := hR.ev c hk
  rw [hc] at h1
  have h2 := hd_bool h1
  exact wp_cond_split h2 (fun e => ht e Γ hv F a w hN hR) (fun e => hf e Γ hv F a w hN hR)
theorem V_block {id : Nat} {c : Code} (h : Code.V P N c s (inBlockS id Q)) : Code.V P N (.block id c) s Q := fun Γ hv F a w hN hR => by
  refine wp_block (wp_mono (h Γ hv F a w hN hR) fun e a' w' ⟨hv', F', s', h1, h2⟩ => ?_)
  cases e with
  | exit id' =>
    simp only [Exit.inBlock, inBlockS] at h1 ⊢
    split at h1
    · rename_i e; rw [if_pos e]; exact ⟨hv', F', s', h1, h2⟩
    · rename_i e; rw [if_neg e]; exact ⟨hv', F', s', h1, h2⟩
  | _ => exact ⟨hv', F', s', h1, h2⟩
theorem least {p : Nat → Prop} (h : ∃ n, p n) : ∃ n, p n ∧ ∀ m, p m → n ≤ m := by
  obtain ⟨n, hn⟩ := h
  induction n using Nat.strongRecOn with
  | _ n ih =>
    by_cases hx : ∃ m, m < n ∧ p m
    · obtain ⟨m, hm, hp⟩ := hx
      exact ih m hm hp
    · exact ⟨n, hn, fun m hm => Nat.le_of_not_lt fun hlt => hx ⟨m, hlt, hm⟩⟩
theorem V_loop {c : Code} (I : Nat → S → Prop) (n : Nat) (h0 : I n s) (h : ∀ n s, I n s → Code.V P N c s (thenS (fun s' => ∃ m, m < n ∧ I m s') Q)) : Code.V P N (.loop c) s Q := fun Γ hv F a w hN hR => by
  classical
  let J : Act → World → Nat → Prop := fun a w n => ∃ hv F s, I n s ∧ R Γ hv F s a w
  let μ : Act → World → Nat := fun a w => if h : ∃ n, J a w n then Classical.choose (least h) else 0
  refine wp_loop (fun a w => ∃ n, J a w n) μ ⟨n, hv, F, s, h0, hR⟩ fun a w hJ => ?_
  have hμ : μ a w = Classical.choose (least hJ) := by simp only [μ]; rw [dif_pos hJ]
  obtain ⟨hv1, F1, s1, h1, h2⟩ := (Classical.choose_spec (least hJ)).1
  refine wp_mono (h _ s1 h1 Γ hv1 F1 a w hN h2) fun e a' w' ⟨hv', F', s', h3, h4⟩ => ?_
  cases e with
  | normal =>
    obtain ⟨m, hm, hI⟩ := h3
    have hJ' : ∃ n, J a' w' n := ⟨m, hv', F', s', hI, h4⟩
    refine ⟨hJ', ?_⟩
    have hμ' : μ a' w' = Classical.choose (least hJ') := by simp only [μ]; rw [dif_pos hJ']
    rw [hμ, hμ']
    exact Nat.lt_of_le_of_lt ((Classical.choose_spec (least hJ')).2 _ ⟨hv', F', s', hI, h4⟩) hm
  | _ => exact ⟨hv', F', s', h3, h4⟩
theorem guardS_spec {ops : Array Oper} {g : Nat} {t : Bool} (h : guardS ops g s = some t) {Γ : Fr} {hv : Nat → Value} {F : Nat → Prop} {a : Act} {w : World} (hR : R Γ hv F s a w) : yielded ops a.tmps g = some t := by
  unfold guardS at h
  split at h
  · rename_i d hd
    split at h
    · rename_i b hb
      cases h
      have h1 := hR.slots d
      rw [hb] at h1
      have h2 := hd_bool h1
      have h3 : a.tmps[d]? = some (.bool t) := by
        rw [Array.getD_eq_getD_getElem?] at h2
        cases h4 : a.tmps[d]? with
        | none => rw [h4] at h2; cases h2
        | some v => rw [h4] at h2; simp only [Option.getD_some] at h2; rw [h2]
      simp [yielded, hd, h3]
    · cases h
  · cases h
theorem vl_sound {ops : Array Oper} {l : List Oper} (hl : ∀ o ∈ l, dstOk N o = true) : ∀ {s : S}, vl P N ops (Q .normal) l s → ∀ (Γ : Fr) (hv : Nat → Value) (F : Nat → Prop) (a : Act) (w : World), Γ.N = N → R Γ hv F s a w →
    wpList P ops (fun e a' w' => ∃ hv' F' s', Q e s' ∧ R Γ hv' F' s' a' w') l a w := by
  induction l with
  | nil => intro s h Γ hv F a w hN hR; exact ⟨hv, F, s, h, hR⟩
  | cons o rest ih =>
    intro s h Γ hv F a w hN hR
    have ih' := @ih (fun o ho => hl o (List.mem_cons_of_mem _ ho))
    have step : Oper.V P N o s (vl P N ops (Q .normal) rest) → o.wp P a w (wpList P ops (fun e a' w' => ∃ hv' F' s', Q e s' ∧ R Γ hv' F' s' a' w') rest) (fun e a' w' => ∃ hv' F' s', Q e s' ∧ R Γ hv' F' s' a' w') := fun hV =>
      Oper.wp_mono (fun a' w' ⟨hv', F', s', h1, h2⟩ => ih' h1 Γ hv' F' a' w' hN h2) (hV Γ hv F a w hN hR _)
    unfold vl at h
    unfold wpList
    split at h
    · rename_i hg
      rw [if_pos (by simp [Region.wanted, hg])]
      exact .inl (step h)
    · rename_i g b hg
      obtain ⟨t, h1, h2, h3⟩ := h
      have hy := guardS_spec h1 hR
      by_cases ht : t = b
      · rw [if_pos (by simp [Region.wanted, hg, hy, ht])]
        exact .inl (step (h2 ht))
      · rw [if_neg (by simp [Region.wanted, hg, hy, ht])]
        exact ih' (h3 ht) Γ hv F _ w hN (hR.put' (fun i hi => hN ▸ (dstOk_spec (hl o (by simp)) i hi).1) trivial)
theorem V_region {id : Nat} {ops : Array Oper} (hd : ∀ o ∈ ops.toList, dstOk N o = true) (h : vl P N ops (Q .normal) ops.toList s) : Code.V P N (.region id ops false) s Q := fun Γ hv F a w hN hR =>
  wp_region_list (vl_sound hd h Γ hv F a w hN hR)
end
/-! ### cells turned, in general -/
def C.lift (φ : C → C) : C → C
  | .fn f caps => .fn f (caps.map φ)
  | c => φ c
def V1.mapC (g : C → C) : V1 → V1
  | .one c => .one (g c)
  | .agg cs => .agg (cs.map g)
def SV.mapC (g : C → C) : SV → SV
  | .val x => .val (x.mapC g)
  | .tup l => .tup (l.map (V1.mapC g))
  | .un => .un
def Ob.mapC (g : C → C) : Ob → Ob
  | .row e z xs ys ex => .row e z (xs.map (List.map g)) (ys.map (List.map g)) ex
  | .box t cs => .box t (cs.map g)
  | .mp es => .mp es
section
variable {hv hv' : Nat → Value} {live live' : Nat → Prop} {w w' : World} {okT okP okT' okP' : Nat → Prop}
theorem C.HD.lift {φ : C → C} (hφ : ∀ c u, C.HD0 hv live w okT okP c u → C.HD0 hv' live' w' okT' okP' (φ c) u) (hnf : ∀ c, (∀ f caps, c ≠ C.fn f caps) → ∀ f caps, φ c ≠ C.fn f caps) {c : C} {u : Value} (h : C.HD hv live w okT okP c u) :
    C.HD hv' live' w' okT' okP' (c.lift φ) u := by
  by_cases hf : ∃ f caps, c = .fn f caps
  · obtain ⟨f, caps, rfl⟩ := hf
    obtain ⟨us, e, hl, hd⟩ := h
    refine ⟨us, e, by simpa using hl, fun j c u hc hu => ?_⟩
    rw [List.getElem?_map] at hc
    obtain ⟨c0, h0, rfl⟩ := Option.map_eq_some_iff.1 hc
    exact hφ _ _ (hd j c0 u h0 hu)
  · have hf' : ∀ f caps, c ≠ .fn f caps := fun f caps e => hf ⟨f, caps, e⟩
    have e : c.lift φ = φ c := by cases c <;> first | rfl | exact absurd rfl (hf' _ _)
    rw [e]
    exact C.HD.of0 (hnf c hf') (hφ _ _ (C.HD.to0 hf' h))
theorem HDs.mapC {g : C → C} (hg : ∀ c u, C.HD hv live w okT okP c u → C.HD hv' live' w' okT' okP' (g c) u) {cs : List C} {us : List Value} (h : HDs hv live w okT okP cs us) : HDs hv' live' w' okT' okP' (cs.map g) us := by
  refine ⟨by simpa using h.1, fun j c u hc hu => ?_⟩
  rw [List.getElem?_map] at hc
  obtain ⟨c0, h0, rfl⟩ := Option.map_eq_some_iff.1 hc
  exact hg _ _ (h.2 j c0 u h0 hu)
theorem V1.HD.mapC {g : C → C} (hg : ∀ c u, C.HD hv live w okT okP c u → C.HD hv' live' w' okT' okP' (g c) u) {x : V1} {u : Value} (h : x.HD hv live w okT okP u) : (x.mapC g).HD hv' live' w' okT' okP' u := by
  cases x with
  | one c => exact hg _ _ h
  | agg cs =>
    obtain ⟨us, e, h⟩ := h
    exact ⟨us, e, h.mapC hg⟩
theorem SV.HD.mapC {g : C → C} (hg : ∀ c u, C.HD hv live w okT okP c u → C.HD hv' live' w' okT' okP' (g c) u) {x : SV} {u : Value} (h : x.HD hv live w okT okP u) : (x.mapC g).HD hv' live' w' okT' okP' u := by
  cases x with
  | val x => exact V1.HD.mapC hg h
  | tup l =>
    obtain ⟨us, e, hl, h⟩ := h
    refine ⟨us, e, by simpa using hl, fun j x u hx hu => ?_⟩
    rw [List.getElem?_map] at hx
    obtain ⟨x0, h0, rfl⟩ := Option.map_eq_some_iff.1 hx
    exact V1.HD.mapC hg (h j x0 u h0 hu)
  | un => trivial
theorem Ob.HD.mapC {g : C → C} (hg : ∀ c u, C.HD hv live w okT okP c u → C.HD hv' live' w' okT' okP' (g c) u) {o : Ob} {i i' : Nat} (hi : hv' i' = hv i) (hb' : ∀ b, hb (hv i) = some b → w'.heap[b]? = w.heap[b]?)
    (h : o.HD hv live w okT okP i) : (o.mapC g).HD hv' live' w' okT' okP' i' := by
  have fl : ∀ l : List (List C), (l.map (List.map g)).flatten = l.flatten.map g := fun l => by simp [List.map_flatten]
  cases o with
  | row e z xs ys ex =>
    obtain ⟨h1, h2, h3, vals, rest, h4, h5, h6⟩ := h
    refine ⟨h1, ?_, fun e => by rw [h3 e]; rfl, vals, rest, ?_, ?_, ?_⟩
    · rw [← List.map_append]
      intro x hx
      obtain ⟨y, hy, rfl⟩ := List.mem_map.1 hx
      simpa using h2 y hy
    · rw [hi, List.length_map]
      exact h4.same hb'
    · rw [fl]; exact h5.mapC hg
    · cases ex
      · exact h6
      · simp only [if_true] at h6 ⊢
        rw [fl]; exact h6.mapC hg
  | box t cs =>
    obtain ⟨b, cur, h1, h2, h3⟩ := h
    exact ⟨b, cur, by rw [hi]; exact h1, by rw [hb' b (by rw [h1]; rfl)]; exact h2, h3.mapC hg⟩
  | mp es =>
    obtain ⟨b, ents, clock, h1, h2, h3⟩ := h
    exact ⟨b, ents, clock, by rw [hi]; exact h1, by rw [hb' b (by rw [h1]; rfl)]; exact h2, h3⟩
end
/-! ### lists of pairs of numbers -/
abbrev Ren := List (Nat × Nat)
def Ren.at (μ : Ren) (j : Nat) : Option Nat := (μ.find? fun p => p.1 == j).map (·.2)
def Ren.inv (μ : Ren) (i : Nat) : Option Nat := (μ.find? fun p => p.2 == i).map (·.1)
def Ren.ok (μ : Ren) : Bool := decide (μ.map (·.1)).Nodup && decide (μ.map (·.2)).Nodup
theorem Ren.at_mem {μ : Ren} {j i : Nat} (h : μ.at j = some i) : (j, i) ∈ μ := by
  obtain ⟨p, hp, rfl⟩ := Option.map_eq_some_iff.1 h
  have h1 := List.find?_some hp
  have h2 := List.mem_of_find?_eq_some hp
  simp only [beq_iff_eq] at h1
  subst h1
  exact h2
theorem Ren.inv_mem {μ : Ren} {j i : Nat} (h : μ.inv i = some j) : (j, i) ∈ μ := by
  obtain ⟨p, hp, rfl⟩ := Option.map_eq_some_iff.1 h
  have h1 := List.find?_some hp
  have h2 := List.mem_of_find?_eq_some hp
  simp only [beq_iff_eq] at h1
  subst h1
  exact h2
theorem nodup_map_inj {α β : Type} {f : α → β} : ∀ {l : List α}, (l.map f).Nodup → ∀ {a b : α}, a ∈ l → b ∈ l → f a = f b → a = b
  | [], _, _, _, h, _, _ => by cases h
  | x :: l, hn, a, b, ha, hb, e => by
    simp only [List.map_cons, List.nodup_cons] at hn
    rcases List.mem_cons.1 ha with e1 | ha <;> rcases List.mem_cons.1 hb with e2 | hb
    · rw [e1, e2]
    · exact absurd (List.mem_map.2 ⟨b, hb, by rw [← e, e1]⟩) hn.1
    · exact absurd (List.mem_map.2 ⟨a, ha, by rw [e, e2]⟩) hn.1
    · exact nodup_map_inj hn.2 ha hb e
theorem Ren.at_of {μ : Ren} (hk : μ.ok = true) {j i : Nat} (h : (j, i) ∈ μ) : μ.at j = some i := by
  simp only [Ren.ok, Bool.and_eq_true, decide_eq_true_eq] at hk
  cases hf : μ.find? fun p => p.1 == j with
  | none => exact absurd (List.find?_eq_none.1 hf (j, i) h) (by simp)
  | some p =>
    have h1 := List.find?_some hf
    simp only [beq_iff_eq] at h1
    have := nodup_map_inj hk.1 (List.mem_of_find?_eq_some hf) h h1
    simp [Ren.at, hf, this]
theorem Ren.inv_of {μ : Ren} (hk : μ.ok = true) {j i : Nat} (h : (j, i) ∈ μ) : μ.inv i = some j := by
  simp only [Ren.ok, Bool.and_eq_true, decide_eq_true_eq] at hk
  cases hf : μ.find? fun p => p.2 == i with
  | none => exact absurd (List.find?_eq_none.1 hf (j, i) h) (by simp)
  | some p =>
    have h1 := List.find?_some hf
    simp only [beq_iff_eq] at h1
    have := nodup_map_inj hk.2 (List.mem_of_find?_eq_some hf) h h1
    simp [Ren.inv, hf, this]

/-! ### handing over: what a caller lends, what it lets be read -/
def C.frz (s : S) (ln : Nat → Bool) : Nat → C → C
  | _, .v x => .v x
  | _, .sl t sz xs ys ex => .sl t sz xs ys ex
  | _, .fp t cs => .fp t cs
  | _, .un => .un
  | k + 1, .own id => if ln id then .un else match s.ob id with
    | some (.row _ z xs ys ex) => .sl true z.length (xs.map (List.map (C.frz s ln k))) (ys.map (List.map (C.frz s ln k))) ex
    | _ => .un
  | k + 1, .ptr id sz i off => if ln id then .un else match s.ob id with
    | some (.box _ cs) => if sz = 0 ∧ i = 0 then .fp true ((cs.map (C.frz s ln k)).drop off) else .un
    | some (.row _ z xs _ _) => if sz = z.length then (match xs[i]? with
      | some el => .fp true ((el.map (C.frz s ln k)).drop off)
      | none => .un) else .un
    | _ => .un
  | _, _ => .un
/-- A handle, on the way in: renamed, where the object is lent; else what it holds, to be read. -/
def C.out0 (s : S) (ρ : Ren) (k : Nat) : C → C
  | .own id => match ρ.at id with
    | some j => .own j
    | none => (C.own id).frz s (fun i => (ρ.at i).isSome) k
  | .ptr id sz i off => match ρ.at id with
    | some j => .ptr j sz i off
    | none => (C.ptr id sz i off).frz s (fun i => (ρ.at i).isSome) k
  | .mh id => match ρ.at id with
    | some j => .mh j
    | none => .un
  | c => c
/-- A handle, on the way back. -/
def C.ren0 (μ : Ren) : C → C
  | .own j => match μ.at j with
    | some i => .own i
    | none => .un
  | .ptr j sz k off => match μ.at j with
    | some i => .ptr i sz k off
    | none => .un
  | .mh j => match μ.at j with
    | some i => .mh i
    | none => .un
  | .sl true _ _ _ _ => .un
  | .fp true _ => .un
  | c => c
def C.drop0 (bad : Nat → Bool) : C → C
  | .own j => if bad j then .un else .own j
  | .ptr j sz k off => if bad j then .un else .ptr j sz k off
  | .mh j => if bad j then .un else .mh j
  | c => c
theorem out0_fn (s : S) (ρ : Ren) (k : Nat) (c : C) (h : ∀ f caps, c ≠ C.fn f caps) (f : FuncId) (caps : List C) : c.out0 s ρ k ≠ .fn f caps := by
  have hz : ∀ (s : S) (ln : Nat → Bool) (k : Nat) (c : C), c.frz s ln k ≠ .fn f caps := fun s ln k c => by
    cases k <;> cases c <;> simp only [C.frz] <;> (repeat' split) <;> simp
  unfold C.out0
  split <;> first | (split <;> first | (simp; done) | exact hz _ _ _ _) | exact h _ _
theorem ren0_fn (μ : Ren) (c : C) (h : ∀ f caps, c ≠ C.fn f caps) (f : FuncId) (caps : List C) : c.ren0 μ ≠ .fn f caps := by
  unfold C.ren0
  split <;> first | exact h _ _ | (split <;> simp; done) | (simp; done)
theorem drop0_fn (bad : Nat → Bool) (c : C) (h : ∀ f caps, c ≠ C.fn f caps) (f : FuncId) (caps : List C) : c.drop0 bad ≠ .fn f caps := by
  unfold C.drop0
  split <;> first | exact h _ _ | (split <;> simp; done)
section
variable {Γ : Fr} {hv : Nat → Value} {F : Nat → Prop} {s : S} {a : Act} {w : World}
/-- The blocks of what is lent. -/
def lentB (hv : Nat → Value) (s : S) (ρ : Ren) (b : Nat) : Prop := ∃ id o, (ρ.at id).isSome = true ∧ s.ob id = some o ∧ hb (hv id) = some b
theorem R.t_out (h : R Γ hv F s a w) {ρ : Ren} {b : Nat} (hb' : Γ.t F b) : b < w.heap.size ∧ ¬ lentB hv s ρ b := by
  refine ⟨h.t_lt hb', fun ⟨id, o, _, ho, hg⟩ => ?_⟩
  exact h.t_ne ho hb' hg rfl
theorem R.own_out (h : R Γ hv F s a w) {ρ : Ren} {b id : Nat} {o : Ob} (ho : s.ob id = some o) (hn : (ρ.at id).isSome = false) (hg : hb (hv id) = some b) : b < w.heap.size ∧ ¬ lentB hv s ρ b := by
  refine ⟨(h.blk id o b ho hg).2.1, fun ⟨id', o', hl, ho', hg'⟩ => ?_⟩
  have := h.disj id id' b ⟨o, ho⟩ ⟨o', ho'⟩ hg hg'
  subst this
  rw [hn] at hl; cases hl
theorem R.frz_den (h : R Γ hv F s a w) (ρ : Ren) : ∀ (k : Nat) {c : C} {u : Value}, C.HD hv s.live w (Γ.t F) (Γ.p F) c u → C.Den w (fun b => b < w.heap.size ∧ ¬ lentB hv s ρ b) (c.frz s (fun i => (ρ.at i).isSome) k) u := by
  intro k
  induction k with
  | zero =>
    intro c u hu
    cases c with
    | v x => exact hu
    | sl t sz xs ys ex => cases t <;> exact C.Den.mono (fun b hb' => h.t_out (by first | exact hb' | exact h.pt b hb')) (fun _ _ => rfl) _ _ hu
    | fp t cs => cases t <;> exact C.Den.mono (fun b hb' => h.t_out (by first | exact hb' | exact h.pt b hb')) (fun _ _ => rfl) _ _ hu
    | un => exact hu
    | _ => exact hu.one
  | succ k ih =>
    have ihs : ∀ {cs : List C} {us : List Value}, HDs hv s.live w (Γ.t F) (Γ.p F) cs us → Dens w (fun b => b < w.heap.size ∧ ¬ lentB hv s ρ b) (cs.map (C.frz s (fun i => (ρ.at i).isSome) k)) us := fun {cs us} hd => by
      refine dens_iff.2 ⟨by simpa using hd.1, fun j c u hc hu => ?_⟩
      rw [List.getElem?_map] at hc
      obtain ⟨c0, h0, rfl⟩ := Option.map_eq_some_iff.1 hc
      exact ih (hd.2 j c0 u h0 hu)
    intro c u hu
    cases c with
    | v x => exact hu
    | sl t sz xs ys ex => cases t <;> exact C.Den.mono (fun b hb' => h.t_out (by first | exact hb' | exact h.pt b hb')) (fun _ _ => rfl) _ _ hu
    | fp t cs => cases t <;> exact C.Den.mono (fun b hb' => h.t_out (by first | exact hb' | exact h.pt b hb')) (fun _ _ => rfl) _ _ hu
    | un => exact hu
    | mh => exact hu.one
    | fn => exact hu.one
    | own id =>
      have h1 := hu.one
      simp only [C.frz]
      split
      · exact h1
      · rename_i hn
        split
        · rename_i e z xs ys ex hob
          obtain ⟨_, rfl, _⟩ := hu
          exact row_den (h.obs id _ hob) (fun b hb' => h.own_out hob (by simpa using hn) hb') (fun cs us hd => ihs hd) true
        · exact h1
    | ptr id sz i off =>
      have h1 := hu.one
      simp only [C.frz]
      split
      · exact h1
      · rename_i hn
        split
        · rename_i t cs hob
          split
          · rename_i hz
            obtain ⟨rfl, rfl⟩ := hz
            obtain ⟨b, cur, e1, e2, e3⟩ := h.obs id _ hob
            obtain ⟨_, b', e4, rfl⟩ := hu
            rw [e1] at e4
            simp only [hb, Option.some.injEq] at e4
            subst e4
            simp only [C.Den]
            refine ⟨b, _, rfl, h.own_out hob (by simpa using hn) (by rw [e1]; rfl), ?_⟩
            have := Cells.mk (w := w) (b := b) (o := 0) (us := cur.toList) (fun j v hj => ?_) (ihs e3)
            · have := this.drop off
              simpa using this
            · simp only [World.cell?, e2, Nat.zero_add, Option.isSome_none, Bool.false_eq_true, if_false]
              rw [← Array.getElem?_toList]; exact hj
          · exact h1
        · rename_i e z xs ys ex hob
          split
          · rename_i hz
            subst hz
            split
            · rename_i el hel
              obtain ⟨_, b', e4, rfl⟩ := hu
              obtain ⟨g, cap, e1, us, h2, h3⟩ := h.load_row hob hel
              rw [e1] at e4
              simp only [hb, Option.some.injEq] at e4
              subst e4
              simp only [C.Den]
              refine ⟨g, _, rfl, h.own_out hob (by simpa using hn) (by rw [e1]; rfl), ?_⟩
              have := (Cells.mk (o := i * z.length) h2 (ihs h3)).drop off
              simpa using this
            · exact h1
          · exact h1
        · exact h1
end
/-! ### what a function is said to do -/
def argS (args : List V1) (ob0 : Nat → Option Ob) : S := ⟨fun t => match args[t]? with | some x => .val x | none => .un, ob0⟩
def outS (res : SV) (ob : Nat → Option Ob) : S := ⟨fun t => if t = 0 then res else .un, ob⟩
def Fr.one (Γ : Fr) : Fr := { Γ with N := 1 }
def Does (P : Program) (f : Nat) (args : List V1) (ob0 : Nat → Option Ob) (post : SV → (Nat → Option Ob) → Prop) : Prop :=
  ∀ (Γ : Fr) (hv : Nat → Value) (vs : Array Value) (w : World), Γ.w0 = w → vs.size = args.length → R Γ hv (fun _ => False) (argS args ob0) ⟨vs, []⟩ w →
    Calls P f vs w (fun e w' => ∃ v hv' F' res ob', e = .returned v ∧ post res ob' ∧ R Γ.one hv' F' (outS res ob') ⟨#[v], []⟩ w')
def resL (P : Program) (s : S) : List ResultVar → Option (List V1)
  | [] => some []
  | .tmp t :: rs => match s.sl t, resL P s rs with
    | .val x, some l => some (x :: l)
    | _, _ => none
  | .cell a t :: rs => match tyI P t, resL P s rs with
    | some y, some l => match s.loadC y.sz (s.sl a) with
      | some cs => match mk1 y.agg cs with
        | some (.val x) => some (x :: l)
        | _ => none
      | none => none
    | _, _ => none
def packS : List V1 → SV
  | [x] => .val x
  | l => .tup l
def Ren.ob (μ : Ren) (ob : Nat → Option Ob) (i : Nat) : Option Ob := match μ.inv i with
  | some j => (ob j).map (Ob.mapC (C.lift (C.ren0 μ)))
  | none => none
def resOne (tmps : Array Value) : ResultVar → Sem Value
  | .tmp t => pure (tmps.getD t undef)
  | .cell x t => do loadVar t (← asAddr (tmps.getD x undef))
theorem results_eq (fn : Func) (tmps : Array Value) : results fn tmps = (do let vs ← fn.results.mapM (resOne tmps); pure (if h : vs.size = 1 then vs[0] else .tuple vs) : Sem Value) := by
  unfold results
  congr 1
section
variable {P : Program} {Γ : Fr} {hv : Nat → Value} {F : Nat → Prop} {s : S} {a : Act} {w : World}
theorem resL_ok (h : R Γ hv F s a w) : ∀ {rs : List ResultVar} {l : List V1}, resL P s rs = some l → ∃ us : List Value, (rs.mapM (resOne a.tmps)).run P w = .ok us w ∧ us.length = l.length ∧ ∀ (j : Nat) x u, l[j]? = some x → us[j]? = some u → V1.HD hv s.live w (Γ.t F) (Γ.p F) x u := by
  intro rs
  induction rs with
  | nil => intro l hl; cases hl; exact ⟨[], by simp, rfl, fun j x u hx => by simp at hx⟩
  | cons r rs ih =>
    intro l hl
    have cons : ∀ {x : V1} {l' : List V1} {u : Value}, (resOne a.tmps r).run P w = .ok u w → V1.HD hv s.live w (Γ.t F) (Γ.p F) x u → resL P s rs = some l' → l = x :: l' → ∃ us : List Value, ((r :: rs).mapM (resOne a.tmps)).run P w = .ok us w ∧ us.length = l.length ∧ ∀ (j : Nat) x u, l[j]? = some x → us[j]? = some u → V1.HD hv s.live w (Γ.t F) (Γ.p F) x u := by
      intro x l' u h1 h2 h3 e
      subst e
      obtain ⟨us, h4, h5, h6⟩ := ih h3
      refine ⟨u :: us, ?_, by simp [h5], fun j y v hy hv => ?_⟩
      · simp only [List.mapM_cons, Sem.run_bind]
        rw [h1]
        simp only [Result.andThen_ok]
        rw [h4]
        rfl
      · cases j with
        | zero => simp at hy hv; subst hy hv; exact h2
        | succ j => simp at hy hv; exact h6 j y v hy hv
    cases r with
    | tmp t =>
      simp only [resL] at hl
      split at hl
      · rename_i x l' hx hl'
        cases hl
        have h1 := h.slots t
        rw [hx] at h1
        exact cons (by rfl) h1 hl' rfl
      · cases hl
    | cell c t =>
      simp only [resL] at hl
      split at hl
      · rename_i y l' hy hl'
        split at hl
        · rename_i cs hcs
          split at hl
          · rename_i x hm
            cases hl
            obtain ⟨v, h1, h2⟩ := h.loadC_ok (P := P) hy (h.slots c) hcs hm
            refine cons (x := x) (u := v) ?_ h2 hl' rfl
            have h3 := h.slots c
            have hp : ∃ ad, a.tmps.getD c undef = .pointer (some ad) := by
              unfold S.loadC at hcs
              split at hcs
              · rename_i tg cs0 e
                rw [e] at h3
                obtain ⟨b, o, hu, _⟩ := h.load_fp h3
                exact ⟨_, hu⟩
              · rename_i id sz i off e
                rw [e] at h3
                obtain ⟨_, b, _, hu⟩ := h3
                exact ⟨_, hu⟩
              · cases hcs
            obtain ⟨ad, hp⟩ := hp
            rw [hp] at h1
            simpa [Instr.loadAt, Instr.sureAddr, asAddr, resOne, hp] using h1
          · cases hl
        · cases hl
      · cases hl
theorem R.ren (h : R Γ hv F s a w) {res : SV} {v : Value} (hres : res.HD hv s.live w (Γ.t F) (Γ.p F) v) {μ : Ren} (hk : μ.ok = true) (hm : ∀ p ∈ μ, p.1 = p.2 ∨ p.2 < 1000) :
    ∃ hv', R Γ.one hv' F (outS (res.mapC (C.lift (C.ren0 μ))) (μ.ob s.ob)) ⟨#[v], []⟩ w := by
  let hv' : Nat → Value := fun i => match μ.inv i with | some j => hv j | none => hv i
  have hlv : ∀ j i, μ.at j = some i → s.live j → (outS (res.mapC (C.lift (C.ren0 μ))) (μ.ob s.ob)).live i ∧ hv' i = hv j := fun j i e ⟨o, ho⟩ => by
    have := Ren.inv_of hk (Ren.at_mem e)
    refine ⟨⟨o.mapC (C.lift (C.ren0 μ)), ?_⟩, by simp [hv', this]⟩
    simp [outS, Ren.ob, this, ho]
  have hφ : ∀ c u, C.HD0 hv s.live w (Γ.t F) (Γ.p F) c u → C.HD0 hv' (outS (res.mapC (C.lift (C.ren0 μ))) (μ.ob s.ob)).live w (Γ.t F) (Γ.p F) (c.ren0 μ) u := fun c u hu => by
    have h1 := hu.one
    cases c with
    | own j =>
      simp only [C.ren0]
      split
      · rename_i i e
        obtain ⟨hl, rfl, _⟩ := hu
        exact ⟨(hlv j i e hl).1, (hlv j i e hl).2.symm, h1⟩
      · exact h1
    | mh j =>
      simp only [C.ren0]
      split
      · rename_i i e
        obtain ⟨hl, rfl, _⟩ := hu
        exact ⟨(hlv j i e hl).1, (hlv j i e hl).2.symm, h1⟩
      · exact h1
    | ptr j sz k off =>
      simp only [C.ren0]
      split
      · rename_i i e
        obtain ⟨hl, b, hb1, rfl⟩ := hu
        exact ⟨(hlv j i e hl).1, b, by rw [(hlv j i e hl).2]; exact hb1, rfl⟩
      · exact h1
    | sl t => cases t <;> first | exact hu | exact h1
    | fp t => cases t <;> first | exact hu | exact h1
    | _ => exact hu
  have hg : ∀ c u, C.HD hv s.live w (Γ.t F) (Γ.p F) c u → C.HD hv' (outS (res.mapC (C.lift (C.ren0 μ))) (μ.ob s.ob)).live w (Γ.t F) (Γ.p F) (c.lift (C.ren0 μ)) u := fun c u hu => hu.lift hφ (fun c => ren0_fn μ c)
  have hob : ∀ i o, μ.ob s.ob i = some o → ∃ j o0, (j, i) ∈ μ ∧ s.ob j = some o0 ∧ o = o0.mapC (C.lift (C.ren0 μ)) ∧ hv' i = hv j := fun i o ho => by
    unfold Ren.ob at ho
    split at ho
    · rename_i j e
      obtain ⟨o0, h0, rfl⟩ := Option.map_eq_some_iff.1 ho
      exact ⟨j, o0, Ren.inv_mem e, h0, rfl, by simp [hv', e]⟩
    · cases ho
  refine ⟨hv', h.away, h.lo, h.po, h.fz, rfl, rfl, fun t => ?_, fun i o ho => ?_, fun i o b ho hb' => ?_, fun i i' b hl hl' hb1 hb2 => ?_, fun i v hk' hl => ?_, h.pins⟩
  · cases t with
    | zero => exact SV.HD.mapC hg hres
    | succ t => trivial
  · obtain ⟨j, o0, hmem, h0, rfl, e⟩ := hob i o ho
    exact Ob.HD.mapC hg (i := j) e (fun _ _ => rfl) (h.obs j o0 h0)
  · obtain ⟨j, o0, hmem, h0, rfl, e⟩ := hob i o ho
    rw [e] at hb'
    exact h.blk j o0 b h0 hb'
  · obtain ⟨o, ho⟩ := hl
    obtain ⟨o', ho'⟩ := hl'
    obtain ⟨j, o0, hmem, h0, rfl, e⟩ := hob i o ho
    obtain ⟨j', o0', hmem', h0', rfl, e'⟩ := hob i' o' ho'
    rw [e] at hb1
    rw [e'] at hb2
    have := h.disj j j' b ⟨_, h0⟩ ⟨_, h0'⟩ hb1 hb2
    subst this
    have h1 := Ren.at_of hk hmem
    have h2 := Ren.at_of hk hmem'
    rw [h1] at h2
    exact Option.some.inj h2
  · obtain ⟨o, ho⟩ := hl
    obtain ⟨j, o0, hmem, h0, rfl, e⟩ := hob i o ho
    rcases hm _ hmem with e1 | e1
    · simp only at e1
      subst e1
      rw [e]
      exact h.pin j v hk' ⟨_, h0⟩
    · have := (h.pins i v hk').1
      simp only at e1
      omega
/-- A function, by its code. -/
theorem does_of {f : Nat} {fn : Func} {c : Code} {args : List V1} {ob0 : Nat → Option Ob} {post : SV → (Nat → Option Ob) → Prop} (hf : P.funcs[f]? = some fn) (hb : fn.body = some c) (hn : args.length ≤ fn.ntmps)
    (h : Code.V P fn.ntmps c (argS args ob0) (fun e s => (e = .normal ∨ e = .ret) ∧ ∃ l μ, resL P s fn.results.toList = some l ∧ Ren.ok μ = true ∧ (∀ p ∈ μ, p.1 = p.2 ∨ p.2 < 1000) ∧ post ((packS l).mapC (C.lift (C.ren0 μ))) (μ.ob s.ob))) : Does P f args ob0 post := by
  intro Γ hv vs w hw hvs hR
  refine calls_of_wp hf hb ?_
  have hR1 : R { Γ with N := fn.ntmps } hv (fun _ => False) (argS args ob0) { tmps := vs ++ Array.replicate (fn.ntmps - vs.size) undef, defers := [] } w := by
    refine ⟨hR.away, hR.lo, hR.po, hR.fz, rfl, by simp; omega, fun t => ?_, hR.obs, hR.blk, hR.disj, hR.pin, hR.pins⟩
    have h1 := hR.slots t
    by_cases ht : t < vs.size
    · have : (vs ++ Array.replicate (fn.ntmps - vs.size) undef).getD t undef = vs.getD t undef := by
        simp only [Array.getD_eq_getD_getElem?]
        rw [Array.getElem?_append_left ht]
      show SV.HD _ _ _ _ _ _ ((vs ++ Array.replicate (fn.ntmps - vs.size) undef).getD t undef)
      rw [this]
      exact h1
    · have : (argS args ob0).sl t = .un := by
        simp only [argS]
        rw [List.getElem?_eq_none (by omega)]
      rw [this]
      trivial
  refine wp_mono (h { Γ with N := fn.ntmps } hv _ _ w rfl hR1) fun e a' w' ⟨hv', F', s', ⟨he, l, μ, hl, hk, hm, hp⟩, hR'⟩ => ?_
  obtain ⟨us, h1, h2, h3⟩ := resL_ok (P := P) hR' hl
  have hrun : (results fn a'.tmps).run P w' = .ok (if h : us.length = 1 then us[0] else .tuple us.toArray) w' := by
    rw [results_eq, Array.mapM_eq_mapM_toList]
    simp only [Sem.run_bind, map_eq_pure_bind]
    rw [h1]
    simp only [Result.andThen_ok, Sem.run_pure, List.size_toArray]
    rfl
  have hHD : (packS l).HD hv' s'.live w' (Γ.t F') (Γ.p F') (if h : us.length = 1 then us[0] else .tuple us.toArray) := by
    match l, us, h2, h3 with
    | [x], [u], _, h3 => exact h3 0 x u rfl rfl
    | [], [], _, h3 => exact ⟨[], rfl, rfl, fun j x u hx => by simp at hx⟩
    | x :: y :: l, u :: v :: us, h2, h3 =>
      rw [dif_neg (by simp)]
      exact ⟨u :: v :: us, rfl, h2, h3⟩
  obtain ⟨hv2, hR2⟩ := hR'.ren hHD hk hm
  have hpost : a'.defers = [] ∧ ∃ v, (results fn a'.tmps).run P w' = .ok v w' ∧ ∃ v' hv'' F'' res ob'', Ending.returned v = .returned v' ∧ post res ob'' ∧ R Γ.one hv'' F'' (outS res ob'') ⟨#[v'], []⟩ w' :=
    ⟨hR'.defers, _, hrun, _, hv2, F', _, _, rfl, hp, hR2⟩
  rcases he with rfl | rfl <;> exact hpost
end
/-! ### calls -/
def outOb (s : S) (ρ : Ren) (k : Nat) (j : Nat) : Option Ob := match ρ.inv j with
  | some id => (s.ob id).map (Ob.mapC (C.lift (C.out0 s ρ k)))
  | none => none
def isRow : Option Ob → Bool
  | some (.row ..) => true
  | _ => false
def enterFr (Γ : Fr) (F : Nat → Prop) (hv : Nat → Value) (s : S) (ρ : Ren) (w : World) (n : Nat) : Fr where
  w0 := w
  L := lentB hv s ρ
  Po := Γ.p F
  K := fun j => match ρ.inv j with
    | some id => match s.ob id with
      | some (.row ..) => if 2000 ≤ j then some (hv id) else none
      | some _ => some (hv id)
      | none => none
    | none => none
  N := n
def enterHv (hv : Nat → Value) (ρ : Ren) (j : Nat) : Value := match ρ.inv j with
  | some id => hv id
  | none => undef
section
variable {P : Program} {Γ : Fr} {hv : Nat → Value} {F : Nat → Prop} {s : S} {a : Act} {w : World}
theorem frz_own (s : S) (ln : Nat → Bool) (k id : Nat) : (C.own id).frz s ln k = .un ∨ ∃ sz xs ys ex, (C.own id).frz s ln k = .sl true sz xs ys ex := by
  cases k with
  | zero => exact .inl rfl
  | succ k =>
    simp only [C.frz]
    split
    · exact .inl rfl
    · split
      · exact .inr ⟨_, _, _, _, rfl⟩
      · exact .inl rfl
theorem frz_ptr (s : S) (ln : Nat → Bool) (k id sz i off : Nat) : (C.ptr id sz i off).frz s ln k = .un ∨ ∃ cs, (C.ptr id sz i off).frz s ln k = .fp true cs := by
  cases k with
  | zero => exact .inl rfl
  | succ k =>
    simp only [C.frz]
    repeat' split
    all_goals first | exact .inl rfl | exact .inr ⟨_, rfl⟩
theorem R.out_hd0 (h : R Γ hv F s a w) {ρ : Ren} (hρ : ρ.ok = true) (k n : Nat) {live : Nat → Prop} (hlive : ∀ id j, ρ.at id = some j → s.live id → live j) {c : C} {u : Value} (hu : C.HD0 hv s.live w (Γ.t F) (Γ.p F) c u) :
    C.HD0 (enterHv hv ρ) live w ((enterFr Γ F hv s ρ w n).t (fun _ => False)) ((enterFr Γ F hv s ρ w n).p (fun _ => False)) (c.out0 s ρ k) u := by
  have h1 := hu.one
  have hat : ∀ id j, ρ.at id = some j → enterHv hv ρ j = hv id := fun id j e => by
    simp [enterHv, Ren.inv_of hρ (Ren.at_mem e)]
  have hT : ∀ {c : C}, C.Den w (fun b => b < w.heap.size ∧ ¬ lentB hv s ρ b) c u → C.Den w ((enterFr Γ F hv s ρ w n).t (fun _ => False)) c u := fun hd => C.Den.mono (fun b hb' => .inl hb') (fun _ _ => rfl) _ _ hd
  have hfz := h.frz_den ρ k (c := c) (u := u)
  cases c with
  | own id =>
    simp only [C.out0]
    split
    · rename_i j e
      exact ⟨hlive id j e hu.1, by rw [hat id j e]; exact hu.2.1, h1⟩
    · have h2 := hfz hu
      rcases frz_own s (fun i => (ρ.at i).isSome) k id with e | ⟨sz, xs, ys, ex, e⟩
      · rw [e]; exact h1
      · rw [e] at h2 ⊢; exact hT h2
  | ptr id sz i off =>
    simp only [C.out0]
    split
    · rename_i j e
      obtain ⟨hl, b, hb1, hu'⟩ := hu
      exact ⟨hlive id j e hl, b, by rw [hat id j e]; exact hb1, hu'⟩
    · have h2 := hfz hu
      rcases frz_ptr s (fun i => (ρ.at i).isSome) k id sz i off with e | ⟨cs, e⟩
      · rw [e]; exact h1
      · rw [e] at h2 ⊢; exact hT h2
  | mh id =>
    simp only [C.out0]
    split
    · rename_i j e
      exact ⟨hlive id j e hu.1, by rw [hat id j e]; exact hu.2.1, h1⟩
    · exact h1
  | sl t sz xs ys ex =>
    cases t
    · exact C.Den.mono (fun b hb' => .inl hb') (fun _ _ => rfl) _ _ hu
    · exact C.Den.mono (fun b hb' => .inl (h.t_out hb')) (fun _ _ => rfl) _ _ hu
  | fp t cs =>
    cases t
    · exact C.Den.mono (fun b hb' => .inl hb') (fun _ _ => rfl) _ _ hu
    · exact C.Den.mono (fun b hb' => .inl (h.t_out hb')) (fun _ _ => rfl) _ _ hu
  | fn f caps => exact C.Den.mono (fun b hb' => .inl hb') (fun _ _ => rfl) _ _ hu
  | v x => exact hu
  | un => exact hu
theorem R.enter (h : R Γ hv F s a w) {ρ : Ren} (hρ : ρ.ok = true) (h1000 : ∀ p ∈ ρ, 1000 ≤ p.2) (k : Nat) {args : List V1} {vs : Array Value} (hvs : vs.size = args.length)
    (hargs : ∀ (t : Nat) x v, args[t]? = some x → vs[t]? = some v → x.HD (enterHv hv ρ) (fun j => ∃ o, outOb s ρ k j = some o) w ((enterFr Γ F hv s ρ w vs.size).t (fun _ => False)) ((enterFr Γ F hv s ρ w vs.size).p (fun _ => False)) v) :
    R (enterFr Γ F hv s ρ w vs.size) (enterHv hv ρ) (fun _ => False) (argS args (outOb s ρ k)) ⟨vs, []⟩ w := by
  have hob : ∀ j o, outOb s ρ k j = some o → ∃ id o0, (id, j) ∈ ρ ∧ s.ob id = some o0 ∧ o = o0.mapC (C.lift (C.out0 s ρ k)) ∧ enterHv hv ρ j = hv id := fun j o ho => by
    unfold outOb at ho
    split at ho
    · rename_i id e
      obtain ⟨o0, h0, rfl⟩ := Option.map_eq_some_iff.1 ho
      exact ⟨id, o0, Ren.inv_mem e, h0, rfl, by simp [enterHv, e]⟩
    · cases ho
  have hlive : ∀ id j, ρ.at id = some j → s.live id → ∃ o, outOb s ρ k j = some o := fun id j e ⟨o, ho⟩ => ⟨o.mapC (C.lift (C.out0 s ρ k)), by simp [outOb, Ren.inv_of hρ (Ren.at_mem e), ho]⟩
  refine ⟨Away.refl _ _, fun b ⟨id, o, _, ho, hg⟩ => (h.blk id o b ho hg).2.1, fun b hb' => h.t_out (h.pt b hb'), fun b hb' => hb'.elim, rfl, rfl, fun t => ?_, fun j o ho => ?_, fun j o b ho hb' => ?_, fun j j' b ⟨o, ho⟩ ⟨o', ho'⟩ hb1 hb2 => ?_, fun j v hk _ => ?_, fun j v hk => ?_⟩
  · simp only [argS]
    cases ht : args[t]? with
    | none => trivial
    | some x =>
      have hlt : t < vs.size := by rw [hvs]; exact (List.getElem?_eq_some_iff.1 ht).1
      have e1 : vs.getD t undef = vs[t] := by simp [Array.getD, hlt]
      rw [e1]
      exact hargs t x vs[t] ht (Array.getElem?_eq_getElem hlt)
  · obtain ⟨id, o0, hmem, h0, rfl, e⟩ := hob j o ho
    exact Ob.HD.mapC (fun c u hu => C.HD.lift (fun c u hu => h.out_hd0 hρ k vs.size hlive hu) (fun c => out0_fn s ρ k c) hu) (i := id) e (fun _ _ => rfl) (h.obs id o0 h0)
  · obtain ⟨id, o0, hmem, h0, rfl, e⟩ := hob j o ho
    rw [e] at hb'
    exact ⟨.inr ⟨id, o0, by rw [Ren.at_of hρ hmem]; rfl, h0, hb'⟩, (h.blk id o0 b h0 hb').2.1, fun x => x⟩
  · obtain ⟨id, o0, hmem, h0, rfl, e⟩ := hob j o ho
    obtain ⟨id', o0', hmem', h0', rfl, e'⟩ := hob j' o' ho'
    rw [e] at hb1
    rw [e'] at hb2
    have := h.disj id id' b ⟨_, h0⟩ ⟨_, h0'⟩ hb1 hb2
    subst this
    have h1 := Ren.at_of hρ hmem
    rw [Ren.at_of hρ hmem'] at h1
    exact (Option.some.inj h1).symm
  · simp only [enterFr] at hk
    simp only [enterHv]
    cases e : ρ.inv j with
    | none => rw [e] at hk; cases hk
    | some id =>
      rw [e] at hk
      simp only at hk ⊢
      split at hk
      · split at hk
        · rw [Option.some.inj hk]; exact pinOk_refl _
        · cases hk
      · rw [Option.some.inj hk]; exact pinOk_refl _
      · cases hk
  · simp only [enterFr] at hk
    cases e : ρ.inv j with
    | none => rw [e] at hk; cases hk
    | some id =>
      rw [e] at hk
      refine ⟨h1000 _ (Ren.inv_mem e), fun A n c ev => ?_⟩
      subst ev
      simp only at hk
      split at hk
      · split at hk
        · assumption
        · cases hk
      · rename_i o hno ho
        have h2 := h.obs id _ ho
        have h3 := Option.some.inj hk
        cases o with
        | row => exact (hno _ _ _ _ _ rfl).elim
        | box => obtain ⟨b, cur, e1, _⟩ := h2; rw [h3] at e1; cases e1
        | mp => obtain ⟨b, cur, _, e1, _⟩ := h2; rw [h3] at e1; cases e1
      · cases hk

/-! ### back from a call -/
def keepB (s : S) (ρ μ : Ren) (i : Nat) : Bool := match ρ.at i, s.ob i with
  | some j, some (.row ..) => decide (2000 ≤ j) && (μ.at j == some i)
  | some j, some _ => μ.at j == some i
  | _, _ => false
def badB (s : S) (ρ μ : Ren) (i : Nat) : Bool := ((ρ.at i).isSome || (μ.inv i).isSome) && !keepB s ρ μ i
def S.back (s : S) (ρ μ : Ren) (ob' : Nat → Option Ob) : S where
  sl := fun t => (s.sl t).mapC (C.lift (C.drop0 (badB s ρ μ)))
  ob := fun i => match μ.inv i with
    | some j => (ob' j).map (Ob.mapC (C.lift (C.ren0 μ)))
    | none => if (ρ.at i).isSome then none else (s.ob i).map (Ob.mapC (C.lift (C.drop0 (badB s ρ μ))))
def impOk (s : S) (ρ μ : Ren) : Prop := ∀ p ∈ μ, p.2 < 1000 ∨ (isRow (s.ob p.2) = true ∧ p.2 < 2000) ∨ keepB s ρ μ p.2 = true
/-- What is kept came back as it must. -/
def keptOk : Option Ob → Option Ob → Prop
  | some (.row _ _ xs _ _), some (.row _ _ xs' _ _) => xs'.length = xs.length
  | some (.row ..), _ => False
  | _, some _ => True
  | _, none => False
theorem keepB_spec {s : S} {ρ μ : Ren} {i : Nat} (h : keepB s ρ μ i = true) : ∃ j o, ρ.at i = some j ∧ s.ob i = some o ∧ (isRow (some o) = true → 2000 ≤ j) ∧ μ.at j = some i := by
  unfold keepB at h
  split at h
  · rename_i j e z xs ys ex h1 h2
    simp only [Bool.and_eq_true, decide_eq_true_eq, beq_iff_eq] at h
    exact ⟨j, _, h1, h2, fun _ => h.1, h.2⟩
  · rename_i j o hno h1 h2
    refine ⟨j, o, h1, h2, ?_, by simpa using h⟩
    cases o with
    | row => exact (hno _ _ _ _ _ rfl).elim
    | _ => intro e; cases e
  · cases h
theorem R.back (h : R Γ hv F s a w) {ρ μ : Ren} (hρ : ρ.ok = true) (hμ : μ.ok = true) (hi : impOk s ρ μ) {n : Nat} {hv2 : Nat → Value} {F2 : Nat → Prop} {res : SV} {ob' : Nat → Option Ob} {v : Value} {w2 : World}
    (h2 : R (enterFr Γ F hv s ρ w n).one hv2 F2 (outS res ob') ⟨#[v], []⟩ w2) (hl : ∀ p ∈ ρ, keepB s ρ μ p.1 = true → keptOk (s.ob p.1) (ob' p.2)) :
    ∃ hv3 F3, R Γ hv3 F3 (s.back ρ μ ob') a w2 ∧ (res.mapC (C.lift (C.ren0 μ))).HD hv3 (s.back ρ μ ob').live w2 (Γ.t F3) (Γ.p F3) v := by
  let hv3 : Nat → Value := fun i => match μ.inv i with | some j => hv2 j | none => hv i
  let F3 : Nat → Prop := fun b => F b ∨ F2 b
  have haw : Away (lentB hv s ρ) w w2 := h2.away
  have hsz : w.heap.size ≤ w2.heap.size := haw.size
  have hlm : ∀ b, lentB hv s ρ b → Γ.mine b ∧ b < w.heap.size ∧ ¬ F b := fun b ⟨id, o, _, ho, hg⟩ => h.blk id o b ho hg
  have hmc : ∀ b, (enterFr Γ F hv s ρ w n).one.mine b → Γ.mine b := fun b hb' => hb'.elim (fun x => h.new_mine x) (fun x => (hlm b x).1)
  have hF2 : ∀ b, F2 b → Γ.mine b ∧ b < w2.heap.size := fun b hb' => ⟨hmc b (h2.fz b hb').1, (h2.fz b hb').2⟩
  -- what the caller saw stays as it was
  have hsame : ∀ b, b < w.heap.size → ¬ lentB hv s ρ b → w2.heap[b]? = w.heap[b]? := fun b h1 h3 => haw.block b h1 h3
  have hsameT : ∀ b, Γ.t F b → w2.heap[b]? = w.heap[b]? := fun b hb' => hsame b (h.t_out (ρ := ρ) hb').1 (h.t_out hb').2
  have inv_at : ∀ {j i}, μ.inv i = some j → μ.at j = some i := fun e => Ren.at_of hμ (Ren.inv_mem e)
  -- handles that stay
  have hstay : ∀ i, badB s ρ μ i = false → s.live i → (s.back ρ μ ob').live i ∧ hv3 i = hv i := fun i hb' hlv => by
    simp only [badB, Bool.and_eq_false_imp, Bool.or_eq_true, Bool.not_eq_false'] at hb'
    by_cases hk : keepB s ρ μ i = true
    · obtain ⟨j, o, e1, e2, e3, e4⟩ := keepB_spec hk
      have e5 := Ren.inv_of hμ (Ren.at_mem e4)
      have hkept := hl (i, j) (Ren.at_mem e1) hk
      simp only [e2] at hkept
      obtain ⟨o', ho'⟩ : ∃ o', ob' j = some o' := by
        cases h3 : ob' j with
        | some o' => exact ⟨o', rfl⟩
        | none => rw [h3] at hkept; cases o <;> simp [keptOk] at hkept
      rw [ho'] at hkept
      refine ⟨⟨o'.mapC (C.lift (C.ren0 μ)), by simp only [S.back, e5]; rw [ho']; rfl⟩, ?_⟩
      simp only [hv3, e5]
      have e6 := Ren.inv_of hρ (Ren.at_mem e1)
      have hp := h2.pin j (hv i) (by
        simp only [Fr.one, enterFr, e6, e2]
        cases o with
        | row => exact if_pos (e3 rfl)
        | _ => rfl) ⟨o', ho'⟩
      have hoi := h.obs i _ e2
      cases o with
      | row e z xs ys ex =>
        obtain ⟨A, c, x1, _⟩ := h.row_slice e2
        rw [x1] at hp
        obtain ⟨n', x2⟩ := hp
        cases o' with
        | row e' z' xs' ys' ex' =>
          obtain ⟨A', c', x3, _⟩ := h2.row_slice (id := j) (e := e') (z := z') (xs := xs') (ys := ys') (ex := ex') ho'
          rw [x2] at x3
          cases x3
          simp only [keptOk] at hkept
          rw [x2, x1, hkept]
        | _ => simp [keptOk] at hkept
      | box t cs =>
        obtain ⟨b, cur, x1, _⟩ := hoi
        rw [x1] at hp ⊢
        exact hp
      | mp es =>
        obtain ⟨b, ents, clock, x1, _⟩ := hoi
        rw [x1] at hp ⊢
        exact hp
    · have hn := fun hx => hk (hb' hx)
      have n1 : (ρ.at i).isSome = false := by
        cases e : (ρ.at i).isSome with
        | false => rfl
        | true => exact (hn (.inl e)).elim
      have n2 : μ.inv i = none := by
        cases e : μ.inv i with
        | none => rfl
        | some j => exact (hn (.inr (by rw [e]; rfl))).elim
      obtain ⟨o, ho⟩ := hlv
      refine ⟨⟨o.mapC (C.lift (C.drop0 (badB s ρ μ))), by simp [S.back, n2, n1, ho]⟩, by simp [hv3, n2]⟩
  have tmono : ∀ b, Γ.t F b → Γ.t F3 b := fun b hb' => hb'.imp (fun x => x) .inl
  have pmono : ∀ b, Γ.p F b → Γ.p F3 b := fun b hb' => hb'.imp (fun x => x) .inl
  have hdrop0 : ∀ c u, C.HD0 hv s.live w (Γ.t F) (Γ.p F) c u → C.HD0 hv3 (s.back ρ μ ob').live w2 (Γ.t F3) (Γ.p F3) (c.drop0 (badB s ρ μ)) u := fun c u hu => by
    have h1 := hu.one
    have hDT : ∀ {c : C}, C.Den w (Γ.t F) c u → C.Den w2 (Γ.t F3) c u := fun hd => C.Den.mono tmono hsameT _ _ hd
    have hDP : ∀ {c : C}, C.Den w (Γ.p F) c u → C.Den w2 (Γ.p F3) c u := fun hd => C.Den.mono pmono (fun b hb' => hsameT b (h.pt b hb')) _ _ hd
    cases c with
    | own i =>
      simp only [C.drop0]
      split
      · exact h1
      · rename_i hb'
        have := hstay i (by simpa using hb') hu.1
        exact ⟨this.1, by rw [this.2]; exact hu.2.1, h1⟩
    | mh i =>
      simp only [C.drop0]
      split
      · exact h1
      · rename_i hb'
        have := hstay i (by simpa using hb') hu.1
        exact ⟨this.1, by rw [this.2]; exact hu.2.1, h1⟩
    | ptr i sz k off =>
      simp only [C.drop0]
      split
      · exact h1
      · rename_i hb'
        obtain ⟨hlv, b, hb1, hu'⟩ := hu
        have := hstay i (by simpa using hb') hlv
        exact ⟨this.1, b, by rw [this.2]; exact hb1, hu'⟩
    | sl t => cases t <;> first | exact hDP hu | exact hDT hu
    | fp t => cases t <;> first | exact hDP hu | exact hDT hu
    | fn => exact hDP hu
    | v => exact hu
    | un => exact hu
  have hdrop : ∀ c u, C.HD hv s.live w (Γ.t F) (Γ.p F) c u → C.HD hv3 (s.back ρ μ ob').live w2 (Γ.t F3) (Γ.p F3) (c.lift (C.drop0 (badB s ρ μ))) u := fun c u hu => hu.lift hdrop0 (fun c => drop0_fn _ c)
  -- what comes back
  have hlv2 : ∀ j i, μ.at j = some i → (outS res ob').live j → (s.back ρ μ ob').live i ∧ hv3 i = hv2 j := fun j i e ⟨o, ho⟩ => by
    have e1 := Ren.inv_of hμ (Ren.at_mem e)
    have ho' : ob' j = some o := ho
    exact ⟨⟨o.mapC (C.lift (C.ren0 μ)), by simp [S.back, e1, ho']⟩, by simp [hv3, e1]⟩
  have p2 : ∀ b, (enterFr Γ F hv s ρ w n).one.p F2 b → Γ.p F3 b := fun b hb' => by
    rcases hb' with (hb' | hb') | hb'
    · exact .inl hb'
    · exact .inr (.inl hb')
    · exact .inr (.inr hb')
  have hren0 : ∀ c u, C.HD0 hv2 (outS res ob').live w2 ((enterFr Γ F hv s ρ w n).one.t F2) ((enterFr Γ F hv s ρ w n).one.p F2) c u → C.HD0 hv3 (s.back ρ μ ob').live w2 (Γ.t F3) (Γ.p F3) (c.ren0 μ) u := fun c u hu => by
    have h1 := hu.one
    have hDP : ∀ {c : C}, C.Den w2 ((enterFr Γ F hv s ρ w n).one.p F2) c u → C.Den w2 (Γ.p F3) c u := fun hd => C.Den.mono p2 (fun _ _ => rfl) _ _ hd
    cases c with
    | own j =>
      simp only [C.ren0]
      split
      · rename_i i e
        obtain ⟨hlv, rfl, _⟩ := hu
        exact ⟨(hlv2 j i e hlv).1, (hlv2 j i e hlv).2.symm, h1⟩
      · exact h1
    | mh j =>
      simp only [C.ren0]
      split
      · rename_i i e
        obtain ⟨hlv, rfl, _⟩ := hu
        exact ⟨(hlv2 j i e hlv).1, (hlv2 j i e hlv).2.symm, h1⟩
      · exact h1
    | ptr j sz k off =>
      simp only [C.ren0]
      split
      · rename_i i e
        obtain ⟨hlv, b, hb1, rfl⟩ := hu
        exact ⟨(hlv2 j i e hlv).1, b, by rw [(hlv2 j i e hlv).2]; exact hb1, rfl⟩
      · exact h1
    | sl t => cases t <;> first | exact hDP hu | exact h1
    | fp t => cases t <;> first | exact hDP hu | exact h1
    | fn => exact hDP hu
    | v => exact hu
    | un => exact hu
  have hren : ∀ c u, C.HD hv2 (outS res ob').live w2 ((enterFr Γ F hv s ρ w n).one.t F2) ((enterFr Γ F hv s ρ w n).one.p F2) c u → C.HD hv3 (s.back ρ μ ob').live w2 (Γ.t F3) (Γ.p F3) (c.lift (C.ren0 μ)) u := fun c u hu => hu.lift hren0 (fun c => ren0_fn μ c)
  -- the objects behind
  have hob : ∀ i o, (s.back ρ μ ob').ob i = some o → (∃ j o0, μ.inv i = some j ∧ ob' j = some o0 ∧ o = o0.mapC (C.lift (C.ren0 μ)) ∧ hv3 i = hv2 j) ∨
      (∃ o0, μ.inv i = none ∧ (ρ.at i).isSome = false ∧ s.ob i = some o0 ∧ o = o0.mapC (C.lift (C.drop0 (badB s ρ μ))) ∧ hv3 i = hv i) := fun i o ho => by
    simp only [S.back] at ho
    split at ho
    · rename_i j e
      obtain ⟨o0, h0, rfl⟩ := Option.map_eq_some_iff.1 ho
      exact .inl ⟨j, o0, e, h0, rfl, by simp [hv3, e]⟩
    · rename_i e
      split at ho
      · cases ho
      · rename_i hn
        obtain ⟨o0, h0, rfl⟩ := Option.map_eq_some_iff.1 ho
        exact .inr ⟨o0, e, by simpa using hn, h0, rfl, by simp [hv3, e]⟩
  refine ⟨hv3, F3, ⟨?_, h.lo, h.po, ?_, h.defers, h.size, fun t => ?_, fun i o ho => ?_, fun i o b ho hb' => ?_, fun i i' b hli hli' hb1 hb2 => ?_, fun i v hk hli => ?_, h.pins⟩, ?_⟩
  · refine ⟨haw.os.trans h.away.os, haw.tape.trans h.away.tape, haw.output.trans h.away.output, Nat.le_trans h.away.size hsz, fun b hb' hL => ?_⟩
    refine (hsame b (Nat.lt_of_lt_of_le hb' h.away.size) fun hx => ?_).trans (h.away.block b hb' hL)
    exact (hlm b hx).1.elim (fun y => by omega) hL
  · rintro b (hb' | hb')
    · exact ⟨(h.fz b hb').1, Nat.lt_of_lt_of_le (h.fz b hb').2 hsz⟩
    · exact hF2 b hb'
  · exact SV.HD.mapC hdrop (h.slots t)
  · rcases hob i o ho with ⟨j, o0, e1, e2, rfl, e3⟩ | ⟨o0, e1, e2, e3, rfl, e4⟩
    · exact Ob.HD.mapC hren (i := j) e3 (fun _ _ => rfl) (h2.obs j o0 e2)
    · exact Ob.HD.mapC hdrop (i := i) e4 (fun b hb' => hsame b (h.own_out e3 e2 hb').1 (h.own_out e3 e2 hb').2) (h.obs i o0 e3)
  · rcases hob i o ho with ⟨j, o0, e1, e2, rfl, e3⟩ | ⟨o0, e1, e2, e3, rfl, e4⟩
    · rw [e3] at hb'
      obtain ⟨m1, m2, m3⟩ := h2.blk j o0 b e2 hb'
      refine ⟨hmc b m1, m2, fun hF => hF.elim (fun hF => ?_) m3⟩
      rcases m1 with m1 | m1
      · have := (h.fz b hF).2
        have m1' : w.heap.size ≤ b := m1
        omega
      · exact (hlm b m1).2.2 hF
    · rw [e4] at hb'
      obtain ⟨m1, m2, m3⟩ := h.blk i o0 b e3 hb'
      refine ⟨m1, Nat.lt_of_lt_of_le m2 hsz, fun hF => hF.elim m3 fun hF => ?_⟩
      rcases (h2.fz b hF).1 with m4 | m4
      · have m4' : w.heap.size ≤ b := m4
        omega
      · exact (h.own_out e3 e2 hb').2 m4
  · obtain ⟨o, ho⟩ := hli
    obtain ⟨o', ho'⟩ := hli'
    have mix : ∀ {i j : Nat} {o0 o1 : Ob} {i' : Nat}, ob' j = some o0 → hb (hv2 j) = some b → s.ob i' = some o1 → (ρ.at i').isSome = false → hb (hv i') = some b → False := fun {i j o0 o1 i'} e2 x1 e3 e2' x2 => by
      obtain ⟨q1, q2⟩ := h.own_out e3 e2' x2
      rcases (h2.blk j o0 b e2 x1).1 with m4 | m4
      · have m4' : w.heap.size ≤ b := m4
        omega
      · exact q2 m4
    rcases hob i o ho with ⟨j, o0, e1, e2, rfl, e3⟩ | ⟨o0, e1, e2, e3, rfl, e4⟩ <;> rcases hob i' o' ho' with ⟨j', o0', e1', e2', rfl, e3'⟩ | ⟨o0', e1', e2', e3', rfl, e4'⟩
    · rw [e3] at hb1
      rw [e3'] at hb2
      have := h2.disj j j' b ⟨_, e2⟩ ⟨_, e2'⟩ hb1 hb2
      subst this
      have x1 := inv_at e1
      rw [inv_at e1'] at x1
      exact (Option.some.inj x1).symm
    · rw [e3] at hb1
      rw [e4'] at hb2
      exact (mix (i := i) e2 hb1 e3' e2' hb2).elim
    · rw [e4] at hb1
      rw [e3'] at hb2
      exact (mix (i := i) e2' hb2 e3 e2 hb1).elim
    · rw [e4] at hb1
      rw [e4'] at hb2
      exact h.disj i i' b ⟨_, e3⟩ ⟨_, e3'⟩ hb1 hb2
  · obtain ⟨o, ho⟩ := hli
    rcases hob i o ho with ⟨j, o0, e1, e2, rfl, e3⟩ | ⟨o0, e1, e2, e3, rfl, e4⟩
    · rcases hi _ (Ren.inv_mem e1) with q | q | q
      · have := (h.pins i v hk).1
        simp only at q
        omega
      · exfalso
        simp only at q
        obtain ⟨q, q'⟩ := q
        cases ho1 : s.ob i with
        | none => rw [ho1] at q; simp [isRow] at q
        | some o1 =>
          cases o1 with
          | row e z xs ys ex =>
            obtain ⟨A, c, e5, _⟩ := h.row_slice ho1
            have := h.pin i v hk ⟨_, ho1⟩
            rw [e5] at this
            cases v with
            | slice A1 n1 c1 => have := (h.pins i _ hk).2 _ _ _ rfl; omega
            | _ => simp [pinOk] at this
          | box => rw [ho1] at q; simp [isRow] at q
          | mp => rw [ho1] at q; simp [isRow] at q
      · simp only at q
        obtain ⟨j', o1, q1, q2, q3, q4⟩ := keepB_spec q
        have q5 := Ren.inv_of hμ (Ren.at_mem q4)
        rw [e1] at q5
        obtain rfl := Option.some.inj q5
        have hbad : badB s ρ μ i = false := by simp [badB, q]
        rw [(hstay i hbad ⟨_, q2⟩).2]
        exact h.pin i v hk ⟨_, q2⟩
    · rw [e4]
      exact h.pin i v hk ⟨_, e3⟩
  · exact SV.HD.mapC hren (h2.slots 0)
end
/-! ### the call itself -/
def bodyOk (P : Program) (f : Nat) : Bool := match P.funcs[f]? with
  | some fn => fn.name != "runtime.NumGoroutine" && fn.body.isSome
  | none => false
def C.noFn : C → Bool
  | .fn .. => false
  | _ => true
/-- What a callee is handed. -/
def S.hand (s : S) (ρ : Ren) (k : Nat) (xs : List Operand) (caps : List C) : List SV :=
  xs.map (fun x => (s.ev x).mapC (C.lift (C.out0 s ρ k))) ++ caps.map (fun c => .val (.one (c.out0 s ρ k)))
section
variable {P : Program} {N : Nat} {o : Oper} {s : S} {K : S → Prop}
theorem run_callFunc {f : Nat} (hf : bodyOk P f = true) (args : Array Value) (w : World) : (callFunc f args).run P w = .ok (.enter f args) w := by
  unfold bodyOk at hf
  split at hf
  · rename_i fn e
    simp only [Bool.and_eq_true, bne_iff_ne, ne_eq, Option.isSome_iff_exists] at hf
    obtain ⟨h1, c, h2⟩ := hf
    simp [callFunc, e, h1, h2]
  · cases hf
theorem call_V {c : Operand} {f : Nat} {caps : List C} {xs : List Operand} {tys : Array Nat} {args : List V1} {post : SV → (Nat → Option Ob) → Prop} (ho : o.op = .call ⟨.value c, xs.toArray, tys⟩)
    (hc : opConstOk o = true) (hd : dstOk N o = true) (hf : bodyOk P f = true) (hfn : s.ev c = .val (.one (.fn f caps))) (hcaps : caps.all C.noFn = true) (ρ μ : Ren) (k : Nat)
    (hargs : s.hand ρ k xs caps = args.map .val) (hρ : ρ.ok = true) (h1000 : ∀ p ∈ ρ, 1000 ≤ p.2) (hμ : μ.ok = true) (hi : impOk s ρ μ)
    (hs : Does P f args (outOb s ρ k) post)
    (hK : ∀ res ob', post res ob' → (∀ p ∈ ρ, keepB s ρ μ p.1 = true → keptOk (s.ob p.1) (ob' p.2)) ∧ K ((s.back ρ μ ob').dst o.dst (res.mapC (C.lift (C.ren0 μ))))) : Oper.V P N o s K := by
  intro Γ hv F a w hN hR Q
  have hev : ∀ y ∈ o.op.operands, (s.ev y).HD hv s.live w (Γ.t F) (Γ.p F) (a.eval y) := fun y hy => hR.ev y (opConst hc hy)
  have h1 := hev c (by simp [ho, Op.operands, Call.operands])
  rw [hfn] at h1
  obtain ⟨us, hu1, hu2, hu3⟩ := h1
  have hcall : (execOp a.eval o).run P w = .ok (.enter f ((xs.map a.eval ++ us).toArray)) w := by
    simp only [execOp, ho, resolve, hu1, Deferred.ofValue, Sem.run_bind, Sem.run_pure, Result.andThen_ok, invoke]
    rw [run_callFunc hf]
    simp
  have hlen : (xs.map a.eval ++ us).length = args.length := by
    have := congrArg List.length hargs
    simp only [S.hand, List.length_append, List.length_map] at this
    rw [List.length_append, List.length_map, hu2, this]
  have hlive : ∀ id j, ρ.at id = some j → s.live id → ∃ o, outOb s ρ k j = some o := fun id j e ⟨o, ho⟩ => ⟨o.mapC (C.lift (C.out0 s ρ k)), by simp [outOb, Ren.inv_of hρ (Ren.at_mem e), ho]⟩
  have hE := hR.enter hρ h1000 k (args := args) (vs := (xs.map a.eval ++ us).toArray) (by simpa using hlen) (fun t x v hx hv' => by
    have e1 : (s.hand ρ k xs caps)[t]? = some (.val x) := by rw [hargs, List.getElem?_map, hx]; rfl
    simp only [List.getElem?_toArray] at hv'
    unfold S.hand at e1
    show SV.HD _ _ _ _ _ (.val x) v
    by_cases ht : t < xs.length
    · rw [List.getElem?_append_left (by simpa using ht), List.getElem?_map] at e1
      rw [List.getElem?_append_left (by simpa using ht), List.getElem?_map] at hv'
      obtain ⟨y, hy, e2⟩ := Option.map_eq_some_iff.1 e1
      rw [hy] at hv'
      simp only [Option.map_some, Option.some.injEq] at hv'
      subst hv'
      rw [← e2]
      have hmem := List.mem_of_getElem? hy
      exact SV.HD.mapC (fun c u hu => C.HD.lift (fun c u hu => hR.out_hd0 hρ k _ hlive hu) (fun c => out0_fn s ρ k c) hu) (hev y (by simp [ho, Op.operands, Call.operands]; exact .inr (by simpa using hmem)))
    · rw [List.getElem?_append_right (by simpa using ht), List.getElem?_map] at e1
      rw [List.getElem?_append_right (by simpa using ht)] at hv'
      simp only [List.length_map] at e1 hv'
      obtain ⟨c0, hc0, e2⟩ := Option.map_eq_some_iff.1 e1
      rw [← e2]
      have h3 := hu3 _ c0 v hc0 hv'
      have h4 := hR.out_hd0 hρ k (xs.map a.eval ++ us).toArray.size hlive h3
      have h5 := List.all_eq_true.1 hcaps c0 (List.mem_of_getElem? hc0)
      exact C.HD.of0 (out0_fn s ρ k c0 fun f caps e => by subst e; simp [C.noFn] at h5) h4)
  have hC := hs _ _ _ w rfl (by simpa using hlen) hE
  show Oper.upon P o a _ Q _
  rw [hcall, Oper.upon_enter]
  refine hC.mono fun e w' ⟨v, hv', F', res, ob', he, hp, hR'⟩ => ?_
  subst he
  obtain ⟨hk1, hk2⟩ := hK res ob' hp
  obtain ⟨hv3, F3, h6, h7⟩ := hR.back hρ hμ hi hR' hk1
  exact ⟨hv3, F3, _, hk2, h6.put' (fun i hi => hN ▸ (dstOk_spec hd i hi).1) h7⟩
end
/-! ### the walk, computed -/
/-- Operations that the computed walk leaves to a rule of their own. -/
def isHard : Op → Bool
  | .call ⟨.value _, _, _⟩ | .slice .. | .lookup .. | .mapUpdate .. | .insert .. | .makeMap .. | .build .. | .index .. | .makeFunc .. | .range .. | .next .. | .entry .. => true
  | .call ⟨.builtin .copy, _, _⟩ | .call ⟨.builtin .cap, _, _⟩ | .call ⟨.builtin .delete, _, _⟩ => true
  | _ => false
def isBin : Op → Bool
  | .binOp .. => true
  | _ => false
def vo (P : Program) (N : Nat) (o : Oper) (s : S) (K : S → Prop) : Prop :=
  if isHard o.op then Oper.V P N o s K else
  match stepC P o s with
  | some (p, s') => p ∧ K s'
  | none => isBin o.op = true ∧ Oper.V P N o s K
def vc (P : Program) (N : Nat) (ops : Array Oper) (Q : S → Prop) : List Oper → S → Prop
  | [], s => Q s
  | o :: rest, s => match o.guard with
    | none => vo P N o s (vc P N ops Q rest)
    | some (g, b) => match guardS ops g s with
      | some t => if t = b then vo P N o s (vc P N ops Q rest) else vc P N ops Q rest (s.dst o.dst .un)
      | none => False
def opOk (N : Nat) (o : Oper) : Bool := opConstOk o && dstOk N o
section
variable {P : Program} {N : Nat} {s : S} {Q : Exit → S → Prop}
theorem vo_sound {o : Oper} {K : S → Prop} (ho : opOk N o = true) (h : vo P N o s K) : Oper.V P N o s K := by
  simp only [opOk, Bool.and_eq_true] at ho
  unfold vo at h
  split at h
  · exact h
  · split at h
    · rename_i p s' e
      exact step_V ho.1 ho.2 e h.1 h.2
    · exact h.2
theorem vc_vl {ops : Array Oper} {Q : S → Prop} {l : List Oper} (hl : ∀ o ∈ l, opOk N o = true) : ∀ {s : S}, vc P N ops Q l s → vl P N ops Q l s := by
  induction l with
  | nil => intro s h; exact h
  | cons o rest ih =>
    intro s h
    have ih' := @ih (fun o ho => hl o (List.mem_cons_of_mem _ ho))
    unfold vc at h
    unfold vl
    split at h
    · rename_i hg
      exact Oper.V.mono (vo_sound (hl o (by simp)) h) fun s hs => ih' hs
    · rename_i g b hg
      split at h
      · rename_i t ht
        split at h
        · rename_i e
          exact ⟨t, ht, fun _ => Oper.V.mono (vo_sound (hl o (by simp)) h) fun s hs => ih' hs, fun ne => absurd e ne⟩
        · rename_i ne
          exact ⟨t, ht, fun e => absurd e ne, fun _ => ih' h⟩
      · exact h.elim
theorem V_reg {id : Nat} {ops : Array Oper} (hd : ops.toList.all (opOk N) = true) (h : vc P N ops (Q .normal) ops.toList s) : Code.V P N (.region id ops false) s Q := by
  have hall : ∀ o ∈ ops.toList, opOk N o = true := fun o ho => List.all_eq_true.1 hd o ho
  exact V_region (fun o ho => by have := hall o ho; simp only [opOk, Bool.and_eq_true] at this; exact this.2) (vc_vl hall h)
end
/-! ### the walk's own sums -/
@[simp] theorem put_sl (s : S) (d : Nat) (x : SV) (t : Nat) : (s.put d x).sl t = if t = d then x else s.sl t := rfl
@[simp] theorem put_ob (s : S) (d : Nat) (x : SV) : (s.put d x).ob = s.ob := rfl
@[simp] theorem setOb_sl (s : S) (i : Nat) (o : Ob) : (s.setOb i o).sl = s.sl := rfl
@[simp] theorem setOb_ob (s : S) (i : Nat) (o : Ob) (j : Nat) : (s.setOb i o).ob j = if j = i then some o else s.ob j := rfl
@[simp] theorem kill_sl (s : S) (i t : Nat) : (s.kill i).sl t = (s.sl t).sub i (fun _ => .un) := rfl
@[simp] theorem kill_ob (s : S) (i j : Nat) : (s.kill i).ob j = if j = i then none else (s.ob j).map (Ob.sub i fun _ => .un) := rfl
@[simp] theorem newOb_sl (s : S) (d : Nat) (o : Ob) (x : SV) (t : Nat) : (s.newOb d o x).sl t = if t = d then x else (s.sl t).sub d (fun _ => .un) := rfl
@[simp] theorem newOb_ob (s : S) (d : Nat) (o : Ob) (x : SV) (j : Nat) : (s.newOb d o x).ob j = if j = d then some o else (s.ob j).map (Ob.sub d fun _ => .un) := by
  simp only [S.newOb, put_ob, setOb_ob, kill_ob]
  split <;> rfl
@[simp] theorem app_sl (s : S) (i e : Nat) (z : List C) (xs : List (List C)) (t : Nat) : (s.app i e z xs).sl t = (s.sl t).sub i (fun _ => .un) := rfl
@[simp] theorem app_ob (s : S) (i e : Nat) (z : List C) (xs : List (List C)) (j : Nat) : (s.app i e z xs).ob j = if j = i then some (.row e z (subR i (fun _ => .un) xs) [] false) else (s.ob j).map (Ob.sub i fun _ => .un) := rfl
@[simp] theorem ev_tmp (s : S) (t : Nat) : s.ev (.tmp t) = s.sl t := rfl
@[simp] theorem ev_func (s : S) (f : FuncId) : s.ev (.func f) = .val (.one (.fn f [])) := rfl
@[simp] theorem ev_int (s : S) (k : IntKind) (n : Int) : s.ev (.const (.int k n)) = .val (.one (.v (.int k n))) := rfl
@[simp] theorem ev_bool (s : S) (b : Bool) : s.ev (.const (.bool b)) = .val (.one (.v (.bool b))) := rfl
@[simp] theorem ev_str (s : S) (b : ByteArray) : s.ev (.const (.string b)) = .val (.one (.v (.string b))) := rfl
@[simp] theorem ev_nil (s : S) : s.ev (.const (.slice none 0 0)) = .val (.one (.sl false 0 [] [] true)) := rfl
@[simp] theorem ev_nilp (s : S) (a : Option Addr) : s.ev (.const (.pointer a)) = .val (.one (.v (.pointer a))) := rfl
@[simp] theorem ev_nilm (s : S) (a : Option Nat) : s.ev (.const (.map a)) = .val (.one (.v (.map a))) := rfl
@[simp] theorem dst_some (s : S) (d : Nat) (x : SV) : s.dst (some d) x = s.put d x := rfl
@[simp] theorem dst_none (s : S) (x : SV) : s.dst none x = s := rfl
@[simp] theorem argS_sl (args : List V1) (ob0 : Nat → Option Ob) (t : Nat) : (argS args ob0).sl t = match args[t]? with | some x => .val x | none => .un := rfl
@[simp] theorem argS_ob (args : List V1) (ob0 : Nat → Option Ob) : (argS args ob0).ob = ob0 := rfl
section
variable (id : Nat) (g : C → C)
@[simp] theorem svsub_val (x : V1) : (SV.val x).sub id g = .val (x.sub id g) := rfl
@[simp] theorem svsub_tup (l : List V1) : (SV.tup l).sub id g = .tup (l.map (V1.sub id g)) := rfl
@[simp] theorem svsub_un : SV.un.sub id g = .un := rfl
@[simp] theorem v1sub_one (c : C) : (V1.one c).sub id g = .one (c.sub id g) := rfl
@[simp] theorem v1sub_agg (cs : List C) : (V1.agg cs).sub id g = .agg (cs.map (C.sub id g)) := rfl
@[simp] theorem csub_v (x : Value) : (C.v x).sub id g = .v x := rfl
@[simp] theorem csub_sl (t : Bool) (sz : Nat) (xs ys : List (List C)) (ex : Bool) : (C.sl t sz xs ys ex).sub id g = .sl t sz xs ys ex := rfl
@[simp] theorem csub_fp (t : Bool) (cs : List C) : (C.fp t cs).sub id g = .fp t cs := rfl
@[simp] theorem csub_un : C.un.sub id g = .un := rfl
@[simp] theorem csub_fn (f : FuncId) (caps : List C) : (C.fn f caps).sub id g = .fn f (caps.map (C.sub0 id g)) := rfl
@[simp] theorem csub_own (i : Nat) : (C.own i).sub id g = if i = id then g (.own i) else .own i := rfl
@[simp] theorem csub_ptr (i sz k off : Nat) : (C.ptr i sz k off).sub id g = if i = id then g (.ptr i sz k off) else .ptr i sz k off := rfl
@[simp] theorem csub_mh (i : Nat) : (C.mh i).sub id g = if i = id then g (.mh i) else .mh i := rfl
@[simp] theorem csub0_v (x : Value) : (C.v x).sub0 id g = .v x := rfl
@[simp] theorem csub0_own (i : Nat) : (C.own i).sub0 id g = if i = id then g (.own i) else .own i := rfl
@[simp] theorem csub0_ptr (i sz k off : Nat) : (C.ptr i sz k off).sub0 id g = if i = id then g (.ptr i sz k off) else .ptr i sz k off := rfl
@[simp] theorem csub0_fp (t : Bool) (cs : List C) : (C.fp t cs).sub0 id g = .fp t cs := rfl
@[simp] theorem csub0_sl (t : Bool) (sz : Nat) (xs ys : List (List C)) (ex : Bool) : (C.sl t sz xs ys ex).sub0 id g = .sl t sz xs ys ex := rfl
@[simp] theorem osub_row (e : Nat) (z : List C) (xs ys : List (List C)) (ex : Bool) : (Ob.row e z xs ys ex).sub id g = .row e z (subR id g xs) (subR id g ys) ex := rfl
@[simp] theorem osub_box (t : Nat) (cs : List C) : (Ob.box t cs).sub id g = .box t (cs.map (C.sub id g)) := rfl
@[simp] theorem osub_mp (es : List (Value × Value)) : (Ob.mp es).sub id g = .mp es := rfl
@[simp] theorem subR_nil : subR id g [] = [] := rfl
@[simp] theorem subR_cons (x : List C) (xs : List (List C)) : subR id g (x :: xs) = x.map (C.sub id g) :: subR id g xs := rfl
@[simp] theorem subR_app (xs ys : List (List C)) : subR id g (xs ++ ys) = subR id g xs ++ subR id g ys := by simp [subR]
@[simp] theorem subR_rep (n : Nat) (x : List C) : subR id g (List.replicate n x) = List.replicate n (x.map (C.sub id g)) := by simp [subR]
theorem subR_map {α : Type} (f : α → List C) (h : ∀ x, (f x).map (C.sub id g) = f x) (l : List α) : subR id g (l.map f) = l.map f := by simp [subR, Function.comp_def, h]
end
@[simp] theorem cells_one (c : C) : (V1.one c).cells = [c] := rfl
@[simp] theorem cells_agg (cs : List C) : (V1.agg cs).cells = cs := rfl
@[simp] theorem svcs_val (x : V1) : (SV.val x).cs = x.cells := rfl
@[simp] theorem mk1_agg (cs : List C) : mk1 true cs = some (.val (.agg cs)) := rfl
@[simp] theorem mk1_one (c : C) : mk1 false [c] = some (.val (.one c)) := rfl
@[simp] theorem rt_false (c : C) : c.rt false = c := by cases c <;> rfl
@[simp] theorem rt_v (t : Bool) (x : Value) : (C.v x).rt t = .v x := by cases t <;> rfl
@[simp] theorem rt_sl (t t' : Bool) (sz : Nat) (xs ys : List (List C)) (ex : Bool) : (C.sl t' sz xs ys ex).rt t = .sl (t || t') sz xs ys ex := by cases t <;> rfl
@[simp] theorem rt_fp (t t' : Bool) (cs : List C) : (C.fp t' cs).rt t = .fp (t || t') cs := by cases t <;> rfl
@[simp] theorem pickV_true (x y : SV) : pickV true x y = x := by unfold pickV; split <;> simp
@[simp] theorem pickV_false (x y : SV) : pickV false x y = y := by unfold pickV; split <;> simp
@[simp] theorem pickV_bool (t p q : Bool) : pickV t (.val (.one (.v (.bool p)))) (.val (.one (.v (.bool q)))) = .val (.one (.v (.bool (if t then p else q)))) := rfl
section
variable (P : Program) (t : Nat) (k : IntKind) (a b : Int)
@[simp] theorem binC_add : binC P .add t (.val (.one (.v (.int k a)))) (.val (.one (.v (.int k b)))) = some (True, .v (.int k (k.wrap (a + b)))) := by simp [binC, intBin]
@[simp] theorem binC_sub : binC P .sub t (.val (.one (.v (.int k a)))) (.val (.one (.v (.int k b)))) = some (True, .v (.int k (k.wrap (a - b)))) := by simp [binC, intBin]
@[simp] theorem binC_mul : binC P .mul t (.val (.one (.v (.int k a)))) (.val (.one (.v (.int k b)))) = some (True, .v (.int k (k.wrap (a * b)))) := by simp [binC, intBin]
@[simp] theorem binC_quo : binC P .quo t (.val (.one (.v (.int k a)))) (.val (.one (.v (.int k b)))) = some (b ≠ 0, .v (.int k (k.wrap (a.tdiv b)))) := by simp [binC, intBin]
@[simp] theorem binC_rem : binC P .rem t (.val (.one (.v (.int k a)))) (.val (.one (.v (.int k b)))) = some (b ≠ 0, .v (.int k (a.tmod b))) := by simp [binC, intBin]
@[simp] theorem binC_and : binC P .and t (.val (.one (.v (.int k a)))) (.val (.one (.v (.int k b)))) = some (True, .v (.int k (k.wrap ((BitVec.ofInt k.bits a &&& BitVec.ofInt k.bits b).toNat)))) := by simp [binC, intBin]
@[simp] theorem binC_or : binC P .or t (.val (.one (.v (.int k a)))) (.val (.one (.v (.int k b)))) = some (True, .v (.int k (k.wrap ((BitVec.ofInt k.bits a ||| BitVec.ofInt k.bits b).toNat)))) := by simp [binC, intBin]
@[simp] theorem binC_xor : binC P .xor t (.val (.one (.v (.int k a)))) (.val (.one (.v (.int k b)))) = some (True, .v (.int k (k.wrap ((BitVec.ofInt k.bits a ^^^ BitVec.ofInt k.bits b).toNat)))) := by simp [binC, intBin]
@[simp] theorem binC_andNot : binC P .andNot t (.val (.one (.v (.int k a)))) (.val (.one (.v (.int k b)))) = some (True, .v (.int k (k.wrap ((BitVec.ofInt k.bits a &&& ~~~ BitVec.ofInt k.bits b).toNat)))) := by simp [binC, intBin]
@[simp] theorem binC_eql : binC P .eql t (.val (.one (.v (.int k a)))) (.val (.one (.v (.int k b)))) = some (True, .v (.bool (decide (a = b)))) := by simp [binC, intBin]; rfl
@[simp] theorem binC_neq : binC P .neq t (.val (.one (.v (.int k a)))) (.val (.one (.v (.int k b)))) = some (True, .v (.bool (decide (a ≠ b)))) := by simp [binC, intBin, bne]; rfl
@[simp] theorem binC_lss : binC P .lss t (.val (.one (.v (.int k a)))) (.val (.one (.v (.int k b)))) = some (True, .v (.bool (decide (a < b)))) := by simp [binC, intBin]
@[simp] theorem binC_leq : binC P .leq t (.val (.one (.v (.int k a)))) (.val (.one (.v (.int k b)))) = some (True, .v (.bool (decide (a ≤ b)))) := by simp [binC, intBin]
@[simp] theorem binC_gtr : binC P .gtr t (.val (.one (.v (.int k a)))) (.val (.one (.v (.int k b)))) = some (True, .v (.bool (decide (b < a)))) := by simp [binC, intBin]
@[simp] theorem binC_geq : binC P .geq t (.val (.one (.v (.int k a)))) (.val (.one (.v (.int k b)))) = some (True, .v (.bool (decide (b ≤ a)))) := by simp [binC, intBin]
variable (k' : IntKind)
@[simp] theorem binC_shl : binC P .shl t (.val (.one (.v (.int k a)))) (.val (.one (.v (.int k' b)))) = some (0 ≤ b, .v (.int k (k.wrap (a * 2 ^ (min b.toNat k.bits))))) := by simp [binC, shiftBin]
@[simp] theorem binC_shr : binC P .shr t (.val (.one (.v (.int k a)))) (.val (.one (.v (.int k' b)))) = some (0 ≤ b, .v (.int k (a.fdiv (2 ^ (min b.toNat k.bits))))) := by simp [binC, shiftBin]
@[simp] theorem binC_eqb (p q : Bool) : binC P .eql t (.val (.one (.v (.bool p)))) (.val (.one (.v (.bool q)))) = if isBoolT P t then some (True, .v (.bool (p == q))) else none := by simp [binC]
@[simp] theorem binC_neb (p q : Bool) : binC P .neq t (.val (.one (.v (.bool p)))) (.val (.one (.v (.bool q)))) = if isBoolT P t then some (True, .v (.bool (p != q))) else none := by simp [binC]
end
def goP (d : Option Nat) (s : S) (K : S → Prop) : Option (Prop × SV) → Prop
  | some (p, x) => p ∧ K (s.dst d x)
  | none => False
def goN (K : S → Prop) : Option (Prop × S) → Prop
  | some (p, s') => p ∧ K s'
  | none => False
@[simp] theorem goP_some (d : Option Nat) (s : S) (K : S → Prop) (p : Prop) (x : SV) : goP d s K (some (p, x)) = (p ∧ K (s.dst d x)) := rfl
@[simp] theorem goN_some (K : S → Prop) (p : Prop) (s' : S) : goN K (some (p, s')) = (p ∧ K s') := rfl
theorem vo_pure {P : Program} {N : Nat} {o : Oper} {s : S} {K : S → Prop} (h0 : isHard o.op = false) (h4 : isBin o.op = false) (h1 : newC P o s = none) (h2 : lookC P o s = none) (h3 : writeC P o s = none) : vo P N o s K = goP o.dst s K (pureC P o s) := by
  unfold vo
  rw [if_neg (by simp [h0])]
  · simp only [stepC, h1, h2, h3]
    cases pureC P o s <;> simp [goP, h4]
theorem vo_look {P : Program} {N : Nat} {o : Oper} {s : S} {K : S → Prop} (h0 : isHard o.op = false) (h4 : isBin o.op = false) (h1 : newC P o s = none) (h2 : pureC P o s = none) (h3 : writeC P o s = none) : vo P N o s K = goP o.dst s K (lookC P o s) := by
  unfold vo
  rw [if_neg (by simp [h0])]
  · simp only [stepC, h1, h2, h3]
    cases lookC P o s <;> simp [goP, h4]
theorem vo_new {P : Program} {N : Nat} {o : Oper} {s : S} {K : S → Prop} (h0 : isHard o.op = false) (h4 : isBin o.op = false) (h1 : pureC P o s = none) (h2 : lookC P o s = none) (h3 : writeC P o s = none) : vo P N o s K = goN K (newC P o s) := by
  unfold vo
  rw [if_neg (by simp [h0])]
  · simp only [stepC, h1, h2, h3]
    cases newC P o s <;> simp [goN, h4]
theorem vo_write {P : Program} {N : Nat} {o : Oper} {s : S} {K : S → Prop} (h0 : isHard o.op = false) (h4 : isBin o.op = false) (h1 : newC P o s = none) (h2 : pureC P o s = none) (h3 : lookC P o s = none) : vo P N o s K = goN K (writeC P o s) := by
  unfold vo
  rw [if_neg (by simp [h0])]
  · simp only [stepC, h1, h2, h3]
    cases writeC P o s <;> simp [goN, h4]
/-! the operations -/
section
variable (P : Program) (N d ty : Nat) (ps : String) (af : Array Edge) (gd : Option (Nat × Bool)) (s : S) (K : S → Prop)
@[simp] theorem vo_move_t (x : Tmp) : vo P N ⟨some d, .move (.tmp x), ty, ps, af, gd⟩ s K = K (s.put d (s.sl x)) := by simp [vo, isHard, stepC, newC, pureC, S.dst, S.ev]
@[simp] theorem vo_assign_t (x : Tmp) : vo P N ⟨some d, .assign (.tmp x), ty, ps, af, gd⟩ s K = K (s.put d (s.sl x)) := by simp [vo, isHard, stepC, newC, pureC, S.dst, S.ev]
@[simp] theorem vo_move_i (k : IntKind) (n : Int) : vo P N ⟨some d, .move (.const (.int k n)), ty, ps, af, gd⟩ s K = K (s.put d (.val (.one (.v (.int k n))))) := by simp [vo, isHard, stepC, newC, pureC, S.dst, S.ev, constC]
@[simp] theorem vo_assign_i (k : IntKind) (n : Int) : vo P N ⟨some d, .assign (.const (.int k n)), ty, ps, af, gd⟩ s K = K (s.put d (.val (.one (.v (.int k n))))) := by simp [vo, isHard, stepC, newC, pureC, S.dst, S.ev, constC]
@[simp] theorem vo_move_b (b : Bool) : vo P N ⟨some d, .move (.const (.bool b)), ty, ps, af, gd⟩ s K = K (s.put d (.val (.one (.v (.bool b))))) := by simp [vo, isHard, stepC, newC, pureC, S.dst, S.ev, constC]
@[simp] theorem vo_assign_b (b : Bool) : vo P N ⟨some d, .assign (.const (.bool b)), ty, ps, af, gd⟩ s K = K (s.put d (.val (.one (.v (.bool b))))) := by simp [vo, isHard, stepC, newC, pureC, S.dst, S.ev, constC]
@[simp] theorem vo_move_s (b : ByteArray) : vo P N ⟨some d, .move (.const (.string b)), ty, ps, af, gd⟩ s K = K (s.put d (.val (.one (.v (.string b))))) := by simp [vo, isHard, stepC, newC, pureC, S.dst, S.ev, constC]
@[simp] theorem vo_assign_s (b : ByteArray) : vo P N ⟨some d, .assign (.const (.string b)), ty, ps, af, gd⟩ s K = K (s.put d (.val (.one (.v (.string b))))) := by simp [vo, isHard, stepC, newC, pureC, S.dst, S.ev, constC]
@[simp] theorem vo_move_p (b : Option Addr) : vo P N ⟨some d, .move (.const (.pointer b)), ty, ps, af, gd⟩ s K = K (s.put d (.val (.one (.v (.pointer b))))) := by simp [vo, isHard, stepC, newC, pureC, S.dst, S.ev, constC]
@[simp] theorem vo_assign_p (b : Option Addr) : vo P N ⟨some d, .assign (.const (.pointer b)), ty, ps, af, gd⟩ s K = K (s.put d (.val (.one (.v (.pointer b))))) := by simp [vo, isHard, stepC, newC, pureC, S.dst, S.ev, constC]
@[simp] theorem vo_move_f (f : FuncId) : vo P N ⟨some d, .move (.func f), ty, ps, af, gd⟩ s K = K (s.put d (.val (.one (.fn f [])))) := by simp [vo, isHard, stepC, newC, pureC, S.dst, S.ev]
@[simp] theorem vo_pick (c x y : Operand) : vo P N ⟨some d, .pick c x y, ty, ps, af, gd⟩ s K = goP (some d) s K (match s.ev c with | .val (.one (.v (.bool t))) => some (True, pickV t (s.ev x) (s.ev y)) | _ => none) := vo_pure rfl rfl rfl rfl rfl
@[simp] theorem vo_bin (op : BinOp) (t u : Nat) (x y : Operand) : vo P N ⟨some d, .binOp op t x y u, ty, ps, af, gd⟩ s K = (match binC P op t (s.ev x) (s.ev y) with
    | some (p, c) => p ∧ K (s.put d (.val (.one c)))
    | none => Oper.V P N ⟨some d, .binOp op t x y u, ty, ps, af, gd⟩ s K) := by
  simp only [vo, stepC, newC, pureC, lookC, writeC, isHard, isBin]
  cases binC P op t (s.ev x) (s.ev y) <;> simp [S.dst]
@[simp] theorem vo_not (t : Nat) (x : Operand) : vo P N ⟨some d, .unOp .not t x, ty, ps, af, gd⟩ s K = goP (some d) s K (match s.ev x with | .val (.one (.v (.bool t))) => some (True, .val (.one (.v (.bool !t)))) | _ => none) := vo_pure rfl rfl rfl rfl rfl
@[simp] theorem vo_neg (t : Nat) (x : Operand) : vo P N ⟨some d, .unOp .neg t x, ty, ps, af, gd⟩ s K = goP (some d) s K (match s.ev x with | .val (.one (.v (.int k n))) => some (True, .val (.one (.v (.int k (k.wrap (0 - n)))))) | _ => none) := vo_pure rfl rfl rfl rfl rfl
@[simp] theorem vo_extract (x : Operand) (j : Nat) : vo P N ⟨some d, .extract x j, ty, ps, af, gd⟩ s K = goP (some d) s K (match s.ev x with | .tup l => (l[j]?).map fun v => (True, .val v) | _ => none) := vo_pure rfl rfl rfl rfl rfl
@[simp] theorem vo_nilCheck (x : Operand) : vo P N ⟨some d, .nilCheck x, ty, ps, af, gd⟩ s K = goP (some d) s K (match s.ev x with | .val (.one (.ptr i sz k o)) => some (True, .val (.one (.ptr i sz k o))) | .val (.one (.fp t cs)) => some (True, .val (.one (.fp t cs))) | _ => none) := vo_pure rfl rfl rfl rfl rfl
@[simp] theorem vo_load (t : Nat) (x : Operand) : vo P N ⟨some d, .load t x, ty, ps, af, gd⟩ s K = goP (some d) s K (match tyI P t with
    | some y => match s.loadC y.sz (s.ev x) with
      | some cs => (mk1 y.agg cs).map fun v => (True, v)
      | none => none
    | none => none) := vo_look rfl rfl rfl rfl rfl
@[simp] theorem vo_fieldAddr (t : Nat) (x : Operand) (f : Nat) : vo P N ⟨some d, .fieldAddr t x f, ty, ps, af, gd⟩ s K = goP (some d) s K (match fldT P t f with
    | some (off, t') => match tyI P t' with
      | some y => match s.ev x with
        | .val (.one (.ptr id sz i k)) => some (y.sz ≠ 0, .val (.one (.ptr id sz i (k + off))))
        | .val (.one (.fp tg cs)) => some (y.sz ≠ 0 ∧ off ≤ cs.length, .val (.one (.fp tg (cs.drop off))))
        | _ => none
      | none => none
    | none => none) := vo_look rfl rfl rfl rfl rfl
@[simp] theorem vo_indexAddr (t : Nat) (x ix : Operand) : vo P N ⟨some d, .indexAddr t x ix, ty, ps, af, gd⟩ s K = goP (some d) s K (match elT P t with
    | some e => match tyI P e with
      | some y => match s.ev ix with
        | .val (.one (.v (.int _ n))) => match s.ev x with
          | .val (.one (.own id)) => match s.ob id with
            | some (.row _ z xs _ _) => some (z.length = y.sz ∧ 0 ≤ n ∧ n < xs.length, .val (.one (.ptr id z.length n.toNat 0)))
            | _ => none
          | .val (.one (.sl tg sz xs _ _)) => match xs[n.toNat]? with
            | some el => some (sz = y.sz ∧ 0 ≤ n, .val (.one (.fp tg el)))
            | none => none
          | _ => none
        | _ => none
      | none => none
    | none => none) := vo_look rfl rfl rfl rfl rfl
@[simp] theorem vo_field (t : Nat) (x : Operand) (f : Nat) : vo P N ⟨some d, .field t x f, ty, ps, af, gd⟩ s K = goP (some d) s K (match fldT P t f with
    | some (off, t') => match tyI P t' with
      | some y => match s.ev x with
        | .val (.agg cs) => (mk1 y.agg ((cs.drop off).take y.sz)).map fun v => (off + y.sz ≤ cs.length, v)
        | _ => none
      | none => none
    | none => none) := vo_look rfl rfl rfl rfl rfl
@[simp] theorem vo_convert (t t' : Nat) (x : Operand) : vo P N ⟨some d, .convert t t' x, ty, ps, af, gd⟩ s K = goP (some d) s K (match intT P t', s.ev x with
    | some k, .val (.one (.v (.int _ n))) => some ((P.underlying t).isSome = true, .val (.one (.v (.int k (k.wrap n)))))
    | _, _ => none) := vo_look rfl rfl rfl rfl rfl
@[simp] theorem vo_len (x : Operand) (t : Nat) : vo P N ⟨some d, .call ⟨.builtin .len, #[x], #[t]⟩, ty, ps, af, gd⟩ s K = goP (some d) s K (match s.ev x with
      | .val (.one (.own id)) => match s.ob id with
        | some (.row _ _ xs _ _) => some ((elT P t).isSome = true, .val (.one (.v (.int .i64 xs.length))))
        | _ => none
      | .val (.one (.sl _ _ xs _ _)) => some ((elT P t).isSome = true, .val (.one (.v (.int .i64 xs.length))))
      | .val (.one (.v (.string b))) => some (isStrT P t = true, .val (.one (.v (.int .i64 b.size))))
      | _ => none) := vo_look rfl rfl rfl rfl rfl
@[simp] theorem vo_move_nil : vo P N ⟨some d, .move (.const (.slice none 0 0)), ty, ps, af, gd⟩ s K = (match elT P ty with
    | some e => match zeroT' P e with
      | some z => 0 < z.length ∧ K (s.newOb d (.row e z [] [] true) (.val (.one (.own d))))
      | none => K (s.put d (.val (.one (.sl false 0 [] [] true))))
    | none => K (s.put d (.val (.one (.sl false 0 [] [] true))))) := by
  simp only [vo, isHard, stepC, newC]
  cases elT P ty with
  | none => simp [pureC]
  | some e => simp only []; cases zeroT' P e <;> simp [pureC]
@[simp] theorem vo_assign_nil : vo P N ⟨some d, .assign (.const (.slice none 0 0)), ty, ps, af, gd⟩ s K = (match elT P ty with
    | some e => match zeroT' P e with
      | some z => 0 < z.length ∧ K (s.newOb d (.row e z [] [] true) (.val (.one (.own d))))
      | none => K (s.put d (.val (.one (.sl false 0 [] [] true))))
    | none => K (s.put d (.val (.one (.sl false 0 [] [] true))))) := by
  simp only [vo, isHard, stepC, newC]
  cases elT P ty with
  | none => simp [pureC]
  | some e => simp only []; cases zeroT' P e <;> simp [pureC]
@[simp] theorem vo_alloc (t : Nat) : vo P N ⟨some d, .alloc t, ty, ps, af, gd⟩ s K = goN K (match zeroT' P t with
      | some cs => some (True, s.newOb d (.box t cs) (.val (.one (.ptr d 0 0 0))))
      | none => none) := vo_new rfl rfl rfl rfl rfl
@[simp] theorem vo_box (t : Nat) (x : Operand) : vo P N ⟨some d, .box t x, ty, ps, af, gd⟩ s K = goN K (match (s.kill d).ev x with
      | .val x => some (True, s.newOb d (.box t x.cells) (.val (.one (.ptr d 0 0 0))))
      | _ => none) := vo_new rfl rfl rfl rfl rfl
@[simp] theorem vo_makeSlice (t : Nat) (l c : Operand) : vo P N ⟨some d, .makeSlice t l c, ty, ps, af, gd⟩ s K = goN K (match elT P t with
      | some e => match tyI P e, zeroT' P e with
        | some y, some z => match s.ev l, s.ev c with
          | .val (.one (.v (.int _ n))), .val (.one (.v (.int _ m))) =>
            some (0 < y.sz ∧ z.length = y.sz ∧ 0 ≤ n ∧ n ≤ m ∧ y.by_ * m ≤ 140737488355328 ∧ m ≤ 9223372036854775807, s.newOb d (.row e z (List.replicate n.toNat z) (List.replicate (m.toNat - n.toNat) z) true) (.val (.one (.own d))))
          | _, _ => none
        | _, _ => none
      | none => none) := vo_new rfl rfl rfl rfl rfl
@[simp] theorem vo_buildSlice (t len : Nat) (parts : Array (Nat × Operand)) : vo P N ⟨some d, .buildSlice t len parts, ty, ps, af, gd⟩ s K = goN K (match elT P t with
      | some e => match tyI P e, zeroT' P e with
        | some y, some z => some (0 < y.sz ∧ z.length = y.sz ∧ parts.toList.map (·.1) = List.range len ∧ (∀ x ∈ parts.toList.map (fun p => ((s.kill d).ev p.2).cs), x.length = y.sz) ∧ len * y.sz ≤ 2 ^ 24, s.newOb d (.row e z (parts.toList.map fun p => ((s.kill d).ev p.2).cs) [] true) (.val (.one (.own d))))
        | _, _ => none
      | none => none) := vo_new rfl rfl rfl rfl rfl
@[simp] theorem vo_store (t : Nat) (x y : Operand) : vo P N ⟨none, .store t x y, ty, ps, af, gd⟩ s K = goN K (match tyI P t, s.ev x with
    | some yv, .val (.one (.ptr id sz i off)) => match s.ob id with
      | some (.box t' cs0) => some ((none : Option Nat) = none ∧ sz = 0 ∧ i = 0 ∧ (∃ v, s.ev y = .val v) ∧ (s.ev y).cs.length = yv.sz ∧ off + yv.sz ≤ cs0.length,
          s.setOb id (.box t' (cs0.take off ++ (s.ev y).cs ++ cs0.drop (off + yv.sz))))
      | some (.row e z xs ys ex) => match xs[i]? with
          | some el => some ((none : Option Nat) = none ∧ sz = z.length ∧ (∃ v, s.ev y = .val v) ∧ (s.ev y).cs.length = yv.sz ∧ off + yv.sz ≤ el.length,
              s.setOb id (.row e z (xs.set i (el.take off ++ (s.ev y).cs ++ el.drop (off + yv.sz))) ys ex))
          | none => none
      | _ => none
    | _, _ => none) := vo_write rfl rfl rfl rfl rfl
@[simp] theorem vo_append (x y : Operand) (t t' : Nat) : vo P N ⟨some d, .call ⟨.builtin .append, #[x, y], #[t, t']⟩, ty, ps, af, gd⟩ s K = goN K (match s.ev x with
      | .val (.one (.own id)) => match s.ob id with
        | some (.row e z xs ys0 _) => match tyI P e, zeroT' P e, s.srcC id (s.ev y), some d with
          | some yv, some z', some (sz', ys), some d => some (t = t' ∧ elT P t = some e ∧ yv.sz = z.length ∧ 0 < yv.by_ ∧ (ys = [] ∨ sz' = z.length) ∧ (xs.length + ys.length) * yv.by_ ≤ 140737488355328 ∧ z' = z ∧ kindsC z ys0 ∧ id < 2000,
              (s.app id e z (xs ++ ys)).put d (.val (.one (.own id))))
          | _, _, _, _ => none
        | _ => none
      | _ => none) := vo_write rfl rfl rfl rfl rfl
@[simp] theorem vo_hard (op : Op) (dd : Option Nat) (h : isHard op = true) : vo P N ⟨dd, op, ty, ps, af, gd⟩ s K = Oper.V P N ⟨dd, op, ty, ps, af, gd⟩ s K := by simp [vo, h]
@[simp] theorem vo_call (c : Operand) (xs : Array Operand) (tys : Array Nat) (dd : Option Nat) : vo P N ⟨dd, .call ⟨.value c, xs, tys⟩, ty, ps, af, gd⟩ s K = Oper.V P N ⟨dd, .call ⟨.value c, xs, tys⟩, ty, ps, af, gd⟩ s K := rfl
end
@[simp] theorem loadC_fp (s : S) (n : Nat) (t : Bool) (cs : List C) : s.loadC n (.val (.one (.fp t cs))) = if n ≤ cs.length then some ((cs.take n).map (C.rt t)) else none := rfl
@[simp] theorem loadC_ptr (s : S) (n id sz i off : Nat) : s.loadC n (.val (.one (.ptr id sz i off))) = match s.ob id with
    | some (.row _ z xs _ _) => if sz = z.length then match xs[i]? with
      | some el => if off + n ≤ el.length then some ((el.drop off).take n) else none
      | none => none
      else none
    | some (.box _ cs) => if sz = 0 then (if off + n ≤ cs.length then some ((cs.drop off).take n) else none) else none
    | _ => none := rfl
@[simp] theorem srcC_sl (s : S) (id : Nat) (tg : Bool) (sz : Nat) (ys y2 : List (List C)) (ex : Bool) : s.srcC id (.val (.one (.sl tg sz ys y2 ex))) = some (sz, ys.map (List.map (C.rt tg))) := rfl
@[simp] theorem srcC_own (s : S) (id id2 : Nat) : s.srcC id (.val (.one (.own id2))) = if id2 = id then none else match s.ob id2 with
    | some (.row _ z ys _ _) => some (z.length, ys)
    | _ => none := rfl
@[simp] theorem vc_nil (P : Program) (N : Nat) (ops : Array Oper) (Q : S → Prop) (s : S) : vc P N ops Q [] s = Q s := rfl
@[simp] theorem vc_plain (P : Program) (N : Nat) (ops : Array Oper) (Q : S → Prop) (d : Option Nat) (op : Op) (ty : Nat) (ps : String) (af : Array Edge) (rest : List Oper) (s : S) :
    vc P N ops Q (⟨d, op, ty, ps, af, none⟩ :: rest) s = vo P N ⟨d, op, ty, ps, af, none⟩ s (vc P N ops Q rest) := rfl
@[simp] theorem vc_guard (P : Program) (N : Nat) (ops : Array Oper) (Q : S → Prop) (d : Option Nat) (op : Op) (ty : Nat) (ps : String) (af : Array Edge) (g : Nat) (b : Bool) (rest : List Oper) (s : S) :
    vc P N ops Q (⟨d, op, ty, ps, af, some (g, b)⟩ :: rest) s = (match guardS ops g s with
      | some t => if t = b then vo P N ⟨d, op, ty, ps, af, some (g, b)⟩ s (vc P N ops Q rest) else vc P N ops Q rest (s.dst d .un)
      | none => False) := rfl
theorem kindsC_nil (z : List C) : kindsC z [] := fun _ h => by cases h
attribute [simp] kindsC_nil
/-! ### the walk's rules, what follows behind a letter -/
def Fin_ (P : Program) (rs : List ResultVar) (post : SV → (Nat → Option Ob) → Prop) (s : S) : Prop :=
  ∃ l μ, resL P s rs = some l ∧ Ren.ok μ = true ∧ (∀ p ∈ μ, p.1 = p.2 ∨ p.2 < 1000) ∧ post ((packS l).mapC (C.lift (C.ren0 μ))) (μ.ob s.ob)
section
variable {P : Program} {N : Nat} {s : S} {Q : Exit → S → Prop}
theorem V_seq_k {x y : Code} (h : ∀ K : S → Prop, (∀ s, Code.V P N y s Q → K s) → Code.V P N x s (thenS K Q)) : Code.V P N (.seq x y) s Q :=
  V_seq (h _ fun _ h => h)
theorem V_reg_k {id : Nat} {ops : Array Oper} {y : Code} (hd : ops.toList.all (opOk N) = true) (h : ∀ K : S → Prop, (∀ s, Code.V P N y s Q → K s) → vc P N ops K ops.toList s) : Code.V P N (.seq (.region id ops false) y) s Q :=
  V_seq (V_reg hd (h _ fun _ h => h))
theorem V_reg_e {id : Nat} {ops : Array Oper} (hd : ops.toList.all (opOk N) = true) (h : ∀ K : S → Prop, (∀ s, Q .normal s → K s) → vc P N ops K ops.toList s) : Code.V P N (.region id ops false) s Q :=
  V_reg hd (h _ fun _ h => h)
/-- The loop, by a count of what is left. -/
theorem V_loop_k {c : Code} (I : Nat → S → Prop) (n : Nat) (h0 : I n s) (h : ∀ n s, I n s → ∀ K : S → Prop, (∀ m s1, m < n → I m s1 → K s1) → Code.V P N c s (thenS K Q)) : Code.V P N (.loop c) s Q :=
  V_loop I n h0 fun n s hI => h n s hI _ fun m _ hm hI' => ⟨m, hm, hI'⟩
theorem does_of' {f : Nat} {fn : Func} {c : Code} {args : List V1} {ob0 : Nat → Option Ob} {post : SV → (Nat → Option Ob) → Prop} (N : Nat) (rs : List ResultVar) (hf : P.funcs[f]? = some fn) (hb : fn.body = some c) (hN : fn.ntmps = N) (hrs : fn.results.toList = rs) (hn : args.length ≤ N)
    (h : ∀ Q : Exit → S → Prop, (∀ s, Fin_ P rs post s → Q .normal s ∧ Q .ret s) → Code.V P N c (argS args ob0) Q) : Does P f args ob0 post := by
  subst hN hrs
  refine does_of hf hb hn (h _ fun s ⟨l, μ, h1, h2, h3, h4⟩ => ⟨⟨.inl rfl, l, μ, h1, h2, h3, h4⟩, ⟨.inr rfl, l, μ, h1, h2, h3, h4⟩⟩)
end
theorem wrap_i64 {x : Int} (h1 : -9223372036854775808 ≤ x) (h2 : x ≤ 9223372036854775807) : IntKind.i64.wrap x = x := by
  unfold IntKind.wrap
  simp only [IntKind.bits, IntKind.signed, Bool.true_and]
  split <;> rename_i h <;> simp at h <;> omega
theorem wrap_u8 {x : Int} (h1 : 0 ≤ x) (h2 : x ≤ 255) : IntKind.u8.wrap x = x := by
  simp only [IntKind.wrap, IntKind.bits, IntKind.signed, Bool.false_and]
  simp
  omega
/-! ### rules for other operations: room, cuts, copies -/
def S.cut (s : S) (id e : Nat) (z : List C) (xs ys : List (List C)) (ex : Bool) : S := s.sub id (fun _ => .un) (some (.row e z (subR id (fun _ => .un) xs) (subR id (fun _ => .un) ys) ex))
@[simp] theorem cut_sl (s : S) (id e : Nat) (z : List C) (xs ys : List (List C)) (ex : Bool) (t : Nat) : (s.cut id e z xs ys ex).sl t = (s.sl t).sub id (fun _ => .un) := rfl
@[simp] theorem cut_ob (s : S) (id e : Nat) (z : List C) (xs ys : List (List C)) (ex : Bool) (j : Nat) : (s.cut id e z xs ys ex).ob j = if j = id then some (.row e z (subR id (fun _ => .un) xs) (subR id (fun _ => .un) ys) ex) else (s.ob j).map (Ob.sub id fun _ => .un) := rfl
theorem flat_take {α : Type} {sz : Nat} : ∀ {xs : List (List α)} (i : Nat), (∀ e ∈ xs, e.length = sz) → (xs.take i).flatten = xs.flatten.take (i * sz)
  | xs, 0, _ => by simp
  | [], i + 1, _ => by simp
  | e :: es, i + 1, h => by
    have he := h e (by simp)
    rw [List.take_succ_cons, List.flatten_cons, List.flatten_cons, flat_take i (fun x hx => h x (by simp [hx])), show (i + 1) * sz = e.length + i * sz by rw [he, Nat.add_mul]; omega, List.take_length_add_append]
section
variable {P : Program} {Γ : Fr} {hv : Nat → Value} {F : Nat → Prop} {s : S} {a : Act} {w : World}
theorem R.row_cap (h : R Γ hv F s a w) {id e : Nat} {z : List C} {xs ys : List (List C)} (ho : s.ob id = some (.row e z xs ys true)) : ∃ A, hv id = .slice A xs.length (xs.length + ys.length) := by
  obtain ⟨h0, hall, _, vals, rest, hat, hd, hr⟩ := h.obs id _ ho
  simp only [if_true] at hr
  have hl := flat_length (xs := ys) (fun x hx => hall x (List.mem_append_right _ hx))
  have h1 := hr.1
  rcases hat with ⟨e1, e2, e3, e4⟩ | ⟨G, cap, cur, e1, e2, e3, e4, e5, e6, e7⟩
  · subst e4
    simp only [List.length_nil] at h1
    rw [← h1] at hl
    have : ys.length = 0 := (Nat.mul_eq_zero.1 hl.symm).resolve_right (by omega)
    exact ⟨none, by rw [e1, e2, this]⟩
  · have h2 : cur.toList.length = cap * z.length := by rw [Array.length_toList]; exact e5
    rw [e6, List.length_append, e7, h1, hl, ← Nat.add_mul] at h2
    have := (Nat.eq_of_mul_eq_mul_right h0 h2)
    exact ⟨_, by rw [e1, this]⟩
/-- A row that is ours, cut anew (its room is known). -/
theorem R.cut_ (h : R Γ hv F s a w) {id e n : Nat} {z : List C} {xs ys : List (List C)} {A : Option Addr} {c : Nat} (ho : s.ob id = some (.row e z xs ys true)) (hn : n ≤ xs.length + ys.length) (hv0 : hv id = .slice A xs.length c) :
    R Γ (fun i => if i = id then .slice A n c else hv i) F (s.cut id e z ((xs ++ ys).take n) ((xs ++ ys).drop n) true) a w := by
  obtain ⟨h0, hall, hex, vals, rest, hat, hd, hr⟩ := h.obs id _ ho
  simp only [if_true] at hr
  have hb0 : hb (.slice A n c) = hb (hv id) := by rw [hv0]; cases A <;> rfl
  have hli : ∀ i, i ≠ id → s.live i → (s.cut id e z ((xs ++ ys).take n) ((xs ++ ys).drop n) true).live i ∧ (fun i => if i = id then Value.slice A n c else hv i) i = hv i := fun i hne hl => ⟨(S.live_sub s _ _ hne).2 hl, by simp [hne]⟩
  refine h.turn id (fun _ => .un) _ h.away (fun _ x => x) h.fz (fun _ _ => rfl) (fun i b hne hl hbi => ?_) (fun i hne _ => by simp [hne]) (fun c u _ hu => hu.one) (fun c f caps _ => by simp) (fun o' eo => ?_) (fun o' b eo hb' => ?_) (fun o' v _ hk => ?_)
  · obtain ⟨o, ho'⟩ := hl
    exact ⟨rfl, (h.blk i o b ho' hbi).2⟩
  · cases eo
    have hall' : ∀ l : List (List C), (∀ x ∈ l, x ∈ xs ++ ys) → ∀ x ∈ subR id (fun _ => C.un) l, x.length = z.length := fun l hl => subR_len _ _ fun x hx => hall x (hl x hx)
    have hlt : ((xs ++ ys).take n).length = n := by rw [List.length_take, List.length_append]; omega
    have hall2 := (hd.append hr)
    rw [← List.flatten_append] at hall2
    have hsp := sub_un_hd (id := id) (hv' := fun i => if i = id then Value.slice A n c else hv i) (live' := (s.cut id e z ((xs ++ ys).take n) ((xs ++ ys).drop n) true).live) h.pt hli (w' := w) (fun _ _ => rfl) hall2
    have hcut : ∀ k, HDs (fun i => if i = id then Value.slice A n c else hv i) (s.cut id e z ((xs ++ ys).take n) ((xs ++ ys).drop n) true).live w (Γ.t F) (Γ.p F) ((subR id (fun _ => C.un) ((xs ++ ys).drop k)).flatten) ((vals ++ rest).drop (k * z.length)) := fun k => by
      have := hsp.drop_ (k * z.length)
      rw [← List.map_drop, flat_drop k hall] at this
      rwa [flat_subR]
    have hcut' : HDs (fun i => if i = id then Value.slice A n c else hv i) (s.cut id e z ((xs ++ ys).take n) ((xs ++ ys).drop n) true).live w (Γ.t F) (Γ.p F) ((subR id (fun _ => C.un) ((xs ++ ys).take n)).flatten) ((vals ++ rest).take (n * z.length)) := by
      have := hsp.slice 0 (n * z.length)
      simp only [List.drop_zero] at this
      rw [flat_subR]
      have e1 : ((xs ++ ys).take n).flatten = (xs ++ ys).flatten.take (n * z.length) := flat_take n hall
      rw [e1, List.map_take]
      exact this
    refine ⟨h0, ?_, (fun e => by cases e), (vals ++ rest).take (n * z.length), (vals ++ rest).drop (n * z.length), ?_, hcut', ?_⟩
    · intro x hx
      rcases List.mem_append.1 hx with hx | hx
      · exact hall' _ (fun x hx => List.mem_of_mem_take hx) x hx
      · exact hall' _ (fun x hx => List.mem_of_mem_drop hx) x hx
    · have hl1 : (subR id (fun _ => C.un) ((xs ++ ys).take n)).length = n := by simp only [subR, List.length_map]; exact hlt
      rw [hl1]
      simp only [if_true]
      rcases hat with ⟨e1, e2, e3, e4⟩ | ⟨G, cap, cur, e1, e2, e3, e4, e5, e6, e7⟩
      · obtain ⟨A', hA'⟩ := h.row_cap ho
        rw [e1] at hA' hv0
        simp only [Value.slice.injEq] at hA' hv0
        obtain ⟨rfl, q1, rfl⟩ := hv0
        have : n = 0 := by omega
        subst this
        exact .inl ⟨rfl, rfl, by simp, by simp [e3, e4]⟩
      · rw [e1] at hv0
        cases hv0
        obtain ⟨A', hA'⟩ := h.row_cap ho
        rw [e1] at hA'
        cases hA'
        refine .inr ⟨G, _, cur, rfl, e2, hn, e4, e5, by rw [e6, List.take_append_drop], ?_⟩
        have hcl : (vals ++ rest).length = (xs.length + ys.length) * z.length := by rw [← e6, Array.length_toList]; exact e5
        rw [List.length_take, hcl]
        exact Nat.min_eq_left (Nat.mul_le_mul_right _ hn)
    · simp only [if_true]
      exact hcut n
  · simp only [if_true] at hb'
    rw [hb0] at hb'
    have := h.blk id _ b ho hb'
    exact ⟨this.1, this.2.1, this.2.2, fun i hne hl hbi => hne (h.disj i id b hl ⟨_, ho⟩ hbi hb')⟩
  · have h1 := h.pin id v hk ⟨_, ho⟩
    rw [hv0] at h1
    simp only [if_true]
    cases v with
    | slice A1 n1 c1 => obtain ⟨n', e1⟩ := h1; cases e1; exact ⟨n, rfl⟩
    | _ => simp [pinOk] at h1
theorem run_cut {t e : Nat} {A : Option Addr} {len cap n : Nat} {k : IntKind} {y : TyI} (ht : elT P t = some e) (hy : tyI P e = some y) (hn : n ≤ cap) :
    (Instr.sliceAt t (.slice A len cap) none (some (.int k n)) none).run P w = .ok (.slice A n cap) w := by
  have h1 : (0 : Int) ≤ n ∧ (n : Int) ≤ cap := by omega
  have h2 : A.map (fun x => x.add 0) = A := by
    cases A with
    | none => rfl
    | some x => simp only [Option.map_some, Addr.add]; split <;> simp_all
  simp [Instr.sliceAt, run_underlying (elT_some ht), Instr.slice, Instr.sliceBounds, Instr.sliceBound, asIntOf, h1, hn, run_sizeOf' hy, h2]
theorem run_cut2 {t e : Nat} {A : Option Addr} {len cap l n : Nat} {k k' : IntKind} {y : TyI} (ht : elT P t = some e) (hy : tyI P e = some y) (hn : n ≤ cap) (hl : l ≤ n) (hlt : l < cap) :
    (Instr.sliceAt t (.slice A len cap) (some (.int k' l)) (some (.int k n)) none).run P w = .ok (.slice (A.map fun x => x.add (l * y.sz)) (n - l) (cap - l)) w := by
  have h4 : ¬ cap = l := by omega
  simp [Instr.sliceAt, run_underlying (elT_some ht), Instr.slice, Instr.sliceBounds, Instr.sliceBound, asIntOf, hn, hl, h4, run_sizeOf' hy]
end
section
variable {P : Program} {N d ty : Nat} {ps : String} {af : Array Edge} {gd : Option (Nat × Bool)} {s : S} {K : S → Prop}
theorem V_turn {o : Oper} {s' : S} {x : SV} (hd : dstOk N o = true) (h : ∀ Γ hv F a w, Γ.N = N → R Γ hv F s a w → ∃ v w' hv' F', (execOp a.eval o).run P w = .ok (.value v) w' ∧ R Γ hv' F' s' a w' ∧ x.HD hv' s'.live w' (Γ.t F') (Γ.p F') v) (hK : K (s'.dst o.dst x)) : Oper.V P N o s K := fun Γ hv F a w hN hR Q => by
  obtain ⟨v, w', hv', F', h1, h2, h3⟩ := h Γ hv F a w hN hR
  show Oper.upon P o a _ Q _
  rw [h1, Oper.upon_value]
  exact ⟨hv', F', _, hK, h2.put' (fun i hi => hN ▸ (dstOk_spec hd i hi).1) h3⟩
theorem V_cap {x : Operand} {t m : Nat} (hc : opConstOk ⟨some d, .call ⟨.builtin .cap, #[x], #[t]⟩, ty, ps, af, gd⟩ = true) (hd : dstOk N ⟨some d, .call ⟨.builtin .cap, #[x], #[t]⟩, ty, ps, af, gd⟩ = true) (ht : (elT P t).isSome = true)
    (hx : (∃ id e z xs ys, s.ev x = .val (.one (.own id)) ∧ s.ob id = some (.row e z xs ys true) ∧ m = xs.length + ys.length) ∨ (∃ tg sz xs ys, s.ev x = .val (.one (.sl tg sz xs ys true)) ∧ m = xs.length + ys.length))
    (hK : K (s.put d (.val (.one (.v (.int .i64 m)))))) : Oper.V P N ⟨some d, .call ⟨.builtin .cap, #[x], #[t]⟩, ty, ps, af, gd⟩ s K := by
  refine V_turn (s' := s) (x := .val (.one (.v (.int .i64 m)))) hd (fun Γ hv F a w hN hR => ?_) hK
  obtain ⟨el, hel⟩ := Option.isSome_iff_exists.1 ht
  have h1 := hR.ev x (opConst hc (by simp [Op.operands, Call.operands]))
  obtain ⟨A, n, hu⟩ : ∃ A n, a.eval x = .slice A n m := by
    rcases hx with ⟨id, e, z, xs, ys, e1, e2, rfl⟩ | ⟨tg, sz, xs, ys, e1, rfl⟩
    · rw [e1] at h1
      obtain ⟨A, hA⟩ := hR.row_cap e2
      exact ⟨A, _, h1.2.1.trans hA⟩
    · rw [e1] at h1
      have h2 : C.Den w (if tg then Γ.t F else Γ.p F) (.sl tg sz xs ys true) (a.eval x) := h1
      simp only [C.Den] at h2
      obtain ⟨A, c, hu, _, _, hc', _⟩ := h2
      rw [hc' trivial] at hu
      exact ⟨A, _, hu⟩
  refine ⟨.int .i64 m, w, hv, F, ?_, hR, rfl, rfl⟩
  simp [execOp, resolve, invoke, builtin, hu, Builtin.cap_, run_underlying (elT_some hel), goInt]
theorem V_cut {t e id n : Nat} {x hi : Operand} {k : IntKind} {m : Int} {z : List C} {xs ys : List (List C)} (hc : opConstOk ⟨some d, .slice t x none (some hi) none, ty, ps, af, gd⟩ = true) (hd : dstOk N ⟨some d, .slice t x none (some hi) none, ty, ps, af, gd⟩ = true)
    (hx : s.ev x = .val (.one (.own id))) (ho : s.ob id = some (.row e z xs ys true)) (hh : s.ev hi = .val (.one (.v (.int k m)))) (hm : m = n) (hn : n ≤ xs.length + ys.length) {e' : Nat} (ht : elT P t = some e') (hy : (tyI P e').isSome = true)
    (hK : K ((s.cut id e z ((xs ++ ys).take n) ((xs ++ ys).drop n) true).put d (.val (.one (.own id))))) : Oper.V P N ⟨some d, .slice t x none (some hi) none, ty, ps, af, gd⟩ s K := by
  subst hm
  refine V_turn (s' := s.cut id e z ((xs ++ ys).take n) ((xs ++ ys).drop n) true) (x := .val (.one (.own id))) hd (fun Γ hv F a w hN hR => ?_) hK
  obtain ⟨y, hy⟩ := Option.isSome_iff_exists.1 hy
  have h1 := hR.ev x (opConst hc (by simp [Op.operands]))
  have h2 := hR.ev hi (opConst hc (by simp [Op.operands]))
  rw [hx] at h1
  rw [hh] at h2
  have h2 := hd_int h2
  obtain ⟨A, hA⟩ := hR.row_cap ho
  refine ⟨.slice A n (xs.length + ys.length), w, _, F, ?_, hR.cut_ ho hn hA, ⟨_, S.sub_ob_same _ _ _ _⟩, by simp, rfl⟩
  have h3 : a.eval x = .slice A xs.length (xs.length + ys.length) := h1.2.1.trans hA
  simp only [execOp, Option.map_some, h2, h3]
  simp [run_cut ht hy hn]
/-- A frozen slice, cut from the front to 'n'. -/
theorem V_cut_sl {t sz n : Nat} {x hi : Operand} {k : IntKind} {m : Int} {tg ex : Bool} {xs ys : List (List C)} (hc : opConstOk ⟨some d, .slice t x none (some hi) none, ty, ps, af, gd⟩ = true) (hd : dstOk N ⟨some d, .slice t x none (some hi) none, ty, ps, af, gd⟩ = true)
    (hx : s.ev x = .val (.one (.sl tg sz xs ys ex))) (hh : s.ev hi = .val (.one (.v (.int k m)))) (hm : m = n) (hn : n ≤ xs.length + ys.length) {e' : Nat} (ht : elT P t = some e') (hy : (tyI P e').isSome = true)
    (hK : K (s.put d (.val (.one (.sl tg sz ((xs ++ ys).take n) ((xs ++ ys).drop n) ex))))) : Oper.V P N ⟨some d, .slice t x none (some hi) none, ty, ps, af, gd⟩ s K := by
  subst hm
  refine V_turn (s' := s) (x := .val (.one (.sl tg sz ((xs ++ ys).take n) ((xs ++ ys).drop n) ex))) hd (fun Γ hv F a w hN hR => ?_) hK
  obtain ⟨y, hy⟩ := Option.isSome_iff_exists.1 hy
  have h1 := hR.ev x (opConst hc (by simp [Op.operands]))
  have h2 := hR.ev hi (opConst hc (by simp [Op.operands]))
  rw [hx] at h1
  rw [hh] at h2
  have h2 := hd_int h2
  have h3 : C.Den w (if tg then Γ.t F else Γ.p F) (.sl tg sz xs ys ex) (a.eval x) := h1
  simp only [C.Den] at h3
  obtain ⟨A, c, hu, hlc, hall, hcap, hr⟩ := h3
  have hlt : ((xs ++ ys).take n).length = n := by rw [List.length_take, List.length_append]; omega
  refine ⟨.slice A n c, w, hv, F, ?_, hR, ?_⟩
  · simp only [execOp, Option.map_some, h2, hu]
    simp [run_cut ht hy (show n ≤ c by omega)]
  · show C.Den w (if tg then Γ.t F else Γ.p F) (.sl tg sz ((xs ++ ys).take n) ((xs ++ ys).drop n) ex) _
    simp only [C.Den]
    refine ⟨A, c, by rw [hlt], by rw [hlt, List.length_drop, List.length_append]; omega, by rw [List.take_append_drop]; exact hall, fun e => by rw [hlt, List.length_drop, List.length_append, hcap e]; omega, ?_⟩
    rw [List.take_append_drop]
    refine hr.imp (fun x => x) ?_
    rintro ⟨b, o, rfl, hb, h4, h5⟩
    obtain ⟨v1, q1, q2⟩ := h4.vals
    obtain ⟨v2, q3, q4⟩ := h5.vals
    have hl1 : v1.length = xs.length * sz := by rw [(dens_iff.1 q2).1, flat_length (fun e he => hall e (List.mem_append_left _ he))]
    have hcell : ∀ (j : Nat) v, (v1 ++ v2)[j]? = some v → w.cell? ⟨b, o + j, none⟩ = some v := fun j v hj => by
      by_cases hjl : j < v1.length
      · rw [List.getElem?_append_left hjl] at hj; exact q1 j v hj
      · rw [List.getElem?_append_right (by omega)] at hj
        have := q3 _ v hj
        rwa [show o + xs.length * sz + (j - v1.length) = o + j by omega] at this
    have hden : Dens w (if tg then Γ.t F else Γ.p F) (xs ++ ys).flatten (v1 ++ v2) := by rw [List.flatten_append]; exact q2.append q4
    refine ⟨b, o, rfl, hb, Rows.mk (vals := (v1 ++ v2).take (n * sz)) (fun j v hj => ?_) ?_, ?_⟩
    · rw [List.getElem?_take] at hj
      split at hj
      · exact hcell j v hj
      · cases hj
    · rw [flat_take n hall]
      have := hden.slice 0 (n * sz)
      simpa using this
    · rw [hlt]
      refine Rows.mk (vals := (v1 ++ v2).drop (n * sz)) (fun j v hj => ?_) ?_
      · rw [List.getElem?_drop] at hj
        have := hcell _ v hj
        rwa [← Nat.add_assoc] at this
      · rw [← flat_drop n hall]
        exact hden.drop_ (n * sz)
end
section
variable {P : Program} {Γ : Fr} {hv : Nat → Value} {F : Nat → Prop} {s : S} {a : Act} {w : World}
theorem R.setRow_ (h : R Γ hv F s a w) {id e g : Nat} {z : List C} {xs ys : List (List C)} {ex : Bool} (ho : s.ob id = some (.row e z xs ys ex)) (hg : hb (hv id) = some g) :
    ∃ cap cur vals rest, hv id = .slice (some ⟨g, 0, none⟩) xs.length cap ∧ w.heap[g]? = some (.cells cur e (0, 0)) ∧ cur.toList = vals ++ rest ∧ HDs hv s.live w (Γ.t F) (Γ.p F) xs.flatten vals ∧ vals.length = xs.length * z.length ∧
      ∀ (xs' : List (List C)) (vals' : List Value), xs'.length = xs.length → (∀ x ∈ xs', x.length = z.length) → HDs hv s.live w (Γ.t F) (Γ.p F) xs'.flatten vals' → R Γ hv F (s.setOb id (.row e z xs' ys ex)) a (w.setRow g (vals' ++ rest).toArray) := by
  obtain ⟨h0, hall, hex, vals, rest, hown, hden, hrest⟩ := h.obs id _ ho
  rcases hown with ⟨e1, _⟩ | ⟨g', cap, cur, e1, e3, e4, e5, e6, e7, e8⟩
  · rw [e1] at hg; simp [hb] at hg
  · rw [e1] at hg
    simp only [hb, Option.some.injEq] at hg
    subst hg
    refine ⟨cap, cur, vals, rest, e1, e3, e7, hden, e8, fun xs' vals' hl hall' hd' => ?_⟩
    have hvl : vals'.length = xs.length * z.length := by rw [hd'.1, flat_length hall', hl]
    have hne : ∀ b, Γ.t F b → (w.setRow g' (vals' ++ rest).toArray).heap[b]? = w.heap[b]? := fun b hb' => setRow_other w g' b _ (h.t_ne ho hb' (by rw [e1]; rfl))
    refine h.setOb_ ho (row := some g') (by rw [e1]; rfl) grown_setRow ?_
    have hcl : cur.toList.length = cap * z.length := by rw [Array.length_toList]; exact e6
    rw [e7, List.length_append] at hcl
    refine ⟨h0, fun x hx => (List.mem_append.1 hx).elim (hall' x) (fun hx => hall x (List.mem_append_right _ hx)), hex, vals', rest, ?_, hd'.turn (hv' := hv) (live' := s.live) (fun i hl => ⟨hl, rfl⟩) h.pt hne, ?_⟩
    · rw [hl]
      refine .inr ⟨g', cap, _, e1, setRow_heap w g' cur _ _ _ e3, e4, e5, ?_, rfl, hvl⟩
      simp; omega
    · cases ex
      · exact hrest
      · simp only [if_true] at hrest ⊢
        exact hrest.turn (hv' := hv) (live' := s.live) (fun i hl => ⟨hl, rfl⟩) h.pt hne
theorem setOb_same {id : Nat} {o : Ob} (h : s.ob id = some o) : s.setOb id o = s := by
  unfold S.setOb
  have : (fun i => if i = id then some o else s.ob i) = s.ob := by
    funext i
    split
    · rename_i e; rw [e, h]
    · rfl
  rw [this]
theorem run_copy_at (t t' ty e : Nat) (y : TyI) (ht : elT P t = some e) (hy : tyI P e = some y) {g dLen dCap o n c k : Nat} {ad : Addr} {cur : Array Value} {news : List Value} (hg : w.heap[g]? = some (.cells cur e (0, 0))) (hk : k = Nat.min n dLen)
    (hl : news.length = k * y.sz) (hnews : ∀ (j : Nat) v, news[j]? = some v → w.cell? (ad.add j) = some v) (hfit : news.length ≤ cur.size) (h1 : ∀ u ∈ news, u.oneCell' = true) (ho : o = 0) :
    (Builtin.copy_ #[t, t'] ty #[.slice (some ⟨g, o, none⟩) dLen dCap, .slice (some ad) n c]).run P w = .ok (goInt k) (w.setRow g (news ++ cur.toList.drop news.length).toArray) := by
  subst ho
  obtain ⟨i, d', hi, _, hsz, _, _⟩ := tyI_some hy
  have hf := run_firstCells_some (P := P) w y.sz k ad n c news hl hnews
  have hst := run_storeCells_at P g 0 e news 0 cur w hg (by simpa using hfit) h1
  simp only [Nat.add_zero, Nat.zero_add, List.take_zero, List.nil_append] at hst
  simp only [Builtin.copy_, List.getElem?_toArray, List.getElem?_cons_zero, List.getElem?_cons_succ, Sem.run_bind, run_underlying (elT_some ht), Result.andThen_ok, Builtin.lenOf, Sem.run_pure, run_sizeOf' hy]
  rw [← hk, hf]
  simp only [Result.andThen_ok, hst]
theorem R.copy_ok (h : R Γ hv F s a w) {id e : Nat} {z : List C} {xs ys ns : List (List C)} {ex : Bool} {yv : TyI} {t t' ty sz : Nat} {u : Value} {x : SV} (hob : s.ob id = some (.row e z xs ys ex)) (hel : elT P t = some e) (hy : tyI P e = some yv) (hsz : yv.sz = z.length)
    (hx : x.HD hv s.live w (Γ.t F) (Γ.p F) u) (he : s.srcC id x = some (sz, ns)) (hyz : ns = [] ∨ sz = z.length) :
    ∃ w', (Builtin.copy_ #[t, t'] ty #[hv id, u]).run P w = .ok (goInt (min ns.length xs.length : Nat)) w' ∧ R Γ hv F (s.setOb id (.row e z (ns.take xs.length ++ xs.drop ns.length) ys ex)) a w' := by
  obtain ⟨A, c, rfl, hall, nv, hd, hA⟩ := h.src_ok hx he
  obtain ⟨h0, hallx, _, _⟩ := h.obs id _ hob
  have hallx' : ∀ e ∈ xs, e.length = z.length := fun e he => hallx e (List.mem_append_left _ he)
  have hall' : ∀ e ∈ ns, e.length = z.length := by
    rcases hyz with rfl | rfl
    · simp
    · exact hall
  have hnl : nv.length = ns.length * z.length := by rw [hd.1, flat_length hall']
  obtain ⟨A0, c0, hv0, _, hA0⟩ := h.row_slice hob
  rcases hA0 with rfl | ⟨g, rfl⟩
  · -- no room at all
    have hx0 : xs = [] := by
      obtain ⟨_, _, _, vals, rest, hat, _⟩ := h.obs id _ hob
      rcases hat with ⟨_, e2, _⟩ | ⟨g, cap, cur, e1, _⟩
      · exact List.eq_nil_of_length_eq_zero e2
      · rw [hv0] at e1; cases e1
    subst hx0
    refine ⟨w, ?_, by simpa [setOb_same hob] using h⟩
    rw [hv0]
    have hf : (Builtin.firstCells yv.sz 0 (.slice A ns.length c)).run P w = .ok #[] w := by
      cases A with
      | none => exact run_firstCells_none ..
      | some ad => exact run_firstCells_some (P := P) w yv.sz 0 ad ns.length c [] (by simp) (by simp)
    simp [Builtin.copy_, run_underlying (elT_some hel), Builtin.lenOf, run_sizeOf' hy, hf]
  · obtain ⟨cap, cur, vals, rest, e1, e2, e3, e4, e5, hset⟩ := h.setRow_ hob (g := g) (by rw [hv0]; rfl)
    rw [e1]
    have hcl : cur.size = (vals ++ rest).length := by rw [← e3, Array.length_toList]
    rcases hA with ⟨rfl, rfl⟩ | ⟨ad, rfl, hcells⟩
    · refine ⟨w, ?_, by simpa [setOb_same hob] using h⟩
      simp [Builtin.copy_, run_underlying (elT_some hel), Builtin.lenOf, run_sizeOf' hy, run_firstCells_none, storeCells]
    · have hk : (nv.take (xs.length * z.length)).length = (Nat.min ns.length xs.length) * yv.sz := by
        rw [List.length_take, hnl, hsz, Nat.min_comm]
        exact (Nat.mul_min_mul_right ..)
      have hle : Nat.min ns.length xs.length ≤ xs.length := Nat.min_le_right _ _
      have hr := run_copy_at (P := P) (w := w) t t' ty e yv hel hy (dLen := xs.length) (dCap := cap) (c := c) (n := ns.length) (ad := ad) e2 rfl hk (fun j v hj => by
        rw [List.getElem?_take] at hj
        split at hj
        · exact hcells j v hj
        · cases hj) (by rw [hk, hcl, hsz, List.length_append, e5]; exact Nat.le_trans (Nat.mul_le_mul_right _ hle) (Nat.le_add_right _ _)) (fun u hu => hd.one u (List.mem_of_mem_take hu)) rfl
      refine ⟨_, hr, ?_⟩
      have hlen : (ns.take xs.length ++ xs.drop ns.length).length = xs.length := by simp; omega
      have e6 : (nv.take (xs.length * z.length) ++ cur.toList.drop (nv.take (xs.length * z.length)).length) = (nv.take (xs.length * z.length) ++ vals.drop (ns.length * z.length)) ++ rest := by
        rw [List.append_assoc]
        congr 1
        rw [e3, List.length_take, hnl]
        by_cases hcmp : ns.length ≤ xs.length
        · have h1 : ns.length * z.length ≤ xs.length * z.length := Nat.mul_le_mul_right _ hcmp
          rw [Nat.min_eq_right h1, List.drop_append_of_le_length (by omega)]
        · have h1 : xs.length * z.length ≤ ns.length * z.length := Nat.mul_le_mul_right _ (by omega)
          rw [Nat.min_eq_left h1, ← e5, List.drop_left, List.drop_eq_nil_of_le (by omega), List.nil_append]
      rw [e6]
      refine hset _ _ hlen (fun x hx => ?_) ?_
      · rcases List.mem_append.1 hx with hx | hx
        · exact hall' x (List.mem_of_mem_take hx)
        · exact hallx' x (List.mem_of_mem_drop hx)
      · rw [List.flatten_append, flat_take _ hall', ← flat_drop _ hallx']
        have d1 := hd.slice 0 (xs.length * z.length)
        simp only [List.drop_zero] at d1
        exact d1.append (e4.drop_ _)
end
section
variable {P : Program} {N ty : Nat} {dd : Option Nat} {ps : String} {af : Array Edge} {gd : Option (Nat × Bool)} {s : S} {K : S → Prop}
theorem V_copy {x y : Operand} {t t' e id sz : Nat} {z : List C} {xs ys ns : List (List C)} {ex : Bool} {yv : TyI} (hc : opConstOk ⟨dd, .call ⟨.builtin .copy, #[x, y], #[t, t']⟩, ty, ps, af, gd⟩ = true) (hd : dstOk N ⟨dd, .call ⟨.builtin .copy, #[x, y], #[t, t']⟩, ty, ps, af, gd⟩ = true)
    (hx : s.ev x = .val (.one (.own id))) (hob : s.ob id = some (.row e z xs ys ex)) (hsrc : s.srcC id (s.ev y) = some (sz, ns)) (hel : elT P t = some e) (hy : tyI P e = some yv) (hsz : yv.sz = z.length) (hyz : ns = [] ∨ sz = z.length)
    (hK : K ((s.setOb id (.row e z (ns.take xs.length ++ xs.drop ns.length) ys ex)).dst dd (.val (.one (.v (.int .i64 (min ns.length xs.length : Nat))))))) : Oper.V P N ⟨dd, .call ⟨.builtin .copy, #[x, y], #[t, t']⟩, ty, ps, af, gd⟩ s K := by
  refine V_turn (s' := s.setOb id (.row e z (ns.take xs.length ++ xs.drop ns.length) ys ex)) (x := .val (.one (.v (.int .i64 (min ns.length xs.length : Nat))))) hd (fun Γ hv F a w hN hR => ?_) hK
  have h1 := hR.ev x (opConst hc (by simp [Op.operands, Call.operands]))
  have h2 := hR.ev y (opConst hc (by simp [Op.operands, Call.operands]))
  rw [hx] at h1
  obtain ⟨w', h3, h4⟩ := hR.copy_ok (P := P) (t := t) (t' := t') (ty := ty) hob hel hy hsz h2 hsrc hyz
  refine ⟨_, w', hv, F, ?_, h4, rfl, rfl⟩
  rw [← h1.2.1] at h3
  simp only [execOp, resolve, List.map_toArray, List.map_cons, List.map_nil, Sem.run_bind, Sem.run_pure, Result.andThen_ok, invoke, builtin, h3, goInt]
end
theorem vo_of {P : Program} {N ty : Nat} {dd : Option Nat} {op : Op} {ps : String} {af : Array Edge} {gd : Option (Nat × Bool)} {s : S} {K : S → Prop} (h : isHard op = true) (hV : Oper.V P N ⟨dd, op, ty, ps, af, gd⟩ s K) : vo P N ⟨dd, op, ty, ps, af, gd⟩ s K := by
  rw [vo_hard _ _ _ _ _ _ _ _ _ _ h]; exact hV
/-! ### rows of plain values -/
/-- A list, each element laid out as some plain values. -/
def rows {α : Type} (f : α → List Value) (l : List α) : List (List C) := l.map fun x => (f x).map C.v
section
variable {α : Type} (f : α → List Value)
@[simp] theorem rows_len (l : List α) : (rows f l).length = l.length := by simp [rows]
@[simp] theorem rows_nil : rows f [] = [] := rfl
theorem rows_cons (x : α) (l : List α) : rows f (x :: l) = (f x).map C.v :: rows f l := rfl
@[simp] theorem rows_app (l l' : List α) : rows f (l ++ l') = rows f l ++ rows f l' := by simp [rows]
@[simp] theorem rows_sub (id : Nat) (g : C → C) (l : List α) : subR id g (rows f l) = rows f l := by simp [rows, subR, Function.comp_def]
@[simp] theorem rows_rt (t : Bool) (l : List α) : (rows f l).map (List.map (C.rt t)) = rows f l := by simp [rows, Function.comp_def]
@[simp] theorem rows_ren (μ : Ren) (l : List α) : (rows f l).map (List.map (C.lift (C.ren0 μ))) = rows f l := by simp [rows, Function.comp_def, C.lift, C.ren0]
@[simp] theorem rows_out (s : S) (ρ : Ren) (k : Nat) (l : List α) : (rows f l).map (List.map (C.lift (C.out0 s ρ k))) = rows f l := by simp [rows, Function.comp_def, C.lift, C.out0]
@[simp] theorem rows_drop0 (b : Nat → Bool) (l : List α) : (rows f l).map (List.map (C.lift (C.drop0 b))) = rows f l := by simp [rows, Function.comp_def, C.lift, C.drop0]
@[simp] theorem rows_frz (s : S) (ln : Nat → Bool) (k : Nat) (l : List α) : (rows f l).map (List.map (C.frz s ln k)) = rows f l := by
  have : ∀ v, C.frz s ln k (.v v) = .v v := fun v => by cases k <;> rfl
  simp [rows, Function.comp_def, this]
@[simp] theorem rows_fz (l : List α) : fzR (rows f l) = rows f l := by simp [fzR, rows, Function.comp_def, C.fzc, C.st]
theorem rows_get {l : List α} {i : Nat} {x : α} (h : l[i]? = some x) : (rows f l)[i]? = some ((f x).map C.v) := by simp [rows, h]
theorem rows_get? (l : List α) (i : Nat) : (rows f l)[i]? = (l[i]?).map fun x => (f x).map C.v := by simp [rows]
theorem rows_set (l : List α) (i : Nat) (x : α) : (rows f l).set i ((f x).map C.v) = rows f (l.set i x) := by simp [rows, List.map_set]
@[simp] theorem rows_take (l : List α) (n : Nat) : (rows f l).take n = rows f (l.take n) := by simp [rows]
@[simp] theorem rows_drop (l : List α) (n : Nat) : (rows f l).drop n = rows f (l.drop n) := by simp [rows]
theorem rows_rep (n : Nat) (x : α) : List.replicate n ((f x).map C.v) = rows f (List.replicate n x) := by simp [rows]
theorem rows_kinds {z : List C} (h : ∀ (x : α) (j : Nat) v, (f x)[j]? = some v → kindC (z.getD j .un) (.v v) = true) (l : List α) : kindsC z (rows f l) := by
  intro y hy j c hc
  obtain ⟨x, _, rfl⟩ := List.mem_map.1 hy
  rw [List.getElem?_map] at hc
  obtain ⟨v, hv, rfl⟩ := Option.map_eq_some_iff.1 hc
  exact h x j v hv
end
abbrev vi (n : Int) : C := .v (.int .i64 n)
abbrev vu (n : Int) : C := .v (.int .u8 n)
abbrev vb (b : Bool) : C := .v (.bool b)
def ints : List Int → List (List C) := rows fun n => [.int .i64 n]
def bytes : List Int → List (List C) := rows fun n => [.int .u8 n]
def bools : List Bool → List (List C) := rows fun b => [.bool b]
end Go.Eng
