/- The given statement is proved here. Conditions: none. -/
import Derived.Test.YtjjmomkjjdilnaaRows
import Derived.Test.YtjjmomkjjdilnaaL3
import Derived.WalkKit
import Derived.ProofKit
import Derived.OpenShut
import Derived.ShutString
import Derived.ChangeOld
import Derived.Below
import Derived.SizedLaws
set_option linter.all false
namespace Go.Proofs.Ytjjmomkjjdilnaa.guardStore
open Go.ChangeShapes Go.WideShapes Go.ChangeAt Go.RowKit Go.Eng
open Go.ChangeMaps (open_string shut_string)
theorem own : ownKnob Try.prog.godebug = none := by kernel_rfl
theorem laidOut : laidOutB Try.prog = true := by kernel_rfl
theorem walk {H : Type} {enc : TypeId × Value → H} {held : Bool} (w : World) (n : Int) (v : Value) (fuel : Nat) (y : DataW H × List MemPlace) (h : DataW.trod enc Try.prog w 0 (fun _ => true) held fuel 22 v.cells.toList = some y) (hv : v.cells = #[v]) :
    Calls Try.prog 3 #[.int .i64 n, v] w fun e w' => e = .returned (.bool true) ∧ Below w.heap.size w w' := by
  obtain ⟨c, ⟨xs, ys, rfl, hE⟩, hr⟩ := reads_slice (sz := 1) (fun c => ∃ xs ys : List (List C), c = [.sl false 1 xs ys true] ∧ ∀ x ∈ xs ++ ys, ∃ m, x = [.v (.int .i64 m)] ∧ (Lit.int .i64 m).wf = true) (by decide) Try.underlying22 (by kernel_rfl)
    (fun n cs y h _ => reads_slice (sz := 1) _ (by decide) Try.underlying30 (by kernel_rfl) (fun n cs y h _ => reads_int Try.underlying3 h) h) h
  have hls : ∀ zs : List (List C), (∀ x ∈ zs, ∃ xs ys : List (List C), x = [.sl false 1 xs ys true] ∧ ∀ x ∈ xs ++ ys, ∃ m, x = [.v (.int .i64 m)] ∧ (Lit.int .i64 m).wf = true) → ∃ ls, zs = listsC ls := fun zs => by
    induction zs with
    | nil => intro _; exact ⟨[], rfl⟩
    | cons z zs ih =>
      intro hz
      obtain ⟨ls, rfl⟩ := ih fun x hx => hz x (by simp [hx])
      obtain ⟨x1, y1, rfl, h1⟩ := hz z (by simp)
      obtain ⟨l, rfl, _⟩ := rows_of_ints (xs := x1) fun x hx => h1 x (by simp [hx])
      exact ⟨(⟨false, y1, true⟩, l) :: ls, rfl⟩
  obtain ⟨ls, rfl⟩ := hls xs fun x hx => hE x (by simp [hx])
  refine calls_of_does (guardStore_walk false ys true n ls) rfl rfl fun t x u hx hu => ?_
  match t with
  | 0 => simp at hx hu; subst hx hu; exact ⟨rfl, rfl⟩
  | 1 =>
    simp at hx hu
    subst hx hu
    rw [hv] at hr
    exact hr.2 0 _ _ rfl rfl
  | t + 2 => simp at hx
set_option maxRecDepth 100000 in
theorem lifted (os : Os) (started : os.Started) (H : Type) (enc : TypeId × Value → H) :
    ReturnsInHanded {} Try.checked os 3 .any (Rows.guardStoreSpec.pre6 enc Try.prog Try.f3 Rows.guardStoreRow.domain false) (Rows.guardStoreSpec.post enc Try.prog Try.f3 false true false false) := by
  refine returnsInHanded_of_change_sized (C := Try.checked) own started (by kernel_rfl) Try.func3
    (ChangeSpec.witness6 (enc := enc) (C := Try.checked) false ⟨#[], #[.int .i64 0, .slice none 0 0], []⟩ 8 (by kernel_rfl) (by kernel_rfl) (by kernel_rfl) (by kernel_rfl)) ?_
  intro W base args ds gs before hval0 hW hcnd hsz0 _
  have hsz : (DataW.weightsEach Try.prog (Try.f3.params.toList ++ Rows.guardStoreSpec.plain.varTypes Try.prog) (ds ++ gs)).all (· ≤ reachBytes) = true := hsz0
  have hval : ∀ (j : Nat) t v, Try.f3.params[j]? = some t → args[j]? = some v → Value.okWide Try.prog W .any base t v := hval0
  have hW' := hW
  obtain ⟨p, q, hA0, hV, rfl, hfz, hnd⟩ := hW
  have hA : DataW.TrodAll enc Try.prog W 0 (fun _ => true) true Try.f3.params.toList args.toList ds p := hA0
  rw [Try.params3] at hA hval hsz
  obtain ⟨v0, vs0, d0, ds0, p0, q0, hargs, rfl, rfl, h0, r0⟩ := trodAll_cons hA
  obtain ⟨v1, vs1, d1, ds1, p1, q1, rfl, rfl, rfl, h1, r1⟩ := trodAll_cons r0
  obtain ⟨rfl, rfl, rfl⟩ := trodAll_nil r1
  obtain rfl : args = #[v0, v1] := by cases args; simp_all
  obtain ⟨rfl, rfl⟩ := trodVars_none hV
  obtain ⟨a0, rfl, rfl, rfl, w0⟩ := open_int Try.underlying3 (hval 0 3 v0 rfl rfl) h0
  obtain ⟨a1, len1, cap1, rfl⟩ := okWide_slice Try.underlying22 (hval 1 22 v1 rfl rfl)
  have k1 := h1
  have lt1 : ∀ x ∈ p1, x.block < W.heap.size := by obtain ⟨m, hm⟩ := k1; exact DataW.trod_lt m _ _ _ hm
  clear hA0 hval0 hsz0 hsz
  obtain ⟨fuel, hf⟩ := h1
  refine (walk W a0 (.slice a1 len1 cap1) fuel _ hf rfl).mono fun e W' ⟨he, bel⟩ => ?_
  subst he
  exact ⟨_, rfl, _, _, _, [], _, [], hW', trodAll_mk1 (shut_bool Try.underlying4 _), (trodAll_cons_mk (shut_int Try.underlying3 w0) (trodAll_cons_mk (Below.trod laidOut (by kernel_rfl) (of_decide_eq_true (by kernel_rfl)) k1 bel lt1) trodAll_mk0)), rfl, bel.frame _, fun h => by cases h⟩
theorem over : Rows.guardStoreRow.holds Try.pinned (OpenSpec.ofChange Rows.guardStoreSpec) :=
  OpenClaim.holds_of_wide 3 Try.f3 rfl rfl rfl rfl rfl rfl rfl ⟨rfl, rfl, rfl, rfl, rfl⟩ rfl rfl rfl rfl rfl (by kernel_rfl) Try.func3 (by kernel_rfl)
    (of_decide_eq_true (by kernel_rfl)) (by unfold Func.isWrapper; first | (rw [if_pos (by decide +kernel)]; kernel_rfl) | (rw [if_neg (by decide +kernel)]; exact ⟨rfl, rfl⟩))
    (fun os started H enc _ => lifted os started H enc)
theorem proved : Rows.GuardStoreSaid := over
end Go.Proofs.Ytjjmomkjjdilnaa.guardStore
namespace Go.Proofs.Ytjjmomkjjdilnaa
/-- The row, under a short name, for the claim. -/
theorem guardStore_holds : Rows.GuardStoreSaid := guardStore.proved
end Go.Proofs.Ytjjmomkjjdilnaa
#print axioms Go.Proofs.Ytjjmomkjjdilnaa.guardStore_holds
