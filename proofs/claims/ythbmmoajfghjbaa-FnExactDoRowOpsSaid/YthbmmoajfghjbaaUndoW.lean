/- UndoRowOps: both walks; how a slice of operations is opened. -/
import Derived.Test.YthbmmoajfghjbaaOpsW
import Derived.ProofKit
import Derived.Deep.Slices
import Derived.Deep.Fields
import Derived.ChangeSame
namespace Go.Proofs.Ythbmmoajfghjbaa
set_option linter.unusedSimpArgs false
set_option linter.unusedVariables false
open Go.RowKit Go.Joins Go.ChangeShapes Go.WideShapes Go.Deep
def SlXArg (w : World) (A : Option Addr) (n cap : Nat) (cs : List Int) : Prop := cs.length = n * 4 ∧ n ≤ maxLen ∧ SlX w A n cs
theorem list_of {p : Nat → Int → Prop} : ∀ n : Nat, (∀ q, q < n → ∃ x, p q x) → ∃ cs : List Int, cs.length = n ∧ ∀ q, q < n → p q (cs.getD q 0)
  | 0, _ => ⟨[], rfl, fun q h => by omega⟩
  | n + 1, h => by
    obtain ⟨cs, hl, hc⟩ := list_of n (fun q hq => h q (by omega))
    obtain ⟨x, hx⟩ := h n (by omega)
    refine ⟨cs ++ [x], by simp [hl], fun q hq => ?_⟩
    by_cases hqn : q = n
    · subst hqn
      rw [show (cs ++ [x]).getD q 0 = x by simp [List.getD, ← hl]]
      exact hx
    · rw [show (cs ++ [x]).getD q 0 = cs.getD q 0 by simp [List.getD, List.getElem?_append, show q < cs.length by omega]]
      exact hc q (by omega)
theorem opFields : ∃ fs : Array Field, Try.prog.underlying 34 = some (.struct fs) ∧ oneCellFields Try.prog fs = true ∧ fs.size = 4 ∧ ∀ (j : Nat) (f : Field), fs[j]? = some f → f.type = 3 := by
  refine ⟨_, Try.underlying34, by kernel_rfl, rfl, fun j f h => ?_⟩
  rcases (by have := (Array.getElem?_eq_some_iff.1 h).1; simp at this; omega : j = 0 ∨ j = 1 ∨ j = 2 ∨ j = 3) with rfl | rfl | rfl | rfl <;> (simp at h; subst h; rfl)
theorem open_SlOp {H : Type} {enc : TypeId × Value → H} {w : World} {base : Nat} {spare : Nat → Bool} {held : Bool} {fuel : Nat} {v : Value} {y : DataW H × List MemPlace}
    (h : DataW.trod enc Try.prog w base spare held fuel 22 [v] = some y) :
    ∃ A n cap cs, v = .slice A n cap ∧ SlXArg w A n cap cs := by
  obtain ⟨fs, he, hone, hsz, hty⟩ := opFields
  have hC : Try.prog.cellsOf 34 = 4 := by kernel_rfl
  rcases open_slice Try.underlying22 h with ⟨hcs, _⟩ | ⟨a, len, cap, m, n, D, Pl, hcs, _, hl, hm, hmm, _, hi⟩
  · simp only [List.cons.injEq, and_true] at hcs
    exact ⟨none, 0, 0, [], hcs, rfl, by simp, fun h => absurd h (by simp)⟩
  · simp only [List.cons.injEq, and_true] at hcs
    have hml : len ≤ m := by rw [hmm]; split <;> omega
    have key : ∀ q, q < len * 4 → ∃ x : Int, w.cell? (a.add q) = some (.int .i64 x) := by
      intro q hq
      obtain ⟨cs', hc, ht'⟩ := hi (q / 4) (by omega)
      rw [hC] at hc
      obtain ⟨ys, n', _, _, _, _, hf⟩ := DataW.trod_struct he ht'
      obtain ⟨_, hcl, hat⟩ := World.cells?_some hc
      have hj : q % 4 < fs.size := by omega
      have hff : fs[q % 4]? = some (fs[q % 4]'hj) := Array.getElem?_eq_getElem hj
      obtain ⟨ho, hk⟩ := hone_of hone _ _ hff
      have h1 := hf _ _ hff
      have hcl4 : q % 4 < cs'.length := by omega
      rw [ho, hk, List.drop_eq_getElem_cons hcl4, List.take_succ_cons, List.take_zero, hty _ _ hff] at h1
      have hlt : q % 4 < ys.length := by omega
      rw [List.getElem?_eq_getElem hlt] at h1
      obtain ⟨x, ex, _, _⟩ := DataW.trod_int Try.underlying3 h1
      simp only [List.cons.injEq, and_true] at ex
      have hcell := hat (q % 4) (by omega)
      rw [add_add, List.getElem?_eq_getElem hcl4, ex, show q / 4 * 4 + q % 4 = q by omega] at hcell
      exact ⟨x, hcell⟩
    obtain ⟨cs, hcl, hcs'⟩ := list_of (len * 4) key
    refine ⟨some a, len, cap, cs, hcs, hcl, by omega, fun hp => ?_⟩
    obtain ⟨b, off, spot⟩ := a
    have h0 := hcs' 0 (by omega)
    have hspot : spot = none := by simpa [Addr.add] using World.cell?_spot h0
    subst hspot
    refine ⟨b, off, rfl, fun i hi' => ?_⟩
    have := hcs' i hi'
    rwa [addr_add] at this
/-- What undoes the operation number i. -/
def undoC (cs : List Int) (i : Nat) : List Int := [cs.getD (i * 4) 0, cs.getD (i * 4 + 1) 0, cs.getD (i * 4 + 2) 0, undoT (cs.getD (i * 4) 0) (cs.getD (i * 4 + 3) 0)]
/-- The first m operations that undo n ones. -/
def undoN (cs : List Int) (n : Nat) : Nat → List Int
  | 0 => []
  | m + 1 => undoN cs n m ++ undoC cs (n - 1 - m)
def RetO (w : World) (n : Nat) (cs : List Int) (e : Ending) (w' : World) : Prop := ∃ s, e = .returned s ∧ OwnX w' w.heap.size s n cs ∧ Below w.heap.size w w'
set_option maxHeartbeats 2000000 in
theorem implUndo (A : Option Addr) (c n : Nat) (cs : List Int) (w : World) (hA : SlX w A n cs) (hn : n ≤ 1048576) :
    Calls Try.prog 10 #[.slice A n c] w (RetO w n (undoN cs n n)) := by
  have HA := hide hA
  clear hA
  go_enter Try.func10, Try.ntmps10
  go_wp2
  go_loopw [3, 4] (fun v i wr => ∃ (m : Nat) (v0 : Value), m ≤ n ∧ v0 = v ∧ i = .int .i64 ((n : Int) - 1 - m) ∧ OwnX wr w.heap.size v0 m (undoN cs n m) ∧ Below w.heap.size w wr) (fun _ i _ => (intOf i + 1).toNat)
  case atStart => exact ⟨0, _, Nat.zero_le _, rfl, by go_num, ownX_empty w _ rfl, Below.alloc (Below.refl _ _) (Nat.le_refl _) _⟩
  case round =>
    obtain ⟨m, v0, hm, rfl, rfl, ho, hB⟩ := hrel
    have HO := hide ho
    have hsz := hB.size
    clear ho
    by_cases hlt : m < n
    · obtain ⟨p, hp⟩ : ∃ p : Nat, p = n - 1 - m := ⟨_, rfl⟩
      have hpn : p < n := by omega
      obtain ⟨g, off, rfl, c0, c1, c2, c3⟩ := HA.out.at4 hpn
      have h0 := kc_call c0 hB
      have h1 := kc_call c1 hB
      have h2 := kc_call c2 hB
      have h3 := kc_call c3 hB
      have hs : undoN cs n (m + 1) = undoN cs n m ++ undoC cs p := by rw [undoN, ← hp]
      unfold undoC at hs
      obtain ⟨x0, e0⟩ : ∃ x, cs.getD (p * 4) 0 = x := ⟨_, rfl⟩
      obtain ⟨x1, e1⟩ : ∃ x, cs.getD (p * 4 + 1) 0 = x := ⟨_, rfl⟩
      obtain ⟨x2, e2⟩ : ∃ x, cs.getD (p * 4 + 2) 0 = x := ⟨_, rfl⟩
      obtain ⟨x3, e3⟩ : ∃ x, cs.getD (p * 4 + 3) 0 = x := ⟨_, rfl⟩
      rw [e0] at h0 hs
      rw [e1] at h1 hs
      rw [e2] at h2 hs
      rw [e3] at h3 hs
      have HSN := hide hs
      have hpi : (n : Int) - 1 - (m : Int) = (p : Int) := by omega
      rw [hpi]
      have d0 : (0 : Int) ≤ (p : Int) := by omega
      have d1 : (p : Int) < (n : Int) := by omega
      have HPI := hide hpi
      clear c0 c1 c2 c3 e0 e1 e2 e3 hs hp hpi
      go_wp2_with (first
        | (go_at_call 27; refine (implUndoRowOp _ _ _ _ _).mono ?_; rintro e w2 ⟨rfl, hb⟩; have HO2 := hide (HO.out.below hb); have HB2 := hide (kb_call hB (Nat.le_refl _) hb); have hs2 := HB2.out.size; clear hb)
        | (at_builtin; refine wpList_append_op rfl _ _ rfl v0 w.heap.size m (undoN cs n m) rfl (HO2.out.alloc _) w2.heap.size x0 x1 x2 (undoT x0 x3) rfl (by go_simp) (by go_simp) (by go_simp) (by go_simp) (by omega) (by simp; omega) ?_; intro v4 w4 ho4 hg4 _; have HO4 := hide ho4; have HB4 := hide ((HB2.out.alloc hs2 _).grown hg4 (by simp; omega) (fun k hk => (OwnX.lt HO2.out k hk).1)); clear ho4 hg4))
      go_roundw
      case rel => exact ⟨m + 1, v4, by omega, rfl, by have := HPI.out; congr 1; push_cast; omega, by rw [HSN.out]; exact HO4.out, HB4.out⟩
      case measure => simp [intOf] <;> omega
    · have hke : m = n := by omega
      subst hke
      have d0 : ¬ ((0 : Int) ≤ (m : Int) - 1 - (m : Int)) := by omega
      have d1 : (m : Int) - 1 - (m : Int) = -1 := by omega
      rw [d1]
      clear d0 d1
      go_wp2
      go_ret
      exact ⟨v0, rfl, HO.out, hB⟩
set_option maxHeartbeats 2000000 in
theorem specUndo (A : Option Addr) (c n : Nat) (cs : List Int) (w : World) (hA : SlX w A n cs) (hn : n ≤ 1048576) :
    Calls Try.prog 8 #[.slice A n c] w (RetO w n (undoN cs n n)) := by
  have HA := hide hA
  clear hA
  go_enter Try.func8, Try.ntmps8
  go_wp2
  go_loopw [3, 4] (fun v i wr => ∃ (m : Nat) (v0 : Value), m ≤ n ∧ v0 = v ∧ i = .int .i64 ((n : Int) - 1 - m) ∧ OwnX wr w.heap.size v0 m (undoN cs n m) ∧ Below w.heap.size w wr) (fun _ i _ => (intOf i + 1).toNat)
  case atStart => exact ⟨0, _, Nat.zero_le _, rfl, by go_num, ownX_empty w _ rfl, Below.alloc (Below.refl _ _) (Nat.le_refl _) _⟩
  case round =>
    obtain ⟨m, v0, hm, rfl, rfl, ho, hB⟩ := hrel
    have HO := hide ho
    have hsz := hB.size
    clear ho
    by_cases hlt : m < n
    · obtain ⟨p, hp⟩ : ∃ p : Nat, p = n - 1 - m := ⟨_, rfl⟩
      have hpn : p < n := by omega
      obtain ⟨g, off, rfl, c0, c1, c2, c3⟩ := HA.out.at4 hpn
      have h0 := kc_call c0 hB
      have h1 := kc_call c1 hB
      have h2 := kc_call c2 hB
      have h3 := kc_call c3 hB
      have hs : undoN cs n (m + 1) = undoN cs n m ++ undoC cs p := by rw [undoN, ← hp]
      unfold undoC at hs
      obtain ⟨x0, e0⟩ : ∃ x, cs.getD (p * 4) 0 = x := ⟨_, rfl⟩
      obtain ⟨x1, e1⟩ : ∃ x, cs.getD (p * 4 + 1) 0 = x := ⟨_, rfl⟩
      obtain ⟨x2, e2⟩ : ∃ x, cs.getD (p * 4 + 2) 0 = x := ⟨_, rfl⟩
      obtain ⟨x3, e3⟩ : ∃ x, cs.getD (p * 4 + 3) 0 = x := ⟨_, rfl⟩
      rw [e0] at h0 hs
      rw [e1] at h1 hs
      rw [e2] at h2 hs
      rw [e3] at h3 hs
      have HSN := hide hs
      have hpi : (n : Int) - 1 - (m : Int) = (p : Int) := by omega
      rw [hpi]
      have d0 : (0 : Int) ≤ (p : Int) := by omega
      have d1 : (p : Int) < (n : Int) := by omega
      have HPI := hide hpi
      clear c0 c1 c2 c3 e0 e1 e2 e3 hs hp hpi
      go_wp2_with (first
        | (go_at_call 26; refine (specUndoRowOp _ _ _ _ _).mono ?_; rintro e w2 ⟨rfl, hb⟩; have HO2 := hide (HO.out.below hb); have HB2 := hide (kb_call hB (Nat.le_refl _) hb); have hs2 := HB2.out.size; clear hb)
        | (at_builtin; refine wpList_append_op rfl _ _ rfl v0 w.heap.size m (undoN cs n m) rfl (HO2.out.alloc _) w2.heap.size x0 x1 x2 (undoT x0 x3) rfl (by go_simp) (by go_simp) (by go_simp) (by go_simp) (by omega) (by simp; omega) ?_; intro v4 w4 ho4 hg4 _; have HO4 := hide ho4; have HB4 := hide ((HB2.out.alloc hs2 _).grown hg4 (by simp; omega) (fun k hk => (OwnX.lt HO2.out k hk).1)); clear ho4 hg4))
      go_roundw
      case rel => exact ⟨m + 1, v4, by omega, rfl, by have := HPI.out; congr 1; push_cast; omega, by rw [HSN.out]; exact HO4.out, HB4.out⟩
      case measure => simp [intOf] <;> omega
    · have hke : m = n := by omega
      subst hke
      have d0 : ¬ ((0 : Int) ≤ (m : Int) - 1 - (m : Int)) := by omega
      have d1 : (m : Int) - 1 - (m : Int) = -1 := by omega
      rw [d1]
      clear d0 d1
      go_wp2
      go_ret
      exact ⟨v0, rfl, HO.out, hB⟩
end Go.Proofs.Ythbmmoajfghjbaa
