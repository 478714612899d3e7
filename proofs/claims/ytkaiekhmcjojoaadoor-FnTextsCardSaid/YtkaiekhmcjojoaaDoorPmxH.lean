/- What ParseMatrix calls of the library: suffix, fields. -/
import Derived.Test.YtkaiekhmcjojoaaDoorSplW
import Derived.Test.YtkaiekhmcjojoaaDoorMtxL
import Derived.Test.YtkaiekhmcjojoaaDoorFmtN
namespace Go.Proofs.YtkaiekhmcjojoaaDoor
open Go.RowKit
set_option linter.unusedSimpArgs false
set_option linter.unusedVariables false
/-- The text ends in a bracket. -/
def endsB (l : List UInt8) : Bool := decide (l.drop (l.length - 1) = [93])
theorem sliteSuffix (l : List UInt8) (hl : l.length ≤ 1000000000) (w : World) :
    Calls Tryd.prog 68 #[sv l, sv [93]] w fun e w' => e = .returned (.bool (endsB l)) ∧ w = w' := by
  by_cases h0 : l.length = 0
  · have hl0 := List.eq_nil_of_length_eq_zero h0
    subst hl0
    go_enter Tryd.func68, Tryd.ntmps68
    go_wp2
    go_returns
    exact ⟨rfl, rfl⟩
  · obtain ⟨t, ht⟩ : ∃ t, l.drop (l.length - 1) = t := ⟨_, rfl⟩
    have c1 : (1 : Int) ≤ (l.length : Int) := by omega
    have HV : Hid (Value.string ((⟨l.toArray⟩ : ByteArray).extract (l.length - 1) l.length) = sv t) := by
      rw [Hid, ext_val, ht, List.take_of_length_le (by rw [← ht, List.length_drop]; omega)]
    have HB : Hid (endsB l = decide (t = [93])) := by rw [Hid, endsB, ht]
    have hx : (⟨l.toArray⟩ : ByteArray).extract (l.length - 1) l.length = ⟨t.toArray⟩ := by
      have := HV.out
      injection this
    clear ht
    by_cases htt : t = [93]
    · have HT : Hid (endsB l = true) := by rw [Hid, HB.out, decide_eq_true htt]
      rw [HT.out]
      subst htt
      go_enter Tryd.func68, Tryd.ntmps68
      go_wp2
      go_returns
      exact ⟨rfl, rfl⟩
    · have HT : Hid (endsB l = false) := by rw [Hid, HB.out, decide_eq_false htt]
      rw [HT.out]
      have n2 : (t == [93]) = false := by simpa using htt
      go_enter Tryd.func68, Tryd.ntmps68
      go_wp2
      go_returns
      exact ⟨rfl, rfl⟩
theorem strSuffix (l : List UInt8) (hl : l.length ≤ 1000000000) (w : World) :
    Calls Tryd.prog 39 #[sv l, sv [93]] w fun e w' => e = .returned (.bool (endsB l)) ∧ w = w' := by
  go_enter Tryd.func39, Tryd.ntmps39
  go_wp2_with fail
  refine (sliteSuffix l hl _).mono ?_; rintro e w1 ⟨rfl, rfl⟩
  go_wp2
  go_returns
  exact ⟨rfl, rfl⟩
/-- The marks of the program, as runes. -/
def mkR (r : Nat) : Bool := decide (r = 32) || decide (r = 59)
theorem mkR_eq (b : UInt8) : mk2 b = mkR b.toNat := by
  have h : ∀ k : UInt8, (b == k) = decide (b.toNat = k.toNat) := fun k => by
    by_cases h : b = k
    · subst h; simp
    · rw [decide_eq_false (fun e => h (UInt8.toNat_inj.1 e))]; simpa using h
  rw [mk2, mkR, h, h]; rfl
theorem closR (w : World) : PredAt Tryd.prog 41 #[] encR mkR w := fun W r _ => by
  by_cases h1 : r = 32
  · subst h1
    show Calls _ _ _ _ _
    go_enter Tryd.func41, Tryd.ntmps41
    go_wp2
    go_returns
    exact ⟨rfl, 0, rfl⟩
  · by_cases h2 : r = 59
    · subst h2
      show Calls _ _ _ _ _
      go_enter Tryd.func41, Tryd.ntmps41
      go_wp2
      go_returns
      exact ⟨rfl, 0, rfl⟩
    · have e1 : ((r : Int) == 32) = false := by simp; omega
      have e2 : ((r : Int) == 59) = false := by simp; omega
      have HF : Hid (mkR r = false) := by rw [Hid, mkR, decide_eq_false h1, decide_eq_false h2]; rfl
      show Calls _ _ _ _ _
      rw [HF.out]
      go_enter Tryd.func41, Tryd.ntmps41
      go_wp2
      go_returns
      exact ⟨rfl, 0, rfl⟩
/-- A slice of strings that is returned: its cells. -/
def RetF (w : World) (ts : List (List UInt8)) (e : Ending) (w' : World) : Prop := ∃ A, e = .returned (.slice (some ⟨A, 0, none⟩) ts.length ts.length) ∧ w.heap.size ≤ A ∧ A < w'.heap.size ∧ (∀ i, i < ts.length → w'.cell? ⟨A, i, none⟩ = some (sv (ts.getD i []))) ∧ Below w.heap.size w w'
/-- The fields' texts. -/
def fldT (l : List UInt8) : List (List UInt8) := (Lib.goFieldsP mkR ⟨l.toArray⟩).map fun x => x.data.toList
theorem fieldsF (l : List UInt8) (hl : l.length ≤ 1000000) (w : World) :
    Calls Tryd.prog 40 #[sv l, .func (.func 41) #[] #[]] w (RetF w (fldT l)) := by
  have h := Tryd.strings_FieldsFunc 41 #[] (enters_of Tryd.func41 (by kernel_rfl) rfl) mkR ⟨l.toArray⟩ w (by show l.length ≤ 4294967296; omega) (closR w)
  refine h.mono ?_
  rintro e w' ⟨A, rfl, _, ho, hb⟩
  have e1 : (Lib.goFieldsP mkR ⟨l.toArray⟩).map Value.string = svs (fldT l) := by
    rw [svs, fldT, List.map_map]
    refine List.map_congr_left fun x _ => ?_
    cases x; rfl
  have e2 : (fldT l).length = (Lib.goFieldsP mkR ⟨l.toArray⟩).length := by rw [fldT, List.length_map]
  rw [← e2, e1] at ho
  have ho2 : OwnS w' w.heap.size (.slice (some ⟨A, 0, none⟩) (fldT l).length (fldT l).length) (fldT l) := ho
  rcases OwnS.full ho2 with ⟨h1, _⟩ | ⟨g, cap, h1, h2, h3, _, hc⟩
  · cases h1
  · simp only [Value.slice.injEq, Option.some.injEq, Addr.mk.injEq, and_true, true_and] at h1
    obtain ⟨rfl, rfl⟩ := h1
    exact ⟨A, by rw [← e2], h2, h3, hc, hb⟩
end Go.Proofs.YtkaiekhmcjojoaaDoor
