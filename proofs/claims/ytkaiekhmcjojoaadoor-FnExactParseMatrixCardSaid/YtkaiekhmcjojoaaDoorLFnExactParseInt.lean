/- FnExactParseInt: the law's walk. -/
import Derived.Test.YtkaiekhmcjojoaaDoorPrsX
namespace Go.Proofs.YtkaiekhmcjojoaaDoor
open Go.RowKit
set_option linter.unusedSimpArgs false
set_option linter.unusedVariables false
theorem bytes_list (s : ByteArray) : ∃ l : List UInt8, s = ⟨l.toArray⟩ ∧ s.size = l.length := ⟨s.data.toList, by cases s; simp, by simp⟩
set_option maxHeartbeats 1000000 in
theorem walkFnExactParseInt (s : ByteArray) (hs : s.size ≤ maxLen) (w : World) (hE : Env w) :
    Calls Tryd.prog 6 #[.string s] w fun e w' => e = .returned (.bool true) ∧ Below w.heap.size w w' := by
  obtain ⟨l, rfl, hl⟩ := bytes_list s
  unfold maxLen at hs
  rw [hl] at hs
  have HE := hide hE
  clear hE hl
  by_cases hn : l.length ≤ 1048576
  · have hn1 : ¬ ((1048576 : Int) < (l.length : Int)) := by omega
    have CS := hide fun (w : World) => specParseInt l (by omega) w
    have CI := hide fun (w : World) (hE : Env w) => implParseInt l (by omega) w hE
    obtain ⟨o, ho⟩ : ∃ o, parseI l = o := ⟨_, rfl⟩
    rw [ho] at CS CI
    clear ho
    cases o with
    | none =>
      simp only [piV] at CS CI
      go_enter Tryd.func6, Tryd.ntmps6
      go_wp2_with fail
      refine (CS.out _).mono ?_; rintro e w1 ⟨rfl, hb⟩
      have HB := hide hb
      clear hb
      go_wp2_with fail
      refine (CI.out _ (HE.out.below HB.out)).mono ?_; rintro e w2 ⟨rfl, hb⟩
      have HB2 := hide (kb_call HB.out (Nat.le_refl _) hb)
      clear hb
      go_wp2
      go_ret
      exact ⟨rfl, HB2.out⟩
    | some n =>
      have e1 : (n != n) = false := by simp
      simp only [piV] at CS CI
      go_enter Tryd.func6, Tryd.ntmps6
      go_wp2_with fail
      refine (CS.out _).mono ?_; rintro e w1 ⟨rfl, hb⟩
      have HB := hide hb
      clear hb
      go_wp2_with fail
      refine (CI.out _ (HE.out.below HB.out)).mono ?_; rintro e w2 ⟨rfl, hb⟩
      have HB2 := hide (kb_call HB.out (Nat.le_refl _) hb)
      clear hb
      go_wp2
      go_ret
      exact ⟨rfl, HB2.out⟩
  · have hn1 : ((1048576 : Int) < (l.length : Int)) := by omega
    go_enter Tryd.func6, Tryd.ntmps6
    go_wp2
    go_ret
    exact ⟨rfl, Below.refl _ _⟩
end Go.Proofs.YtkaiekhmcjojoaaDoor
