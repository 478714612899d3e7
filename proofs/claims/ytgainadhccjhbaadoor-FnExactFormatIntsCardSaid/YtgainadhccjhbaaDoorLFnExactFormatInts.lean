/- FnExactFormatInts: the law's walk. -/
import Derived.Test.YtgainadhccjhbaaDoorFmtJ
import Derived.Test.YtgainadhccjhbaaDoorOwnW
namespace Go.Proofs.YtgainadhccjhbaaDoor
open Go.RowKit
set_option linter.unusedSimpArgs false
set_option linter.unusedVariables false
set_option maxHeartbeats 2000000 in
theorem walkFnExactFormatInts (A : Option Addr) (l cap : Nat) (xs : List Int) (w : World) (hs : SlArg w A l cap xs) (hb : ∀ x ∈ xs, isI64 x) (hT : Tab10 w) :
    Calls Tryd.prog 5 #[.slice A l cap] w fun e w' => e = .returned (.bool true) ∧ Below w.heap.size w w' := by
  obtain ⟨rfl, hm, hA⟩ := hs
  unfold maxLen at hm
  have HA := hide hA
  have HX := hide hb
  have HT := hide hT
  clear hA hb hT
  by_cases hn : xs.length ≤ 1048576
  · have CS := hide fun (A : Option Addr) (cap : Nat) (w : World) (hA : SlI w A xs) => specFormatInts A cap xs w hA hn HX.out
    have CI := hide fun (A : Option Addr) (cap : Nat) (w : World) (hA : SlI w A xs) (hT : Tab10 w) => implFormatInts A cap xs w hA hn HX.out hT
    obtain ⟨T, hTT⟩ : ∃ T, intsT xs = T := ⟨_, rfl⟩
    rw [hTT] at CS CI
    clear hTT
    go_enter Tryd.func5, Tryd.ntmps5
    go_wp2_with fail
    refine (toIntS A cap xs _ (SlI.below HA.out (by repeat' (first | exact Below.refl _ _ | (refine Below.alloc ?_ ?_ _) | (refine Below.setCell ?_ ?_ _) | (refine Below.drew ?_) | (refine below_drewN ?_ _) | (refine Below.trans ?_ (Below.mono (by assumption) ?_)) | omega | (simp only [World.size_alloc, World.size_setCell, World.size_drew, size_drewN]; omega)))) hn).mono ?_; rintro e w1 ⟨rfl, ho1, hb1⟩
    have HO1 := hide ho1
    have HB1 := hide hb1
    clear ho1 hb1
    go_wp2_with fail
    refine (CS.out _ _ _ (Own.reads HO1.out).2).mono ?_; rintro e w1' ⟨rfl, rfl⟩
    go_wp2_with fail
    refine (toIntS A cap xs _ (SlI.below HA.out HB1.out) hn).mono ?_; rintro e w3 ⟨rfl, ho3, hb3⟩
    have HO3 := hide ho3
    have HB3 := hide (kb_call HB1.out (Nat.le_refl _) hb3)
    clear ho3 hb3
    go_wp2_with fail
    refine (CI.out _ _ _ (Own.reads HO3.out).2 (HT.out.below HB3.out)).mono ?_; rintro e w4 ⟨rfl, hb4⟩
    have HO4 := hide (HO3.out.below hb4)
    have HB4 := hide (kb_call HB3.out (Nat.le_refl _) hb4)
    clear hb4
    go_wp2_with fail
    refine (toIntS A cap xs _ (SlI.below HA.out HB4.out) hn).mono ?_; rintro e w5 ⟨rfl, ho5, hb5⟩
    have HO5 := hide ho5
    have HO6 := hide (HO4.out.below hb5)
    have HB5 := hide (kb_call HB4.out (Nat.le_refl _) hb5)
    clear ho5 hb5
    go_wp2_with fail
    refine (eqIntS_same _ _ _ _ xs _ (Own.reads HO6.out).2 (Own.reads HO5.out).2 hn).mono ?_; rintro e w6 ⟨rfl, m, rfl⟩
    go_wp2
    go_ret
    exact ⟨rfl, below_drewN HB5.out m⟩
  · go_enter Tryd.func5, Tryd.ntmps5
    have hn2 : (1048576 : Int) < (xs.length : Int) := by omega
    go_wp2
    go_ret
    exact ⟨rfl, Below.refl _ _⟩
end Go.Proofs.YtgainadhccjhbaaDoor
