/- The draws of FnNumbers. -/
import Derived.Test.YtkaiekhmcjojoaaDoorDrawW
import Derived.Test.YtkaiekhmcjojoaaDoorBigW
namespace Go.Proofs.YtkaiekhmcjojoaaDoor
open Go.RowKit
set_option linter.unusedSimpArgs false
set_option linter.unusedVariables false
def OneI (w : World) (e : Ending) (w' : World) : Prop := (∃ a : Int, e = .returned (.int .i64 a) ∧ -9223372036854775808 ≤ a ∧ a ≤ 9223372036854775807) ∧ Below w.heap.size w w'
set_option maxHeartbeats 1000000 in
theorem drawFmtInt (A : Option Addr) (n cap : Nat) (w : World) (hs : SlB w w.heap.size A n) (hn : n ≤ 1048576) :
    Calls Tryd.prog 27 #[.slice A n cap] w (OneI w) := by
  have HS := hide hs; clear hs
  go_enter Tryd.func27, Tryd.ntmps27
  go_wp2_with fail
  refine (l1New A n cap _ HS.out hn).mono ?_; rintro e w1 ⟨rfl, hc, hb⟩
  have HC := hide hc
  have HB := hide hb
  clear hc hb
  go_wp2_with fail
  refine (l1Once _ 4 _ HC.out (by omega) (by omega)).mono ?_; rintro e w2 ⟨⟨b, rfl⟩, hk⟩
  have HK := hide hk
  have HB2 := hide (hk.below HB.out (Nat.le_refl _) HB.out.size)
  clear hk
  cases b
  · go_wp2_with fail
    refine (l1Below _ 1000000 _ HK.out.1 (by omega) (by omega)).mono ?_; rintro e w3 ⟨⟨x, rfl, h0, h1⟩, hk⟩
    have HB3 := hide (hk.below HB2.out (Nat.le_refl _) HB2.out.size)
    clear hk
    go_wp2_with fail
    go_ret
    exact ⟨⟨_, rfl, by omega, by omega⟩, HB3.out⟩
  · go_wp2_with fail
    refine (l1Odd _ _ HK.out.1).mono ?_; rintro e w3 ⟨⟨x, rfl, h0, h1⟩, hk⟩
    have HB3 := hide (hk.below HB2.out (Nat.le_refl _) HB2.out.size)
    clear hk
    go_wp2_with fail
    go_ret
    exact ⟨⟨_, rfl, h0, h1⟩, HB3.out⟩
theorem drawDivFloor (A : Option Addr) (n cap : Nat) (w : World) (hs : SlB w w.heap.size A n) (hn : n ≤ 1048576) :
    Calls Tryd.prog 30 #[.slice A n cap] w (TwoI w) := by
  have HS := hide hs; clear hs
  go_enter Tryd.func30, Tryd.ntmps30
  go_wp2_with fail
  refine (l1Two A n cap _ HS.out hn).mono ?_; rintro e w1 ⟨⟨a, b, rfl, ha, hb⟩, hB⟩
  go_wp2_with fail
  go_returns
  exact ⟨⟨a, b, rfl, ha, hb⟩, hB⟩
end Go.Proofs.YtkaiekhmcjojoaaDoor
