/- FnExactParseRatio: the law's walk. -/
import Derived.Test.YtkaiekhmcjojoaaDoorPrtL
import Derived.Test.YtkaiekhmcjojoaaDoorLFnExactParseInt
namespace Go.Proofs.YtkaiekhmcjojoaaDoor
open Go.RowKit
set_option linter.unusedSimpArgs false
set_option linter.unusedVariables false
set_option maxHeartbeats 2000000 in
theorem walkFnExactParseRatio (s : ByteArray) (hs : s.size ≤ maxLen) (w : World) (hE : Env w) :
    Calls Tryd.prog 3 #[.string s] w fun e w' => e = .returned (.bool true) ∧ Below w.heap.size w w' := by
  obtain ⟨l, rfl, hl⟩ := bytes_list s
  unfold maxLen at hs
  rw [hl] at hs
  have HE := hide hE
  clear hE hl
  by_cases hn : l.length ≤ 1048576
  · have hn1 : ¬ ((1048576 : Int) < (l.length : Int)) := by omega
    have cs := fun (w : World) => specParseRatio l hn w
    have ci := fun (w : World) (hE : Env w) => implParseRatio l hn w hE
    rw [prI_prS] at ci
    obtain ⟨⟨n, d, k⟩, ho⟩ : ∃ o, prS l = o := ⟨_, rfl⟩
    rw [ho] at cs ci
    have CS : Hid (∀ w, Calls Tryd.prog 8 #[sv l] w fun e w' => e = .returned (.tuple #[rv n d, .bool k]) ∧ Below w.heap.size w w') := cs
    have CI : Hid (∀ w, Env w → Calls Tryd.prog 9 #[sv l] w fun e w' => e = .returned (.tuple #[rv n d, .bool k]) ∧ Below w.heap.size w w') := ci
    have e1 : (k != k) = false := by simp
    clear cs ci ho
    go_enter Tryd.func3, Tryd.ntmps3
    go_wp2_with fail
    refine (CS.out _).mono ?_; rintro e w1 ⟨rfl, hb⟩
    have X1 := hide (Box2.new (x := .int .i64 n) (y := .int .i64 d) w1 w1.heap.size 23 rfl)
    have HB1 := hide (hb.alloc hb.size (.cells #[.int .i64 n, .int .i64 d] 23))
    clear hb
    go_wp2_with fail
    refine (CI.out _ (HE.out.below HB1.out)).mono ?_; rintro e w2 ⟨rfl, hb⟩
    have X2 := hide ((X1.out.call hb).alloc (.cells #[.int .i64 n, .int .i64 d] 23))
    have Y2 := hide (Box2.new (x := .int .i64 n) (y := .int .i64 d) w2 w2.heap.size 23 rfl)
    have HB2 := hide ((kb_call HB1.out (Nat.le_refl _) hb).alloc (by have := HB1.out.size; have := hb.size; omega) (.cells #[.int .i64 n, .int .i64 d] 23))
    clear hb X1 HB1
    obtain ⟨⟨x0, x1⟩, _⟩ := X2.out
    obtain ⟨⟨y0, y1⟩, _⟩ := Y2.out
    go_wp2_with fail
    refine (eqRatio_same n d _).mono ?_; rintro e w3 ⟨rfl, hb⟩
    have HB3 := hide (kb_call HB2.out (Nat.le_refl _) hb)
    clear hb
    go_wp2_with fail
    go_ret
    exact ⟨rfl, HB3.out⟩
  · have hn1 : ((1048576 : Int) < (l.length : Int)) := by omega
    go_enter Tryd.func3, Tryd.ntmps3
    go_wp2
    go_ret
    exact ⟨rfl, Below.refl _ _⟩
end Go.Proofs.YtkaiekhmcjojoaaDoor
