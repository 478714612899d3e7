/- FnExactFormatMatrix: the law's walk. -/
import Derived.Test.YtgainadhccjhbaaDoorFmtN
import Derived.Test.YtgainadhccjhbaaDoorOwnW
import Derived.Test.YtgainadhccjhbaaDoorBox
namespace Go.Proofs.YtgainadhccjhbaaDoor
open Go.RowKit
set_option linter.unusedSimpArgs false
set_option linter.unusedVariables false
theorem own_sl2 {w : World} {lo : Nat} {A : Option Addr} {n c : Nat} {xs : List Int} (h : Own w lo (.slice A n c) xs) : Sl w A n c xs := by
  obtain ⟨B, d, e, hs⟩ := Own.full h
  injection e with e1 e2 e3
  subst e1; subst e2; subst e3
  exact hs
set_option maxHeartbeats 4000000 in
theorem walkFnExactFormatMatrix (r : Int) (r0 : -9223372036854775808 ≤ r) (r1 : r ≤ 9223372036854775807) (c : Int) (c0 : -9223372036854775808 ≤ c) (c1 : c ≤ 9223372036854775807) (A : Option Addr) (l cap : Nat) (xs : List Int) (w : World) (hs : SlArg w A l cap xs) (hT : Tab10 w) :
    Calls Tryd.prog 6 #[mv r c (.slice A l cap)] w fun e w' => e = .returned (.bool true) ∧ Below w.heap.size w w' := by
  obtain ⟨rfl, hm, hA⟩ := hs
  unfold maxLen at hm
  have HA := hide hA
  have HT := hide hT
  clear hA hT r0 r1 c0 c1
  by_cases hn : xs.length ≤ 1048576
  · have CS := hide fun (A : Option Addr) (cap : Nat) (w : World) (hA : SlI w A xs) => specFormatMatrix r c A cap xs w hA hn
    have CI := hide fun (A : Option Addr) (cap : Nat) (w : World) (hA : Sl w A xs.length cap xs) (hT : Tab10 w) => implFormatMatrix r c A cap xs w hA hn hT
    obtain ⟨T, hTT⟩ : ∃ T, fmtM r c xs = T := ⟨_, rfl⟩
    rw [hTT] at CS CI
    clear hTT
    go_enter Tryd.func6, Tryd.ntmps6
    go_wp2_with fail
    refine (szMatrix_yes r c A cap xs.length 1048576 _ (by omega) (by omega) (by omega)).mono ?_; rintro e w1 ⟨rfl, hb⟩
    have N1 := hide ((Box3.new w w.heap.size _ rfl).call hb)
    have HB1 := hide (Below.trans (Below.alloc (Below.refl _ w) (Nat.le_refl _) _) (hb.mono (by simp)) : Below w.heap.size w w1)
    clear hb
    obtain ⟨⟨n0, n1, n2⟩, _⟩ := N1.out
    go_wp2_with fail
    refine (toMatrix r c A cap xs _ (SlI.below HA.out HB1.out) hn).mono ?_; rintro e w2 ⟨rfl, ho, hb⟩
    have N2 := hide (N1.out.call hb)
    have O2 := hide ho
    have HB2 := hide (kb_call HB1.out (Nat.le_refl _) hb)
    clear ho hb n0 n1 n2
    obtain ⟨⟨n0, n1, n2⟩, _⟩ := N2.out
    go_wp2_with fail
    refine (CS.out _ _ _ (Own.reads O2.out).2).mono ?_; rintro e w3 ⟨rfl, hb⟩
    have N3 := hide (N2.out.call hb)
    have HB3 := hide (kb_call HB2.out (Nat.le_refl _) hb)
    clear hb n0 n1 n2 N1 N2 O2
    obtain ⟨⟨n0, n1, n2⟩, _⟩ := N3.out
    go_wp2_with fail
    refine (toMatrix r c A cap xs _ (SlI.below HA.out HB3.out) hn).mono ?_; rintro e w4 ⟨rfl, ho, hb⟩
    have N4 := hide ((N3.out.call hb).alloc (.cells #[.int .i64 r, .int .i64 c, .slice (some ⟨w3.heap.size + 3, 0, none⟩) xs.length xs.length] 39))
    have X4 := hide (Box3.new w4 w4.heap.size 39 (x := .int .i64 r) (y := .int .i64 c) (z := .slice (some ⟨w3.heap.size + 3, 0, none⟩) xs.length xs.length) rfl)
    have O4 := hide (ho.alloc (.cells #[.int .i64 r, .int .i64 c, .slice (some ⟨w3.heap.size + 3, 0, none⟩) xs.length xs.length] 39))
    have HB4 := hide ((kb_call HB3.out (Nat.le_refl _) hb).alloc (by have := HB3.out.size; have := hb.size; omega) (.cells #[.int .i64 r, .int .i64 c, .slice (some ⟨w3.heap.size + 3, 0, none⟩) xs.length xs.length] 39))
    clear ho hb n0 n1 n2 N3
    obtain ⟨⟨n0, n1, n2⟩, _⟩ := N4.out
    obtain ⟨⟨x0, x1, x2⟩, _⟩ := X4.out
    go_wp2_with fail
    refine (CI.out _ _ _ (own_sl2 O4.out) (HT.out.below HB4.out)).mono ?_; rintro e w5 ⟨rfl, hb⟩
    have N5 := hide (N4.out.call hb)
    have X5 := hide (X4.out.call hb)
    have O5 := hide (O4.out.below hb)
    have HB5 := hide (kb_call HB4.out (Nat.le_refl _) hb)
    clear hb n0 n1 n2 x0 x1 x2 N4 X4 O4
    obtain ⟨⟨n0, n1, n2⟩, _⟩ := N5.out
    obtain ⟨⟨x0, x1, x2⟩, _⟩ := X5.out
    go_wp2_with fail
    have KS : Hid (∀ w', Below w5.heap.size w5 w' → w'.cell? ⟨w.heap.size, 0, none⟩ = some (.int .i64 r) ∧ w'.cell? ⟨w.heap.size, 1, none⟩ = some (.int .i64 c) ∧ w'.cell? ⟨w.heap.size, 2, none⟩ = some (.slice A xs.length cap) ∧ w'.cell? ⟨w4.heap.size, 0, none⟩ = some (.int .i64 r) ∧ w'.cell? ⟨w4.heap.size, 1, none⟩ = some (.int .i64 c) ∧ w'.cell? ⟨w4.heap.size, 2, none⟩ = some (.slice (some ⟨w3.heap.size + 3, 0, none⟩) xs.length xs.length) ∧ Below w5.heap.size w5 w') := fun w' h => ⟨kc_call n0 h, kc_call n1 h, kc_call n2 h, kc_call x0 h, kc_call x1 h, kc_call x2 h, h⟩
    go_region_held3 (fun w' => w'.cell? ⟨w.heap.size, 0, none⟩ = some (.int .i64 r) ∧ w'.cell? ⟨w.heap.size, 1, none⟩ = some (.int .i64 c) ∧ w'.cell? ⟨w.heap.size, 2, none⟩ = some (.slice A xs.length cap) ∧ w'.cell? ⟨w4.heap.size, 0, none⟩ = some (.int .i64 r) ∧ w'.cell? ⟨w4.heap.size, 1, none⟩ = some (.int .i64 c) ∧ w'.cell? ⟨w4.heap.size, 2, none⟩ = some (.slice (some ⟨w3.heap.size + 3, 0, none⟩) xs.length xs.length) ∧ Below w5.heap.size w5 w')
      (first
        | (with_reducible exact KS.out _ (Below.drew (Below.refl _ _)))
        | (have hh := (‹_ ∧ _ ∧ _ ∧ _ ∧ _ ∧ _ ∧ Below w5.heap.size w5 _›).2.2.2.2.2.2
           with_reducible exact KS.out _ (kb_call hh (Nat.le_refl _) hb)))
      (first
        | (go_at_call 18; have hh := (‹_ ∧ _ ∧ _ ∧ _ ∧ _ ∧ _ ∧ Below w5.heap.size w5 _›).2.2.2.2.2.2; refine (toMatrix r c A cap xs _ (SlI.below (SlI.below HA.out HB5.out) hh) hn).mono ?_; rintro e w7 ⟨rfl, ho, hb⟩; have H3 := hide ho; clear ho hh)
        | (go_at_call 20; have hh := (‹_ ∧ _ ∧ _ ∧ _ ∧ _ ∧ _ ∧ Below w5.heap.size w5 _›).2.2.2.2.2.2; refine (eqMatrix_same r c _ _ _ _ xs _ (Own.reads (O5.out.below hh)).2 (Own.reads H3.out).2 hn).mono ?_; rintro e w8 ⟨rfl, hb⟩; clear hh))
    have HH := hide ((‹_ ∧ _ ∧ _ ∧ _ ∧ _ ∧ _ ∧ Below w5.heap.size w5 _›).2.2.2.2.2.2)
    go_wp2
    go_ret
    exact ⟨rfl, HB5.out.trans (HH.out.mono HB5.out.size)⟩
  · go_enter Tryd.func6, Tryd.ntmps6
    go_wp2_with fail
    refine (szMatrix_no r c A cap xs.length 1048576 _ (by omega) (by omega) (by omega) (by omega)).mono ?_; rintro e w1 ⟨rfl, hb⟩; obtain ⟨hc, hf⟩ := bcell hb; have hz := hb.size; (try simp only [World.size_alloc, World.size_setCell, World.size_drew, size_drewN] at hz); (first | have hs := up3 hz | have hs := up2 hz | have hs := up1 hz | have hs := up0 hz); (try have q10 := hs _ q9); (try have q9 := hs _ q8); (try have q8 := hs _ q7); (try have q7 := hs _ q6); (try have q6 := hs _ q5); (try have q5 := hs _ q4); (try have q4 := hs _ q3); (try have q3 := hs _ q2); (try have q2 := hs _ q1); (try have p7 := hs _ p6); (try have p6 := hs _ p5); (try have p5 := hs _ p4); (try have p4 := hs _ p3); (try have p3 := hs _ p2); (try have p2 := hs _ p1); (try have q1 := new1 hz); (try have p1 := new2 hz); (try have r1 := new3 hz)
    go_wp2
    go_ret
    exact ⟨rfl, (by repeat' (first | exact Below.refl _ _ | (refine Below.alloc ?_ ?_ _) | (refine Below.setCell ?_ ?_ _) | (refine Below.drew ?_) | (refine below_drewN ?_ _) | (refine Below.trans ?_ (Below.mono (by assumption) ?_)) | omega | (simp only [World.size_alloc, World.size_setCell, World.size_drew, size_drewN]; omega)))⟩
end Go.Proofs.YtgainadhccjhbaaDoor
