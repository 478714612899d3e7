/- The text of a ratio. -/
import Derived.Test.YtkaiekhmcjojoaaDoorFmtW
import Derived.Test.YtkaiekhmcjojoaaDoorRatW
import Derived.Test.YtkaiekhmcjojoaaDoorKeep
import Derived.IntWalk
import Derived.StillTailTactics
import Derived.Deep.QuietTactic
import Derived.BigQuiet
import Derived.Deep.RegionHeld3
namespace Go.Proofs.YtkaiekhmcjojoaaDoor
open Go.RowKit
set_option linter.unusedSimpArgs false
set_option linter.unusedVariables false
def ratT (n d : Int) : List UInt8 := if isRatio n d then (if d = 1 then Lib.itoa n else Lib.itoa n ++ [47] ++ Lib.itoa d) else [110, 111, 110, 101]
theorem itoa_len {n : Int} (h0 : -9223372036854775808 ≤ n) (h1 : n ≤ 9223372036854775807) : (Lib.itoa n).length ≤ 26 := by
  rcases Int.lt_trichotomy n 0 with h | h | h
  · rw [itoa_neg h]; have := dd_len (u := n.natAbs) (by omega); simp; omega
  · subst h; rw [itoa_zero]; decide
  · rw [itoa_pos h]; have := dd_len (u := n.natAbs) (by omega); omega
theorem sv_cat (l l' : List UInt8) : Value.string ((⟨l.toArray⟩ : ByteArray) ++ (⟨#[47]⟩ : ByteArray) ++ (⟨l'.toArray⟩ : ByteArray)) = sv (l ++ [47] ++ l') := by
  rw [show (⟨#[47]⟩ : ByteArray) = ⟨([47] : List UInt8).toArray⟩ from rfl, bs_append, bs_append]
theorem ratT_slash {n d : Int} (hr : isRatio n d = true) (hd : ¬ d = 1) : Ending.returned (Value.string ((⟨(Lib.itoa n).toArray⟩ : ByteArray) ++ (⟨#[47]⟩ : ByteArray) ++ (⟨(Lib.itoa d).toArray⟩ : ByteArray))) = .returned (sv (ratT n d)) := by
  rw [sv_cat, ratT, hr, if_pos rfl, if_neg hd]
theorem ratT_one {n : Int} (hr : isRatio n 1 = true) : ratT n 1 = Lib.itoa n := by rw [ratT, hr, if_pos rfl, if_pos rfl]
set_option maxHeartbeats 1000000 in
theorem specFormatRatio (n d : Int) (n0 : -9223372036854775808 ≤ n) (n1 : n ≤ 9223372036854775807) (d0 : -9223372036854775808 ≤ d) (d1 : d ≤ 9223372036854775807) (w : World) :
    Calls Tryd.prog 35 #[rv n d] w fun e w' => e = .returned (sv (ratT n d)) ∧ Below w.heap.size w w' := by
  have C1 := hide fun (w : World) => specFormatInt n n0 n1 w
  have C2 := hide fun (w : World) => specFormatInt d d0 d1 w
  have Q1 : Hid (∀ (w : World) (m : Nat), Calls Tryd.prog 58 #[.int .i64 n] (w.drewN m) fun e w'' => e = .returned (sv (Lib.itoa n)) ∧ ∃ k, w'' = w.drewN k) := fun w m => Calls.quiet_of_same ((specFormatInt n n0 n1 (w.drewN m)).mono fun _ _ h => ⟨h.1, h.2.symm⟩)
  have Q2 : Hid (∀ (w : World) (m : Nat), Calls Tryd.prog 58 #[.int .i64 d] (w.drewN m) fun e w'' => e = .returned (sv (Lib.itoa d)) ∧ ∃ k, w'' = w.drewN k) := fun w m => Calls.quiet_of_same ((specFormatInt d d0 d1 (w.drewN m)).mono fun _ _ h => ⟨h.1, h.2.symm⟩)
  have L1 := itoa_len n0 n1
  have L2 := itoa_len d0 d1
  have s1 : ¬ (9223372036854775807 < (Lib.itoa n).length + 1) := by omega
  have s2 : ¬ (9223372036854775807 < (Lib.itoa n).length + 1 + (Lib.itoa d).length) := by omega
  have s3 : ¬ (9223372036854775807 < (Lib.itoa n).length + (1 + (Lib.itoa d).length)) := by omega
  clear L1 L2
  cases hr : isRatio n d
  · have HR := hide hr
    go_enter Tryd.func35, Tryd.ntmps35
    go_wp2_with (go_at_call 24; refine (specIsRatio _ _ _).mono ?_; rintro e w1 ⟨rfl, hb⟩; obtain ⟨hc, hf⟩ := bcell hb; have hz := hb.size; (try simp only [World.size_alloc, World.size_setCell, World.size_drew, size_drewN] at hz); (first | have hs := up3 hz | have hs := up2 hz | have hs := up1 hz | have hs := up0 hz); (try have q10 := hs _ q9); (try have q9 := hs _ q8); (try have q8 := hs _ q7); (try have q7 := hs _ q6); (try have q6 := hs _ q5); (try have q5 := hs _ q4); (try have q4 := hs _ q3); (try have q3 := hs _ q2); (try have q2 := hs _ q1); (try have p7 := hs _ p6); (try have p6 := hs _ p5); (try have p5 := hs _ p4); (try have p4 := hs _ p3); (try have p3 := hs _ p2); (try have p2 := hs _ p1); (try have q1 := new1 hz); (try have p1 := new2 hz); (try have r1 := new3 hz))
    go_returns
    exact ⟨by rw [ratT, HR.out]; rfl, (by repeat' (first | exact Below.refl _ _ | (refine Below.alloc ?_ ?_ _) | (refine Below.setCell ?_ ?_ _) | (refine Below.drew ?_) | (refine below_drewN ?_ _) | (refine Below.trans ?_ (Below.mono (by assumption) ?_)) | omega | (simp only [World.size_alloc, World.size_setCell, World.size_drew, size_drewN]; omega)))⟩
  · have HR := hide hr
    by_cases hd : d = 1
    · subst hd
      go_enter Tryd.func35, Tryd.ntmps35
      go_wp2_with (first
        | (go_at_call 24; refine (specIsRatio _ _ _).mono ?_; rintro e w1 ⟨rfl, hb⟩; obtain ⟨hc, hf⟩ := bcell hb; have hz := hb.size; (try simp only [World.size_alloc, World.size_setCell, World.size_drew, size_drewN] at hz); (first | have hs := up3 hz | have hs := up2 hz | have hs := up1 hz | have hs := up0 hz); (try have q10 := hs _ q9); (try have q9 := hs _ q8); (try have q8 := hs _ q7); (try have q7 := hs _ q6); (try have q6 := hs _ q5); (try have q5 := hs _ q4); (try have q4 := hs _ q3); (try have q3 := hs _ q2); (try have q2 := hs _ q1); (try have p7 := hs _ p6); (try have p6 := hs _ p5); (try have p5 := hs _ p4); (try have p4 := hs _ p3); (try have p3 := hs _ p2); (try have p2 := hs _ p1); (try have q1 := new1 hz); (try have p1 := new2 hz); (try have r1 := new3 hz))
        | (go_at_call 58; refine (C1.out _).mono ?_; rintro e w2 ⟨rfl, rfl⟩))
      go_returns
      exact ⟨by rw [ratT_one HR.out]; rfl, (by repeat' (first | exact Below.refl _ _ | (refine Below.alloc ?_ ?_ _) | (refine Below.setCell ?_ ?_ _) | (refine Below.drew ?_) | (refine below_drewN ?_ _) | (refine Below.trans ?_ (Below.mono (by assumption) ?_)) | omega | (simp only [World.size_alloc, World.size_setCell, World.size_drew, size_drewN]; omega)))⟩
    · have e1 : (d == 1) = false := by simpa using hd
      have HD := hide hd
      clear hd
      go_enter Tryd.func35, Tryd.ntmps35
      go_wp2_with (go_at_call 24; refine (specIsRatio _ _ _).mono ?_; rintro e w1 ⟨rfl, hb⟩; obtain ⟨hc, hf⟩ := bcell hb; have hz := hb.size; (try simp only [World.size_alloc, World.size_setCell, World.size_drew, size_drewN] at hz); (first | have hs := up3 hz | have hs := up2 hz | have hs := up1 hz | have hs := up0 hz); (try have q10 := hs _ q9); (try have q9 := hs _ q8); (try have q8 := hs _ q7); (try have q7 := hs _ q6); (try have q6 := hs _ q5); (try have q5 := hs _ q4); (try have q4 := hs _ q3); (try have q3 := hs _ q2); (try have q2 := hs _ q1); (try have p7 := hs _ p6); (try have p6 := hs _ p5); (try have p5 := hs _ p4); (try have p4 := hs _ p3); (try have p3 := hs _ p2); (try have p2 := hs _ p1); (try have q1 := new1 hz); (try have p1 := new2 hz); (try have r1 := new3 hz))
      go_quiet (first
        | (go_at_call_of 58 (Value.int IntKind.i64 n); exact Q1.out _ _)
        | (go_at_call_of 58 (Value.int IntKind.i64 d); exact Q2.out _ _))
      go_wp2
      go_returns
      exact ⟨(by rw [← ratT_slash HR.out HD.out]; rfl), (by repeat' (first | exact Below.refl _ _ | (refine Below.alloc ?_ ?_ _) | (refine Below.setCell ?_ ?_ _) | (refine Below.drew ?_) | (refine below_drewN ?_ _) | (refine Below.trans ?_ (Below.mono (by assumption) ?_)) | omega | (simp only [World.size_alloc, World.size_setCell, World.size_drew, size_drewN]; omega)))⟩
set_option maxHeartbeats 2000000 in
theorem implFormatRatio (n d : Int) (n0 : -9223372036854775808 ≤ n) (n1 : n ≤ 9223372036854775807) (d0 : -9223372036854775808 ≤ d) (d1 : d ≤ 9223372036854775807) (w : World) (hT : Tab10 w) :
    Calls Tryd.prog 23 #[rv n d] w fun e w' => e = .returned (sv (ratT n d)) ∧ Below w.heap.size w w' := by
  have C1 := hide fun (w : World) hT => implFormatInt n n0 n1 w hT
  have C2 := hide fun (w : World) hT => implFormatInt d d0 d1 w hT
  have L1 := itoa_len n0 n1
  have L2 := itoa_len d0 d1
  have s1 : ¬ (9223372036854775807 < (Lib.itoa n).length + 1) := by omega
  have s2 : ¬ (9223372036854775807 < (Lib.itoa n).length + 1 + (Lib.itoa d).length) := by omega
  have s3 : ¬ (9223372036854775807 < (Lib.itoa n).length + (1 + (Lib.itoa d).length)) := by omega
  clear L1 L2
  have HT := hide hT
  clear hT
  cases hr : isRatio n d
  · have HR := hide hr
    go_enter Tryd.func23, Tryd.ntmps23
    go_wp2_with (go_at_call 37; refine (implIsRatio _ _ _).mono ?_; rintro e w1 ⟨rfl, hb⟩; obtain ⟨hc, hf⟩ := bcell hb; have hz := hb.size; (try simp only [World.size_alloc, World.size_setCell, World.size_drew, size_drewN] at hz); (first | have hs := up3 hz | have hs := up2 hz | have hs := up1 hz | have hs := up0 hz); (try have q10 := hs _ q9); (try have q9 := hs _ q8); (try have q8 := hs _ q7); (try have q7 := hs _ q6); (try have q6 := hs _ q5); (try have q5 := hs _ q4); (try have q4 := hs _ q3); (try have q3 := hs _ q2); (try have q2 := hs _ q1); (try have p7 := hs _ p6); (try have p6 := hs _ p5); (try have p5 := hs _ p4); (try have p4 := hs _ p3); (try have p3 := hs _ p2); (try have p2 := hs _ p1); (try have q1 := new1 hz); (try have p1 := new2 hz); (try have r1 := new3 hz))
    go_returns
    exact ⟨by rw [ratT, HR.out]; rfl, (by repeat' (first | exact Below.refl _ _ | (refine Below.alloc ?_ ?_ _) | (refine Below.setCell ?_ ?_ _) | (refine Below.drew ?_) | (refine below_drewN ?_ _) | (refine Below.trans ?_ (Below.mono (by assumption) ?_)) | omega | (simp only [World.size_alloc, World.size_setCell, World.size_drew, size_drewN]; omega)))⟩
  · have HR := hide hr
    by_cases hd : d = 1
    · subst hd
      go_enter Tryd.func23, Tryd.ntmps23
      go_wp2_with (first
        | (go_at_call 37; refine (implIsRatio _ _ _).mono ?_; rintro e w1 ⟨rfl, hb⟩; have HB : Hid (Below w.heap.size w w1) := (show Below w.heap.size w w1 from (by repeat' (first | exact Below.refl _ _ | (refine Below.alloc ?_ ?_ _) | (refine Below.setCell ?_ ?_ _) | (refine Below.drew ?_) | (refine below_drewN ?_ _) | (refine Below.trans ?_ (Below.mono (by assumption) ?_)) | omega | (simp only [World.size_alloc, World.size_setCell, World.size_drew, size_drewN]; omega)))); obtain ⟨hc, hf⟩ := bcell hb; have hz := hb.size; (try simp only [World.size_alloc, World.size_setCell, World.size_drew, size_drewN] at hz); (first | have hs := up3 hz | have hs := up2 hz | have hs := up1 hz | have hs := up0 hz); (try have q10 := hs _ q9); (try have q9 := hs _ q8); (try have q8 := hs _ q7); (try have q7 := hs _ q6); (try have q6 := hs _ q5); (try have q5 := hs _ q4); (try have q4 := hs _ q3); (try have q3 := hs _ q2); (try have q2 := hs _ q1); (try have p7 := hs _ p6); (try have p6 := hs _ p5); (try have p5 := hs _ p4); (try have p4 := hs _ p3); (try have p3 := hs _ p2); (try have p2 := hs _ p1); (try have q1 := new1 hz); (try have p1 := new2 hz); (try have r1 := new3 hz))
        | (go_at_call 28; refine (C1.out _ (HT.out.below HB.out)).mono ?_; rintro e w2 ⟨rfl, hb⟩))
      go_returns
      exact ⟨by rw [ratT_one HR.out]; rfl, kb_call HB.out (Nat.le_refl _) hb⟩
    · have e1 : (d == 1) = false := by simpa using hd
      have HD := hide hd
      clear hd
      go_enter Tryd.func23, Tryd.ntmps23
      go_wp2_with (go_at_call 37; refine (implIsRatio _ _ _).mono ?_; rintro e w1 ⟨rfl, hb⟩; have HB : Hid (Below w.heap.size w w1) := (show Below w.heap.size w w1 from (by repeat' (first | exact Below.refl _ _ | (refine Below.alloc ?_ ?_ _) | (refine Below.setCell ?_ ?_ _) | (refine Below.drew ?_) | (refine below_drewN ?_ _) | (refine Below.trans ?_ (Below.mono (by assumption) ?_)) | omega | (simp only [World.size_alloc, World.size_setCell, World.size_drew, size_drewN]; omega)))); have HX := hide hb; obtain ⟨hc, hf⟩ := bcell hb; have hz := hb.size; (try simp only [World.size_alloc, World.size_setCell, World.size_drew, size_drewN] at hz); (first | have hs := up3 hz | have hs := up2 hz | have hs := up1 hz | have hs := up0 hz); (try have q10 := hs _ q9); (try have q9 := hs _ q8); (try have q8 := hs _ q7); (try have q7 := hs _ q6); (try have q6 := hs _ q5); (try have q5 := hs _ q4); (try have q4 := hs _ q3); (try have q3 := hs _ q2); (try have q2 := hs _ q1); (try have p7 := hs _ p6); (try have p6 := hs _ p5); (try have p5 := hs _ p4); (try have p4 := hs _ p3); (try have p3 := hs _ p2); (try have p2 := hs _ p1); (try have q1 := new1 hz); (try have p1 := new2 hz); (try have r1 := new3 hz))
      have x0 : w1.cell? ⟨w.heap.size, 0, none⟩ = some (.int .i64 n) := by go_simp
      have x1 : w1.cell? ⟨w.heap.size, 1, none⟩ = some (.int .i64 d) := by go_simp
      have KS : Hid (∀ w', Below w1.heap.size w1 w' → w'.cell? ⟨w.heap.size, 0, none⟩ = some (.int .i64 n) ∧ w'.cell? ⟨w.heap.size, 1, none⟩ = some (.int .i64 d) ∧ Below w1.heap.size w1 w') := fun w' h => ⟨kc_call x0 h, kc_call x1 h, h⟩
      go_region_held3 (fun w' => w'.cell? ⟨w.heap.size, 0, none⟩ = some (.int .i64 n) ∧ w'.cell? ⟨w.heap.size, 1, none⟩ = some (.int .i64 d) ∧ Below w1.heap.size w1 w')
        (first
          | (with_reducible exact KS.out _ (Below.drew (Below.refl _ _)))
          | (have hh := (‹_ ∧ _ ∧ Below w1.heap.size w1 _›).2.2
             with_reducible exact KS.out _ (kb_call hh (Nat.le_refl _) hb)))
        (first
          | (go_at_call 28; have hh := (‹_ ∧ _ ∧ Below w1.heap.size w1 _›).2.2; (with_reducible refine (C1.out _ ((HT.out.below HB.out).below hh)).mono ?_); rintro e w2 ⟨rfl, hb⟩; clear hh)
          | (go_at_call 28; have hh := (‹_ ∧ _ ∧ Below w1.heap.size w1 _›).2.2; (with_reducible refine (C2.out _ ((HT.out.below HB.out).below hh)).mono ?_); rintro e w2 ⟨rfl, hb⟩; clear hh))
      have HH := hide ((‹_ ∧ _ ∧ Below w1.heap.size w1 _›).2.2)
      go_wp2
      go_returns
      exact ⟨(by rw [← ratT_slash HR.out HD.out]; rfl), HB.out.trans (HH.out.mono HB.out.size)⟩
end Go.Proofs.YtkaiekhmcjojoaaDoor
