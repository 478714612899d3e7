/- The text of a matrix: both walks. -/
import Derived.Test.YtkaiekhmcjojoaaDoorFmtJ
import Derived.Test.YtkaiekhmcjojoaaDoorRowW
import Derived.Test.YtkaiekhmcjojoaaDoorAppS
import Derived.IntWalk
import Derived.StillTailTactics
import Derived.Deep.QuietTactic
import Derived.BigQuiet
import Derived.Deep.RegionHeld3
namespace Go.Proofs.YtkaiekhmcjojoaaDoor
open Go.RowKit
set_option linter.unusedSimpArgs false
set_option linter.unusedVariables false
/-- A matrix's text; none if it is not valid. -/
def fmtM (r c : Int) (xs : List Int) : List UInt8 := if isMat r c xs = true then matT r.toNat c.toNat xs else []
theorem fmtM_no {r c : Int} {xs : List Int} (h : isMat r c xs = false) : fmtM r c xs = [] := by rw [fmtM, h]; rfl
theorem fmtM_yes {R C : Nat} {xs : List Int} (h : isMat R C xs = true) : fmtM R C xs = matT R C xs := by rw [fmtM, if_pos h]; simp
/-- What stands ahead of the cells. -/
def preT (R C : Nat) : List UInt8 := Lib.itoa R ++ [120] ++ Lib.itoa C ++ [91]
theorem matT_pre (R C : Nat) (xs : List Int) : matT R C xs = preT R C ++ cellsT C xs xs.length ++ [93] := by simp [matT, preT]
theorem pre_len {R C : Nat} (hR : R ≤ 24) (hC : C ≤ 24) : (preT R C).length ≤ 60 := by
  have h1 := itoa_len (n := R) (by omega) (by omega)
  have h2 := itoa_len (n := C) (by omega) (by omega)
  simp only [preT, List.length_append, List.length_cons, List.length_nil]
  omega
theorem pre_val {R C : Nat} : Value.string ((⟨(Lib.itoa R).toArray⟩ : ByteArray) ++ (⟨#[120]⟩ : ByteArray) ++ (⟨(Lib.itoa C).toArray⟩ : ByteArray) ++ (⟨#[91]⟩ : ByteArray)) = sv (preT R C) := by
  rw [show (⟨#[120]⟩ : ByteArray) = ⟨([120] : List UInt8).toArray⟩ from rfl, show (⟨#[91]⟩ : ByteArray) = ⟨([91] : List UInt8).toArray⟩ from rfl, bs_append, bs_append, bs_append, preT]
theorem num_i64 {x : Int} (h : isNum x = true) : isI64 x := by have := isNum_t h; unfold isI64; omega
theorem mat_first {C k : Nat} {xs : List Int} {p l : List UInt8} {x : Int} (hk : k = 0) (hl : p ++ cellsT C xs k = l) (hx : xs.getD k 0 = x) :
    Value.string ((⟨l.toArray⟩ : ByteArray) ++ (⟨(Lib.itoa x).toArray⟩ : ByteArray)) = sv (p ++ cellsT C xs (k + 1)) := by
  subst hk
  rw [cellsT, if_pos rfl, hx, bs_append, ← hl]
  simp [cellsT]
theorem mat_semi {C k : Nat} {xs : List Int} {p l : List UInt8} {x : Int} (hk : ¬ k = 0) (hm : k % C = 0) (hl : p ++ cellsT C xs k = l) (hx : xs.getD k 0 = x) :
    Value.string ((⟨l.toArray⟩ : ByteArray) ++ (⟨#[59]⟩ : ByteArray) ++ (⟨(Lib.itoa x).toArray⟩ : ByteArray)) = sv (p ++ cellsT C xs (k + 1)) := by
  rw [cellsT, if_neg hk, if_pos hm, hx, show (⟨#[59]⟩ : ByteArray) = ⟨([59] : List UInt8).toArray⟩ from rfl, bs_append, bs_append, ← hl]
  simp
theorem mat_space {C k : Nat} {xs : List Int} {p l : List UInt8} {x : Int} (hk : ¬ k = 0) (hm : ¬ k % C = 0) (hl : p ++ cellsT C xs k = l) (hx : xs.getD k 0 = x) :
    Value.string ((⟨l.toArray⟩ : ByteArray) ++ (⟨#[32]⟩ : ByteArray) ++ (⟨(Lib.itoa x).toArray⟩ : ByteArray)) = sv (p ++ cellsT C xs (k + 1)) := by
  rw [cellsT, if_neg hk, if_neg hm, hx, show (⟨#[32]⟩ : ByteArray) = ⟨([32] : List UInt8).toArray⟩ from rfl, bs_append, bs_append, ← hl]
  simp
theorem mat_last {R C : Nat} {xs : List Int} {l : List UInt8} (hl : preT R C ++ cellsT C xs xs.length = l) :
    Value.string ((⟨l.toArray⟩ : ByteArray) ++ (⟨#[93]⟩ : ByteArray)) = sv (matT R C xs) := by
  rw [matT_pre, hl, show (⟨#[93]⟩ : ByteArray) = ⟨([93] : List UInt8).toArray⟩ from rfl, bs_append]
set_option maxHeartbeats 4000000 in
theorem specFormatMatrix (r c : Int) (A : Option Addr) (cap : Nat) (xs : List Int) (w : World) (hA : SlI w A xs) (hn : xs.length ≤ 1048576) :
    Calls Tryd.prog 38 #[mv r c (.slice A xs.length cap)] w fun e w' => e = .returned (sv (fmtM r c xs)) ∧ Below w.heap.size w w' := by
  have HA := hide hA; clear hA
  cases hm : isMat r c xs
  · have HM := hide hm
    go_enter Tryd.func38, Tryd.ntmps38
    go_wp2_with (go_at_call 19; refine (specIsMatrix r c A cap xs _ (SlI.below HA.out (by repeat' (first | exact Below.refl _ _ | (refine Below.alloc ?_ ?_ _) | (refine Below.setCell ?_ ?_ _) | (refine Below.drew ?_) | (refine below_drewN ?_ _) | (refine Below.trans ?_ (Below.mono (by assumption) ?_)) | omega | (simp only [World.size_alloc, World.size_setCell, World.size_drew, size_drewN]; omega)))) hn).mono ?_; rintro e w1 ⟨rfl, hb⟩; obtain ⟨hc, hf⟩ := bcell hb; have hz := hb.size; (try simp only [World.size_alloc, World.size_setCell, World.size_drew, size_drewN] at hz); (first | have hs := up3 hz | have hs := up2 hz | have hs := up1 hz | have hs := up0 hz); (try have q10 := hs _ q9); (try have q9 := hs _ q8); (try have q8 := hs _ q7); (try have q7 := hs _ q6); (try have q6 := hs _ q5); (try have q5 := hs _ q4); (try have q4 := hs _ q3); (try have q3 := hs _ q2); (try have q2 := hs _ q1); (try have p7 := hs _ p6); (try have p6 := hs _ p5); (try have p5 := hs _ p4); (try have p4 := hs _ p3); (try have p3 := hs _ p2); (try have p2 := hs _ p1); (try have q1 := new1 hz); (try have p1 := new2 hz); (try have r1 := new3 hz))
    go_returns
    exact ⟨by rw [fmtM_no HM.out]; rfl, (by repeat' (first | exact Below.refl _ _ | (refine Below.alloc ?_ ?_ _) | (refine Below.setCell ?_ ?_ _) | (refine Below.drew ?_) | (refine below_drewN ?_ _) | (refine Below.trans ?_ (Below.mono (by assumption) ?_)) | omega | (simp only [World.size_alloc, World.size_setCell, World.size_drew, size_drewN]; omega)))⟩
  · obtain ⟨h1, h2, h3, h4, h5, h6, h7⟩ := isMat_t hm
    obtain ⟨R, rfl⟩ : ∃ R : Nat, r = R := ⟨r.toNat, by omega⟩
    obtain ⟨C, rfl⟩ : ∃ C : Nat, c = C := ⟨c.toNat, by omega⟩
    have hR : R ≤ 24 := by omega
    have hC : C ≤ 24 := by omega
    have HM := hide hm
    have HE := hide h5
    have HN := hide h6
    have HF := hide (fmtM_yes hm)
    clear h1 h2 h3 h4 h5 h6 hm
    have HCL := hide fun k hk => cellsT_len (c := C) (xs := xs) (fun x hx => num_i64 (HN.out x hx)) k hk
    have HPL := hide (pre_len hR hC)
    have Q1 : Hid (∀ (w : World) (m : Nat), Calls Tryd.prog 58 #[.int .i64 (R : Int)] (w.drewN m) fun e w'' => e = .returned (sv (Lib.itoa R)) ∧ ∃ k, w'' = w.drewN k) := fun w m => Calls.quiet_of_same ((specFormatInt R (by omega) (by omega) (w.drewN m)).mono fun _ _ h => ⟨h.1, h.2.symm⟩)
    have Q2 : Hid (∀ (w : World) (m : Nat), Calls Tryd.prog 58 #[.int .i64 (C : Int)] (w.drewN m) fun e w'' => e = .returned (sv (Lib.itoa C)) ∧ ∃ k, w'' = w.drewN k) := fun w m => Calls.quiet_of_same ((specFormatInt C (by omega) (by omega) (w.drewN m)).mono fun _ _ h => ⟨h.1, h.2.symm⟩)
    have HPV : Hid (Value.string ((⟨(Lib.itoa R).toArray⟩ : ByteArray) ++ (⟨#[120]⟩ : ByteArray) ++ (⟨(Lib.itoa C).toArray⟩ : ByteArray) ++ (⟨#[91]⟩ : ByteArray)) = sv (preT R C)) := pre_val
    have L1 := itoa_len (n := (R : Int)) (by omega) (by omega)
    have L2 := itoa_len (n := (C : Int)) (by omega) (by omega)
    obtain ⟨a, ha⟩ : ∃ a, Lib.itoa (R : Int) = a := ⟨_, rfl⟩
    obtain ⟨b, hb⟩ : ∃ b, Lib.itoa (C : Int) = b := ⟨_, rfl⟩
    rw [ha] at Q1 HPV L1
    rw [hb] at Q2 HPV L2
    clear ha hb
    have s1 : ¬ (9223372036854775807 < a.length + 1) := by omega
    have s2 : ¬ (9223372036854775807 < a.length + 1 + b.length) := by omega
    have s3 : ¬ (9223372036854775807 < a.length + (1 + b.length)) := by omega
    have s4 : ¬ (9223372036854775807 < a.length + 1 + b.length + 1) := by omega
    have s5 : ¬ (9223372036854775807 < a.length + (1 + b.length) + 1) := by omega
    have s6 : ¬ (9223372036854775807 < a.length + (1 + (b.length + 1))) := by omega
    clear L1 L2
    go_enter Tryd.func38, Tryd.ntmps38
    go_wp2_with (go_at_call 19; refine (specIsMatrix R C A cap xs _ (SlI.below HA.out (by repeat' (first | exact Below.refl _ _ | (refine Below.alloc ?_ ?_ _) | (refine Below.setCell ?_ ?_ _) | (refine Below.drew ?_) | (refine below_drewN ?_ _) | (refine Below.trans ?_ (Below.mono (by assumption) ?_)) | omega | (simp only [World.size_alloc, World.size_setCell, World.size_drew, size_drewN]; omega)))) hn).mono ?_; rintro e w1 ⟨rfl, hb⟩; rw [HM.out]; obtain ⟨hc, hf⟩ := bcell hb; have hz := hb.size; (try simp only [World.size_alloc, World.size_setCell, World.size_drew, size_drewN] at hz); (first | have hs := up3 hz | have hs := up2 hz | have hs := up1 hz | have hs := up0 hz); (try have q10 := hs _ q9); (try have q9 := hs _ q8); (try have q8 := hs _ q7); (try have q7 := hs _ q6); (try have q6 := hs _ q5); (try have q5 := hs _ q4); (try have q4 := hs _ q3); (try have q3 := hs _ q2); (try have q2 := hs _ q1); (try have p7 := hs _ p6); (try have p6 := hs _ p5); (try have p5 := hs _ p4); (try have p4 := hs _ p3); (try have p3 := hs _ p2); (try have p2 := hs _ p1); (try have q1 := new1 hz); (try have p1 := new2 hz); (try have r1 := new3 hz))
    go_quiet (first
      | (go_at_call_of 58 (Value.int IntKind.i64 (R : Int)); exact Q1.out _ _)
      | (go_at_call_of 58 (Value.int IntKind.i64 (C : Int)); exact Q2.out _ _))
    go_wp2
    rw [HPV.out]
    have q1 : w.heap.size < w1.heap.size := by have := hz; omega
    go_loop [3, 4] (fun s i => ∃ (k : Nat), k ≤ xs.length ∧ i = .int .i64 k ∧ s = sv (preT R C ++ cellsT C xs k)) (fun _ i => xs.length - (intOf i).toNat)
    case atStart => exact ⟨0, Nat.zero_le _, rfl, by simp [cellsT]⟩
    case round =>
      obtain ⟨k, hk, rfl, rfl⟩ := hrel
      by_cases hlt : k < xs.length
      · obtain ⟨g, off, rfl, hc2⟩ := HA.out (by omega)
        have hcx : w1.cell? ⟨g, off + k, none⟩ = some (.int .i64 (xs.getD k 0)) := (hc g (off + k) (by have := World.block_lt_of_cell? w _ (hc2 k hlt); simp at this ⊢; omega)).trans (by simpa using kc_alloc (hc2 k hlt))
        obtain ⟨x, hx⟩ : ∃ x, xs.getD k 0 = x := ⟨_, rfl⟩
        have hxm : x ∈ xs := by rw [← hx]; simp [List.getD, hlt]
        obtain ⟨x0, x1⟩ := num_i64 (HN.out x hxm)
        have C1 := hide fun (w : World) => specFormatInt x x0 x1 w
        have L1 := itoa_len x0 x1
        rw [hx] at hcx
        have HX := hide hx
        have L0 := HCL.out k hk
        have LP := HPL.out
        clear hx hc2 hxm x0 x1
        obtain ⟨l, hl⟩ : ∃ l, preT R C ++ cellsT C xs k = l := ⟨_, rfl⟩
        have hll : l.length ≤ 13000 := by rw [← hl, List.length_append]; omega
        have HLL := hide hl
        rw [hl]
        clear hl L0 LP
        have s1 : ¬ (9223372036854775807 < l.length + 1) := by omega
        have s2 : ¬ (9223372036854775807 < l.length + 1 + (Lib.itoa x).length) := by omega
        have s3 : ¬ (9223372036854775807 < l.length + (1 + (Lib.itoa x).length)) := by omega
        have s4 : ¬ (9223372036854775807 < l.length + (Lib.itoa x).length) := by omega
        have s5 : ¬ (9223372036854775807 < (Lib.itoa x).length) := by omega
        have hk0 : (0 : Int) ≤ (k : Int) := by omega
        have hk1 : (k : Int) < (xs.length : Int) := by omega
        have hC0 : ¬ C = 0 := fun e => by
          have := HE.out
          rw [e] at this
          simp at this
          subst this
          simp at hlt
        have hC1 : ¬ ((C : Int) = 0) := by omega
        clear L1 hll
        by_cases hz0 : k = 0
        · have d1 : decide ((0 : Int) < (k : Int)) = false := decide_eq_false (by omega)
          have d2 : ¬ (0 < k) := by omega
          have d3 : decide (0 < k) = false := decide_eq_false d2
          have d4 : ¬ ((0 : Int) < (k : Int)) := by omega
          have HZ := hide hz0
          clear hz0 hk0
          go_wp2_with (go_at_call 58; refine (C1.out _).mono ?_; rintro e w2 ⟨rfl, rfl⟩)
          go_round
          case rel => exact ⟨k + 1, by omega, by go_num, mat_first HZ.out HLL.out HX.out⟩
          case measure => simp [intOf]; omega
        · have d1 : decide ((0 : Int) < (k : Int)) = true := decide_eq_true (by omega)
          obtain ⟨m, hm⟩ : ∃ m, k % C = m := ⟨_, rfl⟩
          have hm1 : (k : Int) % (C : Int) = (m : Int) := by rw [← hm]; rfl
          have hm2 : (k : Int).tmod (C : Int) = (m : Int) := by rw [Int.tmod_eq_emod_of_nonneg hk0]; exact hm1
          have HMM := hide hm
          clear hm
          by_cases hm0 : m = 0
          · have d5 : ((m : Int) == 0) = true := by simp [hm0]
            have HK := hide (HMM.out.trans hm0)
            go_wp2_with (go_at_call 58; refine (C1.out _).mono ?_; rintro e w2 ⟨rfl, rfl⟩)
            go_round
            case rel => exact ⟨k + 1, by omega, by go_num, mat_semi hz0 HK.out HLL.out HX.out⟩
            case measure => simp [intOf]; omega
          · have d5 : ((m : Int) == 0) = false := by simp [hm0]
            have HK : Hid (¬ k % C = 0) := by rw [Hid, HMM.out]; exact hm0
            go_wp2_with (go_at_call 58; refine (C1.out _).mono ?_; rintro e w2 ⟨rfl, rfl⟩)
            go_round
            case rel => exact ⟨k + 1, by omega, by go_num, mat_space hz0 HK.out HLL.out HX.out⟩
            case measure => simp [intOf]; omega
      · have hke : k = xs.length := by omega
        subst hke
        have LP := HPL.out
        have L0 := HCL.out _ hk
        obtain ⟨l, hl⟩ : ∃ l, preT R C ++ cellsT C xs xs.length = l := ⟨_, rfl⟩
        have hll : l.length ≤ 13000 := by rw [← hl, List.length_append]; omega
        have HLL := hide hl
        rw [hl]
        clear hl L0 LP
        have s1 : ¬ (9223372036854775807 < l.length + 1) := by omega
        go_wp2
        go_returns
        exact ⟨by rw [HF.out]; exact congrArg Ending.returned (mat_last HLL.out), (by repeat' (first | exact Below.refl _ _ | (refine Below.alloc ?_ ?_ _) | (refine Below.setCell ?_ ?_ _) | (refine Below.drew ?_) | (refine below_drewN ?_ _) | (refine Below.trans ?_ (Below.mono (by assumption) ?_)) | omega | (simp only [World.size_alloc, World.size_setCell, World.size_drew, size_drewN]; omega)))⟩
end Go.Proofs.YtkaiekhmcjojoaaDoor
