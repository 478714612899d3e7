/- The walks of FormatInt. -/
import Derived.Test.YtkaiekhmcjojoaaDoorNumW
import Derived.Test.YtkaiekhmcjojoaaDoorFmtL
import Derived.Test.YtkaiekhmcjojoaaDoorShelf
import Derived.Lib.AppendIntMem
import Derived.LoopTactic
namespace Go.Proofs.YtkaiekhmcjojoaaDoor
open Go.RowKit
set_option linter.unusedSimpArgs false
set_option linter.unusedVariables false
/-- The table of the powers of ten. -/
abbrev Tab10 (w : World) : Prop := Lib.TabIs Tryd.prog w "internal/strconv.uint64pow10" .u64 Lib.pow10Tab
theorem Tab10.below {w w' : World} (h : Tab10 w) (hb : Below w.heap.size w w') : Tab10 w' := Lib.tabBelow_of_tabIs h w' hb
theorem below_grow (w : World) (k : Nat) (os : Array Obj) : Below w.heap.size w (Go.Sort.grow (w.drewN k) os) :=
  ⟨rfl, rfl, rfl, by simp [Go.Sort.grow, World.drewN], fun b hb => by simp [Go.Sort.grow, World.drewN, Array.getElem?_append_left hb]⟩
/-- A string of these bytes. -/
abbrev sv (l : List UInt8) : Value := .string ⟨l.toArray⟩
theorem sv_congr {l l' : List UInt8} (h : l = l') : sv l = sv l' := by rw [h]
theorem bs_append (l l' : List UInt8) : (⟨l.toArray⟩ : ByteArray) ++ (⟨l'.toArray⟩ : ByteArray) = ⟨(l ++ l').toArray⟩ := by
  apply ByteArray.ext
  rw [ByteArray.data_append]
  simp
theorem implFormatInt (n : Int) (h0 : -9223372036854775808 ≤ n) (h1 : n ≤ 9223372036854775807) (w : World) (hT : Tab10 w) :
    Calls Tryd.prog 28 #[.int .i64 n] w fun e w' => e = .returned (sv (Lib.itoa n)) ∧ Below w.heap.size w w' := by
  have ca := Tryd.strconv_Itoa n h0 h1 w hT
  have CA := hide ca
  clear ca hT
  go_enter Tryd.func28, Tryd.ntmps28
  go_wp2_with fail
  refine (CA.out).mono ?_; rintro e w1 ⟨rfl, k, os, rfl⟩
  go_wp2
  go_returns
  exact ⟨rfl, below_grow w k os⟩
theorem digit_fin : ∀ d : Fin 10, (⟨#[48, 49, 50, 51, 52, 53, 54, 55, 56, 57]⟩ : ByteArray).extract d.val (d.val + 1) = ⟨#[UInt8.ofNat (48 + d.val)]⟩ := by decide +kernel
theorem digit_at {D : Nat} (h : D < 10) : (⟨#[48, 49, 50, 51, 52, 53, 54, 55, 56, 57]⟩ : ByteArray).extract D (D + 1) = ⟨#[UInt8.ofNat (48 + D)]⟩ := digit_fin ⟨D, h⟩
theorem digit_cons {D : Nat} (h : D < 10) (l : List UInt8) : Value.string ((⟨#[48, 49, 50, 51, 52, 53, 54, 55, 56, 57]⟩ : ByteArray).extract D (D + 1) ++ (⟨l.toArray⟩ : ByteArray)) = sv (UInt8.ofNat (48 + D) :: l) := by
  rw [digit_at h]
  exact congrArg Value.string (bs_append [UInt8.ofNat (48 + D)] l)
theorem digit_rel {k n : Int} {D : Nat} {l : List UInt8} (hk : k ≠ 0) (hD : k.natAbs % 10 = D) (he : dd k.natAbs ++ l = dd n.natAbs) {q : Int} (hq : q.natAbs = k.natAbs / 10) : dd q.natAbs ++ UInt8.ofNat (48 + D) :: l = dd n.natAbs := by
  rw [← he, dd_step (u := k.natAbs) (by omega), hD, hq]
  simp
theorem tdiv_abs (k : Int) : (k.tdiv 10).natAbs = k.natAbs / 10 := by rw [Int.natAbs_tdiv]; rfl
theorem tmod_neg {k : Int} (h : k < 0) : k.tmod 10 = -((k.natAbs % 10 : Nat) : Int) := by
  obtain ⟨m, rfl⟩ : ∃ m : Nat, k = -(m : Int) := ⟨k.natAbs, by omega⟩
  rw [Int.neg_tmod, Int.tmod_eq_emod_of_nonneg (by omega), Int.natAbs_neg, Int.natAbs_natCast]
  push_cast
  rfl
theorem itoa_neg {n : Int} (h : n < 0) : Lib.itoa n = 45 :: dd n.natAbs := by rw [Lib.itoa, if_pos h, dd_pos (by omega)]
theorem itoa_pos {n : Int} (h : 0 < n) : Lib.itoa n = dd n.natAbs := by rw [Lib.itoa, if_neg (by omega), dd_pos (by omega)]; congr 1; omega
theorem itoa_zero : Lib.itoa 0 = [48] := by rw [Lib.itoa, if_neg (by decide)]; exact Lib.decDigits_one (by decide)
set_option maxHeartbeats 2000000 in
theorem specFormatInt (n : Int) (h0 : -9223372036854775808 ≤ n) (h1 : n ≤ 9223372036854775807) (w : World) :
    Calls Tryd.prog 58 #[.int .i64 n] w fun e w' => e = .returned (sv (Lib.itoa n)) ∧ w = w' := by
  have HL : Hid ((dd n.natAbs).length ≤ 25) := dd_len (by omega)
  go_enter Tryd.func58, Tryd.ntmps58
  go_wp2
  go_loop [3, 4] (fun s x => ∃ (k : Int) (l : List UInt8), x = .int .i64 k ∧ (-9223372036854775808 ≤ k ∧ k ≤ 9223372036854775807) ∧ s = sv l ∧ dd k.natAbs ++ l = dd n.natAbs) (fun _ x => (intOf x).natAbs)
  case atStart => exact ⟨n, [], rfl, ⟨h0, h1⟩, rfl, by simp⟩
  case round =>
    obtain ⟨k, l, rfl, ⟨k0, k1⟩, rfl, he⟩ := hrel
    have hll : l.length ≤ 25 := by
      have := congrArg List.length he
      have := HL.out
      simp only [List.length_append] at *
      omega
    have hno : ¬ (9223372036854775807 < 1 + l.length) := by omega
    by_cases hk : k = 0
    · subst hk
      have hl : l = dd n.natAbs := by simpa [dd_zero] using he
      clear he
      have HLL := hide hl
      clear hl
      rcases Int.lt_trichotomy n 0 with hn | hn | hn
      · have e1 : (n == 0) = false := by simp; omega
        go_wp2
        go_ret
        exact ⟨by rw [itoa_neg hn, ← HLL.out]; exact congrArg (fun x => Ending.returned (Value.string x)) (bs_append [45] l), rfl⟩
      · subst hn
        go_wp2
        go_ret
        exact ⟨by rw [itoa_zero]; rfl, rfl⟩
      · have e1 : (n == 0) = false := by simp; omega
        have e2 : decide (n < 0) = false := decide_eq_false (by omega)
        go_wp2
        go_ret
        exact ⟨by rw [itoa_pos hn, ← HLL.out]; rfl, rfl⟩
    · have HE := hide he
      clear he
      obtain ⟨D, hD⟩ : ∃ D, k.natAbs % 10 = D := ⟨_, rfl⟩
      have hD9 : D < 10 := by omega
      have HD := hide hD
      have e0 : (k == 0) = false := by simpa using hk
      have e0' : (k != 0) = true := by simpa using hk
      rcases Int.lt_or_gt_of_ne hk with hlt | hgt
      · have e1 : k.tmod 10 = -(D : Int) := by rw [tmod_neg hlt, hD]
        clear hD
        have hq := tdiv_abs k
        have HQ := hide hq
        have hb : -9223372036854775808 ≤ k.tdiv 10 ∧ k.tdiv 10 ≤ 9223372036854775807 := by omega
        have HB := hide hb
        have HM : Hid ((k.tdiv 10).natAbs < k.natAbs) := by rw [Hid]; omega
        clear hq hb
        by_cases hd0 : D = 0
        · subst hd0
          go_wp2
          go_round
          case rel => exact ⟨k.tdiv 10, _, rfl, HB.out, digit_cons (D := 0) (by decide) l, digit_rel hk HD.out HE.out HQ.out⟩
          case measure => exact HM.out
        · have d1 : decide (-(D : Int) < 0) = true := decide_eq_true (by omega)
          go_wp2
          go_round
          case rel => exact ⟨k.tdiv 10, _, rfl, HB.out, digit_cons hD9 l, digit_rel hk HD.out HE.out HQ.out⟩
          case measure => exact HM.out
      · have e1 : k % 10 = (D : Int) := by rw [← hD]; omega
        clear hD
        have d1 : decide ((D : Int) < 0) = false := decide_eq_false (by omega)
        have HQ : Hid ((k / 10).natAbs = k.natAbs / 10) := by rw [Hid]; omega
        have HB : Hid (-9223372036854775808 ≤ k / 10 ∧ k / 10 ≤ 9223372036854775807) := by rw [Hid]; omega
        have HM : Hid ((k / 10).natAbs < k.natAbs) := by rw [Hid]; omega
        go_wp2
        go_round
        case rel => exact ⟨k / 10, _, rfl, HB.out, digit_cons hD9 l, digit_rel hk HD.out HE.out HQ.out⟩
        case measure => exact HM.out
end Go.Proofs.YtkaiekhmcjojoaaDoor
