/- The text of a list of numbers: the reference's walk. -/
import Derived.Test.YtgainadhccjhbaaDoorFmtR
import Derived.Test.YtgainadhccjhbaaDoorMatW
import Derived.Test.YtgainadhccjhbaaDoorOpen
namespace Go.Proofs.YtgainadhccjhbaaDoor
set_option linter.unusedSimpArgs false
set_option linter.unusedVariables false
open Go.RowKit Go.ChangeShapes Go.WideShapes
theorem open_SlIB {H : Type} {enc : TypeId × Value → H} {P : Program} {w : World} {base : Nat} {spare : Nat → Bool} {held : Bool} {fuel : Nat} {t e : TypeId} {v : Value} {y : DataW H × List MemPlace}
    (hc : P.cellsOf e = 1) (ht : P.underlying t = some (.slice e)) (he : P.underlying e = some (.int .i64)) (h : DataW.trod enc P w base spare held fuel t [v] = some y) :
    ∃ A n cap xs, v = .slice A n cap ∧ SlArg w A n cap xs ∧ ∀ x ∈ xs, isI64 x := by
  rcases open_ints ht he hc h with ⟨hcs, _⟩ | ⟨a, len, cap, zs, hcs, _, hl, hm, hz, _, hcell, hwf⟩
  · simp only [List.cons.injEq, and_true] at hcs
    exact ⟨none, 0, 0, [], hcs, ⟨rfl, by simp, SlI.nil⟩, fun x hx => by cases hx⟩
  · simp only [List.cons.injEq, and_true] at hcs
    have hzl : len ≤ zs.length := by rw [hz]; split <;> omega
    refine ⟨some a, len, cap, zs.take len, hcs, ⟨by simp; omega, by simp; omega, fun hp => ?_⟩, fun x hx => bounds_i64 (hwf x (List.mem_of_mem_take hx))⟩
    simp only [List.length_take] at hp
    have h0 := hcell 0 (by omega)
    obtain ⟨b, off, spot⟩ := a
    have hspot : spot = none := by simpa [Addr.add] using World.cell?_spot h0
    subst hspot
    refine ⟨b, off, rfl, fun i hi => ?_⟩
    simp only [List.length_take] at hi
    have h1 := hcell i (by omega)
    have : (zs.take len).getD i 0 = zs.getD i 0 := by simp [List.getD, List.getElem?_take, show i < len from by omega]
    rw [this, ← h1]
    congr 1
    unfold Addr.add
    split <;> simp_all
theorem intsT_take_len {xs : List Int} (h : ∀ x ∈ xs, isI64 x) (hn : xs.length ≤ 1048576) (k : Nat) : (intsT (xs.take k)).length ≤ 23068672 := by
  have h1 := intsT_len (xs := xs.take k) (fun x hx => h x (List.mem_of_mem_take hx))
  have h2 : (xs.take k).length ≤ xs.length := by rw [List.length_take]; omega
  omega
theorem intsT_first {xs : List Int} {k : Nat} {x : Int} {l : List UInt8} (h : k < xs.length) (hk : k = 0) (hl : intsT (xs.take k) = l) (hx : xs.getD k 0 = x) :
    Value.string ((⟨l.toArray⟩ : ByteArray) ++ (⟨(Lib.itoa x).toArray⟩ : ByteArray)) = sv (intsT (xs.take (k + 1))) := by
  rw [intsT_take h, if_pos hk, hx, bs_append]
  subst hk
  rw [← hl]
  rfl
theorem intsT_next {xs : List Int} {k : Nat} {x : Int} {l : List UInt8} (h : k < xs.length) (hk : ¬ k = 0) (hl : intsT (xs.take k) = l) (hx : xs.getD k 0 = x) :
    Value.string ((⟨l.toArray⟩ : ByteArray) ++ (⟨#[32]⟩ : ByteArray) ++ (⟨(Lib.itoa x).toArray⟩ : ByteArray)) = sv (intsT (xs.take (k + 1))) := by
  rw [intsT_take h, if_neg hk, hx, hl, show (⟨#[32]⟩ : ByteArray) = ⟨([32] : List UInt8).toArray⟩ from rfl, bs_append, bs_append]
set_option maxHeartbeats 2000000 in
theorem specFormatInts (A : Option Addr) (cap : Nat) (xs : List Int) (w : World) (hA : SlI w A xs) (hn : xs.length ≤ 1048576) (hb : ∀ x ∈ xs, isI64 x) :
    Calls Tryd.prog 12 #[.slice A xs.length cap] w fun e w' => e = .returned (sv (intsT xs)) ∧ w = w' := by
  have HL := hide fun k => intsT_take_len hb hn k
  have HB := hide hb
  clear hb
  have HA := hide hA
  clear hA
  go_enter Tryd.func12, Tryd.ntmps12
  go_wp2
  go_loop [3, 4] (fun s i => ∃ (k : Nat), k ≤ xs.length ∧ i = .int .i64 k ∧ s = sv (intsT (xs.take k))) (fun _ i => xs.length - (intOf i).toNat)
  case atStart => exact ⟨0, Nat.zero_le _, rfl, rfl⟩
  case round =>
    obtain ⟨k, hk, rfl, rfl⟩ := hrel
    by_cases hlt : k < xs.length
    · obtain ⟨g, off, rfl, hc⟩ := HA.out (by omega)
      have hcx := hc k hlt
      obtain ⟨x, hx⟩ : ∃ x, xs.getD k 0 = x := ⟨_, rfl⟩
      have hxm : x ∈ xs := by rw [← hx]; simp [List.getD, hlt]
      obtain ⟨x0, x1⟩ := HB.out x hxm
      have C1 := hide fun (w : World) => specFormatInt x x0 x1 w
      have L1 := itoa_len x0 x1
      rw [hx] at hcx
      have HX := hide hx
      have L0 := HL.out k
      clear hx hc hxm x0 x1
      obtain ⟨l, hl⟩ : ∃ l, intsT (xs.take k) = l := ⟨_, rfl⟩
      rw [hl] at L0 ⊢
      have HLL := hide hl
      clear hl
      have s1 : ¬ (9223372036854775807 < l.length + 1) := by omega
      have s2 : ¬ (9223372036854775807 < l.length + 1 + (Lib.itoa x).length) := by omega
      have s3 : ¬ (9223372036854775807 < l.length + (1 + (Lib.itoa x).length)) := by omega
      have s4 : ¬ (9223372036854775807 < l.length + (Lib.itoa x).length) := by omega
      have s5 : ¬ (9223372036854775807 < (Lib.itoa x).length) := by omega
      have hk0 : (0 : Int) ≤ (k : Int) := by omega
      have hk1 : (k : Int) < (xs.length : Int) := by omega
      clear L0 L1
      by_cases hz : k = 0
      · have d1 : decide ((0 : Int) < (k : Int)) = false := decide_eq_false (by omega)
        have d2 : ¬ (0 < k) := by omega
        have d3 : decide (0 < k) = false := decide_eq_false d2
        have d4 : ¬ ((0 : Int) < (k : Int)) := by omega
        have HZ := hide hz
        clear hz hk0
        go_wp2_with (go_at_call 7; refine (C1.out _).mono ?_; rintro e w2 ⟨rfl, rfl⟩)
        go_round
        case rel => exact ⟨k + 1, by omega, by go_num, intsT_first hlt HZ.out HLL.out HX.out⟩
        case measure => simp [intOf]; omega
      · have d1 : decide ((0 : Int) < (k : Int)) = true := decide_eq_true (by omega)
        go_wp2_with (go_at_call 7; refine (C1.out _).mono ?_; rintro e w2 ⟨rfl, rfl⟩)
        go_round
        case rel => exact ⟨k + 1, by omega, by go_num, intsT_next hlt hz HLL.out HX.out⟩
        case measure => simp [intOf]; omega
    · have hke : k = xs.length := by omega
      have HE : Hid (intsT (xs.take k) = intsT xs) := by rw [Hid, hke, List.take_length]
      rw [HE.out]
      go_wp2
      go_ret
      exact ⟨rfl, rfl⟩
end Go.Proofs.YtgainadhccjhbaaDoor
