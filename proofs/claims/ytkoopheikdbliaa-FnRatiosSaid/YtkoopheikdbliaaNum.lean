/- Plain laws on whole numbers: no program in sight. -/
import Derived.WalkKit
import Derived.Deep.Draws
namespace Go.Proofs.Ytkoopheikdbliaa
open Go.RowKit
set_option linter.unusedSimpArgs false
set_option linter.unusedVariables false

theorem ret_int {k : IntKind} {a b : Int} (h : a = b) : Ending.returned (.int k a) = .returned (.int k b) := by rw [h]
theorem ret_bool {a b : Bool} (h : a = b) : Ending.returned (.bool a) = .returned (.bool b) := by rw [h]

theorem ret_iib {a b a' b' : Int} {c c' : Bool} (h1 : a = a') (h2 : b = b') (h3 : c = c') :
    Ending.returned (.tuple #[.int .i64 a, .int .i64 b, .bool c]) = .returned (.tuple #[.int .i64 a', .int .i64 b', .bool c']) := by rw [h1, h2, h3]
theorem ret_ib {a a' : Int} {c c' : Bool} (h1 : a = a') (h3 : c = c') :
    Ending.returned (.tuple #[.int .i64 a, .bool c]) = .returned (.tuple #[.int .i64 a', .bool c']) := by rw [h1, h3]
theorem up0 {a c : Nat} (h : a ≤ c) : ∀ b, b < a → b < c := fun _ hb => Nat.lt_of_lt_of_le hb h
theorem up1 {a c : Nat} (h : a + 1 ≤ c) : ∀ b, b < a → b < c := fun _ hb => by omega
theorem up2 {a c : Nat} (h : a + 1 + 1 ≤ c) : ∀ b, b < a → b < c := fun _ hb => by omega
theorem up3 {a c : Nat} (h : a + 1 + 1 + 1 ≤ c) : ∀ b, b < a → b < c := fun _ hb => by omega
theorem new1 {a c : Nat} (h : a + 1 ≤ c) : a < c := h
theorem new2 {a c : Nat} (h : a + 1 + 1 ≤ c) : a < c := by omega
theorem new3 {a c : Nat} (h : a + 1 + 1 + 1 ≤ c) : a < c := by omega
theorem size_drewN (w : World) (n : Nat) : (w.drewN n).heap.size = w.heap.size := rfl
theorem below_drewN {B : Nat} {a w : World} (h : Below B a w) (n : Nat) : Below B a (w.drewN n) := ⟨h.os, h.tape, h.output, h.size, h.block⟩
theorem bcell {W w1 : World} (hb : Below W.heap.size W w1) : (∀ b o, b < W.heap.size → w1.cell? ⟨b, o, none⟩ = W.cell? ⟨b, o, none⟩) ∧ (∀ b o, b < W.heap.size → w1.frozen? ⟨b, o, none⟩ = W.frozen? ⟨b, o, none⟩) :=
  ⟨fun b o h => hb.cell (p := ⟨b, o, none⟩) h, fun b o h => hb.frozen (p := ⟨b, o, none⟩) h⟩
/-! What a region keeps: cells that are known, and what lies below. -/
theorem kc_call {w w1 : World} {a : Addr} {v : Value} (h : w.cell? a = some v) (hb : Below w.heap.size w w1) : w1.cell? a = some v := (hb.cell (World.block_lt_of_cell? w a h)).trans h
theorem kc_alloc {w : World} {a : Addr} {v : Value} {o : Obj} (h : w.cell? a = some v) : (w.alloc o).cell? a = some v := (World.cell?_alloc_lt w o a (World.block_lt_of_cell? w a h)).trans h
theorem kc_drew {w : World} {a : Addr} {v : Value} (h : w.cell? a = some v) : w.drew.cell? a = some v := h
theorem kc_set {w : World} {a p : Addr} {v u : Value} (h : w.cell? a = some v) (hp : p.block ≠ a.block) : (w.setCell p u).cell? a = some v := (World.cell?_setCell_other w p a u (fun e => hp (by rw [e]))).trans h
theorem kb_call {B : Nat} {W w w1 : World} (h : Below B W w) (hB : B ≤ W.heap.size) (hb : Below w.heap.size w w1) : Below B W w1 := h.trans (hb.mono (Nat.le_trans hB h.size))
theorem kb_alloc {B : Nat} {W w : World} {o : Obj} (h : Below B W w) (hB : B ≤ W.heap.size) : Below B W (w.alloc o) := h.alloc (Nat.le_trans hB h.size) o
theorem hide {p : Prop} (h : p) : Hid p := h

/-- The number is within the limit. -/
def isNum (n : Int) : Bool := decide (-400000000 ≤ n ∧ n ≤ 400000000)
theorem isNum_t {n : Int} (h : isNum n = true) : -400000000 ≤ n ∧ n ≤ 400000000 := by simpa [isNum] using h
theorem isNum_f {n : Int} (h : isNum n = false) : ¬ (-400000000 ≤ n ∧ n ≤ 400000000) := by simpa [isNum] using h
theorem isNum_mk {n : Int} (h : -400000000 ≤ n ∧ n ≤ 400000000) : isNum n = true := by simpa [isNum] using h
theorem isNum_no {n : Int} (h : ¬ (-400000000 ≤ n ∧ n ≤ 400000000)) : isNum n = false := by simpa [isNum] using h

theorem tmod_lt (p q : Int) (hq : q ≠ 0) : (p.tmod q).natAbs < q.natAbs := by
  rw [Int.natAbs_tmod]; exact Nat.mod_lt _ (by omega)
theorem tmod_in (p q : Int) (hq : q ≠ 0) (h : -9223372036854775808 < q) (h' : q ≤ 9223372036854775807) : -9223372036854775808 < p.tmod q ∧ p.tmod q ≤ 9223372036854775807 := by
  have := tmod_lt p q hq; omega
theorem gcd_tmod (p q : Int) : Int.gcd q (p.tmod q) = Int.gcd p q := by
  rw [Int.gcd, Int.gcd, Int.natAbs_tmod, Nat.gcd_comm, ← Nat.gcd_rec, Nat.gcd_comm]
theorem tmod_sign (p q : Int) : (0 ≤ p → 0 ≤ p.tmod q) ∧ (p ≤ 0 → p.tmod q ≤ 0) := by
  constructor
  · exact fun h => Int.tmod_nonneg q h
  · intro h
    have := Int.tmod_nonneg q (show 0 ≤ -p by omega)
    rw [Int.neg_tmod] at this
    omega

/-- Euclid's division is the only one. -/
theorem div_unique (n d q r : Int) (h : n = q * d + r) (h0 : 0 ≤ r) (h1 : r < d.natAbs) : n / d = q ∧ n % d = r := by
  have hr : n % d = r := by
    rw [h, Int.add_comm, Int.add_mul_emod_self_right]
    by_cases hd : d < 0
    · rw [← Int.emod_neg]; exact Int.emod_eq_of_lt h0 (by omega)
    · exact Int.emod_eq_of_lt h0 (by omega)
  refine ⟨?_, hr⟩
  have h2 := Int.mul_ediv_add_emod n d
  rw [hr] at h2
  have hd : d ≠ 0 := by intro e; subst e; simp at h1; omega
  have h3 : d * (n / d) = d * q := by rw [Int.mul_comm d q]; omega
  exact Int.eq_of_mul_eq_mul_left hd h3

/-- The program's way. -/
theorem floor_impl (n d : Int) (hd : d ≠ 0) : (if n.tmod d < 0 then n.tmod d + (d.natAbs : Int) else n.tmod d) = n % d ∧ (n - n % d).tdiv d = n / d := by
  have h1 := Int.mul_tdiv_add_tmod n d
  have h2 := tmod_lt n d hd
  have h3 : n % d = (if n.tmod d < 0 then n.tmod d + (d.natAbs : Int) else n.tmod d) := by
    split
    · rcases Int.natAbs_eq d with e | e
      · exact (div_unique n d (n.tdiv d - 1) _ (by rw [Int.sub_mul, Int.mul_comm (n.tdiv d)]; omega) (by omega) (by omega)).2
      · exact (div_unique n d (n.tdiv d + 1) _ (by rw [Int.add_mul, Int.mul_comm (n.tdiv d)]; omega) (by omega) (by omega)).2
    · exact (div_unique n d (n.tdiv d) _ (by rw [Int.mul_comm (n.tdiv d)]; omega) (by omega) (by omega)).2
  refine ⟨h3.symm, ?_⟩
  have h4 := Int.mul_ediv_add_emod n d
  have h5 : n - n % d = d * (n / d) := by omega
  rw [h5, Int.mul_tdiv_cancel_left _ hd]

/-- The reference's way to round down, d positive. -/
theorem floor_spec (n d : Int) (hd : 0 < d) : (if n.tmod d < 0 then n.tdiv d - 1 else n.tdiv d) = n / d := by
  have h1 := Int.mul_tdiv_add_tmod n d
  have h2 := tmod_lt n d (by omega)
  split
  · exact (div_unique n d (n.tdiv d - 1) (n.tmod d + d) (by rw [Int.sub_mul, Int.mul_comm (n.tdiv d)]; omega) (by omega) (by omega)).1.symm
  · exact (div_unique n d (n.tdiv d) (n.tmod d) (by rw [Int.mul_comm (n.tdiv d)]; omega) (by omega) (by omega)).1.symm

theorem ediv_in (n d : Int) (hd : d ≠ 0) : (n / d).natAbs ≤ n.natAbs + 1 ∧ (0 ≤ n % d) ∧ (n % d < d.natAbs) := by
  have h0 := Int.emod_nonneg n hd
  have h1 := Int.emod_lt n hd
  refine ⟨?_, h0, h1⟩
  have h2 := Int.mul_ediv_add_emod n d
  generalize n / d = q at *
  generalize n % d = r at *
  have h3 : (d * q).natAbs = d.natAbs * q.natAbs := Int.natAbs_mul d q
  have h4 : d.natAbs * q.natAbs ≤ n.natAbs + r.natAbs := by rw [← h3]; omega
  have hd1 : 1 ≤ d.natAbs := by omega
  rcases Nat.lt_or_ge q.natAbs (n.natAbs + 2) with h | h
  · omega
  · exfalso
    obtain ⟨k, hk⟩ : ∃ k, d.natAbs = k + 1 := ⟨d.natAbs - 1, by omega⟩
    obtain ⟨j, hj⟩ : ∃ j, q.natAbs = j + 2 := ⟨q.natAbs - 2, by omega⟩
    rw [hk, hj] at h4
    have : (k + 1) * (j + 2) = k * j + 2 * k + j + 2 := by rw [Nat.add_mul, Nat.mul_add]; omega
    have : 0 ≤ k * j := Nat.zero_le _
    omega
end Go.Proofs.Ytkoopheikdbliaa
