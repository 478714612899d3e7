/- The walks of DivideFloor. -/
import Derived.Test.YtkaiekhmcjojoaaDoorFloorW
namespace Go.Proofs.YtkaiekhmcjojoaaDoor
open Go.RowKit
set_option linter.unusedSimpArgs false
set_option linter.unusedVariables false

/-- Quotient, remainder, and whether there is one. -/
def divOk (n d : Int) : Bool := isNum n && isNum d && (d != 0)
def divQ (n d : Int) : Int := if divOk n d = true then n / d else 0
def divR (n d : Int) : Int := if divOk n d = true then n % d else 0
theorem divOk_no1 {n d : Int} (h : isNum n = false) : divOk n d = false := by simp [divOk, h]
theorem divOk_no2 {n d : Int} (h : isNum d = false) : divOk n d = false := by simp [divOk, h]
theorem divOk_no3 {n : Int} : divOk n 0 = false := by simp [divOk]
theorem divOk_yes {n d : Int} (h : isNum n = true) (h' : isNum d = true) (h0 : d ≠ 0) : divOk n d = true := by simp [divOk, h, h', h0]


theorem div_neg_d {n d : Int} (h : d < 0) : n / d = -(n / (d.natAbs : Int)) ∧ n % d = n % (d.natAbs : Int) := by
  have e : (d.natAbs : Int) = -d := by omega
  rw [e, Int.ediv_neg, Int.emod_neg]; omega
theorem div_pos_d {n d : Int} (h : 0 < d) : n / d = n / (d.natAbs : Int) ∧ n % d = n % (d.natAbs : Int) := by
  have e : (d.natAbs : Int) = d := by omega
  rw [e]; omega

/-- What the program's walk wants to know. -/
theorem div_facts_impl {n d : Int} (ha : isNum n = true) (hb : isNum d = true) (h0 : d ≠ 0) : ∃ x m : Int, ((d.natAbs : Int) = x) ∧ n.tmod d = m ∧ 0 ≤ x ∧ x ≤ 400000000 ∧ -400000000 ≤ m ∧ m ≤ 400000000 ∧
    (m < 0 → divR n d = m + x ∧ divQ n d = (n - (m + x)).tdiv d ∧ -800000000 ≤ (n - (m + x)).tdiv d ∧ (n - (m + x)).tdiv d ≤ 800000000) ∧
    (0 ≤ m → divR n d = m ∧ divQ n d = (n - m).tdiv d ∧ -800000000 ≤ (n - m).tdiv d ∧ (n - m).tdiv d ≤ 800000000) := by
  have h1 := isNum_t ha
  have h2 := isNum_t hb
  have hok := divOk_yes ha hb h0
  have hfin : divQ n d = n / d ∧ divR n d = n % d := by simp [divQ, divR, hok]
  have hl := tmod_lt n d h0
  have hfi := floor_impl n d h0
  obtain ⟨_, hq1, hq2⟩ := ediv_in n d h0
  have htd : ((n - n % d).tdiv d).natAbs ≤ (n - n % d).natAbs := Int.natAbs_tdiv_le_natAbs _ _
  refine ⟨d.natAbs, n.tmod d, rfl, rfl, by omega, by omega, by omega, by omega, ?_, ?_⟩
  · intro hneg
    rw [if_pos hneg] at hfi
    rw [hfin.1, hfin.2, hfi.1, hfi.2]
    rw [hfi.2] at htd
    exact ⟨rfl, rfl, by omega, by omega⟩
  · intro hpos
    rw [if_neg (by omega)] at hfi
    rw [hfin.1, hfin.2, hfi.1, hfi.2]
    rw [hfi.2] at htd
    exact ⟨rfl, rfl, by omega, by omega⟩

/-- All that the walks of DivideFloor want to know of the numbers: x = |d|, q = n / x rounded down, t the rest. -/
theorem div_facts {n d : Int} (ha : isNum n = true) (hb : isNum d = true) (h0 : d ≠ 0) : ∃ x q t : Int, ((d.natAbs : Int) = x) ∧ (n / x = q) ∧ x * q = n - t ∧
    1 ≤ x ∧ x ≤ 400000000 ∧ -400000001 ≤ q ∧ q ≤ 400000001 ∧ 0 ≤ t ∧ t ≤ 400000000 ∧ -800000000 ≤ x * q ∧ x * q ≤ 400000000 ∧
    (d < 0 → divQ n d = -q ∧ divR n d = t ∧ n - x * q = t) ∧ (0 < d → divQ n d = q ∧ divR n d = t ∧ n - d * q = t) := by
  have h1 := isNum_t ha
  have h2 := isNum_t hb
  have hok := divOk_yes ha hb h0
  have hfin : divQ n d = n / d ∧ divR n d = n % d := by simp [divQ, divR, hok]
  have hi := ediv_in n d.natAbs (by omega)
  have hm := Int.mul_ediv_add_emod n d.natAbs
  refine ⟨d.natAbs, n / (d.natAbs : Int), n % (d.natAbs : Int), rfl, rfl, by omega, by omega, by omega, by omega, by omega, by omega, by omega, by omega, by omega, ?_, ?_⟩
  · intro hneg
    have h := div_neg_d (n := n) hneg
    rw [hfin.1, hfin.2]
    omega
  · intro hpos
    have h := div_pos_d (n := n) hpos
    have e : (d.natAbs : Int) = d := by omega
    have h3 : d * (n / (d.natAbs : Int)) = (d.natAbs : Int) * (n / (d.natAbs : Int)) := by rw [e]
    rw [hfin.1, hfin.2]
    omega


theorem implDivideFloor (n d : Int) (w : World) :
    Calls Tryd.prog 31 #[.int .i64 n, .int .i64 d] w fun e w' => e = .returned (.tuple #[.int .i64 (divQ n d), .int .i64 (divR n d), .bool (divOk n d)]) ∧ ∃ k, w' = w.drewN k := by
  by_cases ha : isNum n = true
  · by_cases hb : isNum d = true
    · by_cases h0 : d = 0
      · subst h0
        have HF : Hid (divQ n 0 = 0 ∧ divR n 0 = 0 ∧ divOk n 0 = false) := by simp [Hid, divQ, divR, divOk_no3]
        go_enter Tryd.func31, Tryd.ntmps31
        go_wp2_with (go_at_call 60; refine (implIsNumber _ _).mono ?_; rintro e w' ⟨rfl, rfl⟩)
        go_ret3
        exact ⟨ret_iib HF.out.1.symm HF.out.2.1.symm HF.out.2.2.symm, 0, rfl⟩
      · have h1 := isNum_t ha
        have h2 := isNum_t hb
        have hz' : (d == 0) = false := by simpa using h0
        have HK := hide (divOk_yes ha hb h0)
        obtain ⟨x, m, hx, hm, a1, a2, a3, a4, hneg, hpos⟩ := div_facts_impl ha hb h0
        have HX := hide hx; clear hx
        by_cases hs : m < 0
        · obtain ⟨e1, e2, l1, l2⟩ := hneg hs
          have HF := hide (And.intro e1 e2); clear hneg hpos e1 e2
          go_enter Tryd.func31, Tryd.ntmps31
          go_wp2_with (first
            | (go_at_call 60; refine (implIsNumber _ _).mono ?_; rintro e w' ⟨rfl, rfl⟩)
            | (go_at_call 64; refine (absInt_at d x HX _ (by omega) (by omega)).mono ?_; rintro e w' ⟨rfl, rfl⟩))
          go_ret3
          exact ⟨ret_iib HF.out.2.symm HF.out.1.symm HK.out.symm, 0, rfl⟩
        · have hs' : 0 ≤ m := by omega
          obtain ⟨e1, e2, l1, l2⟩ := hpos hs'
          have HF := hide (And.intro e1 e2); clear hneg hpos e1 e2
          go_enter Tryd.func31, Tryd.ntmps31
          go_wp2_with (go_at_call 60; refine (implIsNumber _ _).mono ?_; rintro e w' ⟨rfl, rfl⟩)
          go_ret3
          exact ⟨ret_iib HF.out.2.symm HF.out.1.symm HK.out.symm, 0, rfl⟩
    · have hb' : isNum d = false := by simpa using hb
      have HF : Hid (divQ n d = 0 ∧ divR n d = 0 ∧ divOk n d = false) := by simp [Hid, divQ, divR, divOk_no2 hb']
      go_enter Tryd.func31, Tryd.ntmps31
      go_wp2_with (go_at_call 60; refine (implIsNumber _ _).mono ?_; rintro e w' ⟨rfl, rfl⟩)
      go_ret3
      exact ⟨ret_iib HF.out.1.symm HF.out.2.1.symm HF.out.2.2.symm, 0, rfl⟩
  · have ha' : isNum n = false := by simpa using ha
    have HF : Hid (divQ n d = 0 ∧ divR n d = 0 ∧ divOk n d = false) := by simp [Hid, divQ, divR, divOk_no1 ha']
    go_enter Tryd.func31, Tryd.ntmps31
    go_wp2_with (go_at_call 60; refine (implIsNumber _ _).mono ?_; rintro e w' ⟨rfl, rfl⟩)
    go_ret3
    exact ⟨ret_iib HF.out.1.symm HF.out.2.1.symm HF.out.2.2.symm, 0, rfl⟩
end Go.Proofs.YtkaiekhmcjojoaaDoor
