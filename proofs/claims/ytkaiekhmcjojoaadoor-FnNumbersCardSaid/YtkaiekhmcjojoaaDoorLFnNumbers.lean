/- FnNumbers: the law's walk. -/
import Derived.Test.YtkaiekhmcjojoaaDoorPrsW
import Derived.Test.YtkaiekhmcjojoaaDoorDrawN
import Derived.Test.YtkaiekhmcjojoaaDoorDivW
namespace Go.Proofs.YtkaiekhmcjojoaaDoor
open Go.RowKit
set_option linter.unusedSimpArgs false
set_option linter.unusedVariables false
theorem div_law {a d : Int} (h : divOk a d = true) : ∃ q r p m : Int, divQ a d = q ∧ divR a d = r ∧ q * d = p ∧ p + r = a ∧ (d.natAbs : Int) = m ∧ 0 ≤ r ∧ r < m ∧ (-400000000 ≤ a ∧ a ≤ 400000000) ∧ (-400000000 ≤ d ∧ d ≤ 400000000) := by
  have hh := h
  simp only [divOk, Bool.and_eq_true, bne_iff_ne, ne_eq] at h
  obtain ⟨⟨h1, h2⟩, h3⟩ := h
  refine ⟨_, _, _, _, rfl, rfl, rfl, ?_, rfl, ?_, ?_, isNum_t h1, isNum_t h2⟩
  · rw [divQ, divR, if_pos hh, if_pos hh, Int.mul_comm]; exact Int.mul_ediv_add_emod a d
  · rw [divR, if_pos hh]; exact Int.emod_nonneg _ h3
  · rw [divR, if_pos hh]; exact Int.emod_lt a h3
set_option maxHeartbeats 4000000 in
theorem walkFnNumbers (A : Option Addr) (l cap : Nat) (xs : List Int) (w : World) (hs : SlBArg w A l cap xs) (hE : Env w) :
    Calls Tryd.prog 7 #[.slice A l cap] w fun e w' => e = .returned (.bool true) ∧ Below w.heap.size w w' := by
  obtain ⟨hx, hm, hs⟩ := hs
  clear hx
  unfold maxLen at hm
  have HE := hide hE
  have HS := hide hs
  clear hE hs
  by_cases hn : l ≤ 1048576
  · go_enter Tryd.func7, Tryd.ntmps7
    go_wp2_with fail
    refine (lawBig_no A l cap _ hn).mono ?_; rintro e w0 ⟨rfl, rfl⟩
    go_wp2_with fail
    refine (drawFmtInt A l cap _ HS.out hn).mono ?_; rintro e w1 ⟨⟨n, rfl, n0, n1⟩, hb⟩
    have HB1 := hide hb
    clear hb
    have CF := hide fun (w : World) hT => implFormatInt n n0 n1 w hT
    have L := itoa_len n0 n1
    have CP := hide fun (w : World) (hE : Env w) => implParseInt (Lib.itoa n) (by omega) w hE
    have CN := hide fun (w : World) => specIsNumber n w
    obtain ⟨t, ht⟩ : ∃ t, Lib.itoa n = t := ⟨_, rfl⟩
    have hp : parseI t = if isNum n = true then some n else none := by
      rw [← ht]
      cases hi : isNum n
      · rw [parseI_big hi]; rfl
      · rw [parseI_itoa hi]; rfl
    rw [ht] at CF CP
    clear ht L
    go_wp2_with fail
    refine (CF.out _ (HE.out.1.below HB1.out)).mono ?_; rintro e w2 ⟨rfl, hb⟩
    have HB2 := hide (kb_call HB1.out (Nat.le_refl _) hb)
    clear hb
    rw [hp] at CP
    clear hp n0 n1
    cases hi : isNum n
    all_goals
      rw [hi] at CP CN
      clear hi
      simp only [piV, if_true, if_false, Bool.false_eq_true] at CP
      have e1 : (n != n) = false := by simp
      go_wp2_with fail
      refine (CP.out _ (HE.out.below HB2.out)).mono ?_; rintro e w3 ⟨rfl, hb⟩
      have HB3 := hide (kb_call HB2.out (Nat.le_refl _) hb)
      clear hb
      go_wp2_with fail
      refine (CN.out _).mono ?_; rintro e w3 ⟨rfl, rfl⟩
      go_wp2_with fail
      refine (drawDivFloor A l cap _ ((HS.out.below HB3.out).mono HB3.out.size) hn).mono ?_; rintro e w4 ⟨⟨a, d, rfl, ha, hd⟩, hb⟩
      have HB4 := hide (kb_call HB3.out (Nat.le_refl _) hb)
      clear hb
      have CD := hide fun (w : World) => implDivideFloor a d w
      rcases Bool.eq_false_or_eq_true (divOk a d) with hk | hk
      · obtain ⟨q, r, p, m, e2, e3, e4, e5, e6, h0, h1, hA, hD⟩ := div_law hk
        rw [hk, e2, e3] at CD
        have CA := hide fun (w : World) => lawAbs_at d m e6 w (by omega) (by omega)
        have hq : Hid (q * d = p) := e4
        have z1 : (a == a) = true := by simp
        have z2 : decide (r < m) = true := decide_eq_true h1
        have k1 : IntKind.i64.wrap (q * d) = p := by
          rw [e4]
          exact IntWalk.i64_in p (by omega)
        clear hk e2 e3 e4 e6
        go_wp2_with fail
        refine (CD.out _).mono ?_; rintro e w5 ⟨rfl, k, rfl⟩
        go_wp2_with (go_at_call 32; refine (CA.out _).mono ?_; rintro e w6 ⟨rfl, rfl⟩)
        go_returns
        exact ⟨rfl, below_drewN HB4.out _⟩
      · have e2 : divQ a d = 0 ∧ divR a d = 0 := by simp [divQ, divR, hk]
        rw [hk, e2.1, e2.2] at CD
        clear hk e2
        go_wp2_with fail
        refine (CD.out _).mono ?_; rintro e w5 ⟨rfl, k, rfl⟩
        go_wp2_with fail
        go_returns
        exact ⟨rfl, below_drewN HB4.out _⟩
  · go_enter Tryd.func7, Tryd.ntmps7
    go_wp2_with fail
    refine (lawBig_yes A l cap _ (by omega) (by omega)).mono ?_; rintro e w0 ⟨rfl, rfl⟩
    go_wp2_with fail
    go_ret
    exact ⟨rfl, Below.refl _ _⟩
end Go.Proofs.YtkaiekhmcjojoaaDoor
