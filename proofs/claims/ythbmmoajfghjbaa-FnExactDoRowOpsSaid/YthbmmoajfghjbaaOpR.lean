/- A row operation in place, whatever its kind. -/
import Derived.Test.YthbmmoajfghjbaaOpW
namespace Go.Proofs.Ythbmmoajfghjbaa
open Go.RowKit
set_option linter.unusedSimpArgs false
set_option linter.unusedVariables false

def RowPostA (w : World) (lo : Nat) (s : Value) (L : List Int) (ok : Bool) (e : Ending) (w' : World) : Prop := e = .returned (.bool ok) ∧ (ok = true → Own w' lo s L) ∧ w.grownBy w' s.ownBlock
def opGo (kind : Nat) (C i j : Nat) (t : Int) (xs : List Int) : Bool := decide (kind ≠ 2) || opOk C i j t xs
theorem isRowOp_t {k i j R : Nat} {t : Int} (h : isRowOp k i j t R = true) : i < R ∧ j < R ∧ (-400000000 ≤ t ∧ t ≤ 400000000) ∧ ((k = 0 ∧ i ≠ j ∧ t = 0) ∨ (k = 1 ∧ i = j ∧ t = 0) ∨ (k = 2 ∧ i ≠ j)) := by
  simp only [isRowOp, Bool.and_eq_true, decide_eq_true_eq, Bool.or_eq_true] at h
  obtain ⟨⟨⟨_, _, _, h1, _, h2⟩, h3⟩, h4⟩ := h
  have := isNum_t h3
  omega
theorem opL_nil {R kind i j : Nat} {t : Int} {xs : List Int} : opL R 0 kind i j t xs = [] := by
  have : (opL R 0 kind i j t xs).length = 0 := by rw [opL, ofM_length]; rfl
  exact List.eq_nil_of_length_eq_zero this
set_option maxHeartbeats 4000000 in
theorem implRowOp_nil (R i j : Nat) (k t : Int) (A : Option Addr) (cap : Nat) (w : World) (hcm : cap ≤ maxLen) (hR : R ≤ 24) (hi : i < R) (hj : j < R) :
    Calls Try.prog 39 #[mv R 0 (.slice A 0 cap), opv k i j t] w fun e w' => e = .returned (.bool true) ∧ Below w.heap.size w w' := by
  obtain ⟨A', hA'⟩ : ∃ A', (if cap = 0 then A else A.map (·.add 0)) = A' := ⟨_, rfl⟩
  have ra := fun w (i : Nat) (hi : i < R) => implRow R 0 i 0 0 A A' cap cap [] w (by simp [Hid]) (by simp [Hid]) (by simp) (by simp) (by simp) hcm (by omega) (by omega) hA' rfl
  have RA := hide ra
  clear ra hA'
  go_enter Try.func39, Try.ntmps39
  go_wp2_with fail
  refine (RA.out _ i hi).mono ?_; rintro e w1 ⟨rfl, hb⟩; obtain ⟨hc, hf⟩ := bcell hb; have hz := hb.size; (try simp only [World.size_alloc, World.size_setCell, World.size_drew, size_drewN] at hz); (first | have hs := up3 hz | have hs := up2 hz | have hs := up1 hz | have hs := up0 hz); (try have q10 := hs _ q9); (try have q9 := hs _ q8); (try have q8 := hs _ q7); (try have q7 := hs _ q6); (try have q6 := hs _ q5); (try have q5 := hs _ q4); (try have q4 := hs _ q3); (try have q3 := hs _ q2); (try have q2 := hs _ q1); (try have p7 := hs _ p6); (try have p6 := hs _ p5); (try have p5 := hs _ p4); (try have p4 := hs _ p3); (try have p3 := hs _ p2); (try have p2 := hs _ p1); (try have q1 := new1 hz); (try have p1 := new2 hz); (try have r1 := new3 hz)
  go_wp2_with fail
  refine (RA.out _ j hj).mono ?_; rintro e w2 ⟨rfl, hb⟩; obtain ⟨hc, hf⟩ := bcell hb; have hz := hb.size; (try simp only [World.size_alloc, World.size_setCell, World.size_drew, size_drewN] at hz); (first | have hs := up3 hz | have hs := up2 hz | have hs := up1 hz | have hs := up0 hz); (try have q10 := hs _ q9); (try have q9 := hs _ q8); (try have q8 := hs _ q7); (try have q7 := hs _ q6); (try have q6 := hs _ q5); (try have q5 := hs _ q4); (try have q4 := hs _ q3); (try have q3 := hs _ q2); (try have q2 := hs _ q1); (try have p7 := hs _ p6); (try have p6 := hs _ p5); (try have p5 := hs _ p4); (try have p4 := hs _ p3); (try have p3 := hs _ p2); (try have p2 := hs _ p1); (try have q1 := new1 hz); (try have p1 := new2 hz); (try have r1 := new3 hz)
  go_wp2
  refine wp_loop_rounds 1 ?_
  rw [rounds_succ]
  go_wp2
  go_ret
  exact ⟨rfl, (by repeat' (first | exact Below.refl _ _ | (refine Below.alloc ?_ ?_ _) | (refine Below.setCell ?_ ?_ _) | (refine Below.drew ?_) | (refine below_drewN ?_ _) | (refine Below.trans ?_ (Below.mono (by assumption) ?_)) | omega | (simp only [World.size_alloc, World.size_setCell, World.size_drew, size_drewN]; omega)))⟩
theorem implRowOp (R C k i j : Nat) (t : Int) (A : Option Addr) (n cap lo : Nat) (xs : List Int) (w : World) (hO : Own w lo (.slice A n cap) xs) (hm : isMat R C xs = true) (ho : isRowOp k i j t R = true) :
    Calls Try.prog 39 #[mv R C (.slice A n cap), opv k i j t] w (RowPostA w lo (.slice A n cap) (opL R C k i j t xs) (opGo k C i j t xs)) := by
  obtain ⟨_, m2, _, m4, m5, mA, m7⟩ := isMat_t hm
  obtain ⟨h1, h2, h3, h4⟩ := isRowOp_t ho
  have hlx : xs.length = R * C := by
    have : (xs.length : Int) = ((R * C : Nat) : Int) := by rw [m5]; push_cast; rfl
    omega
  have hs := Own.sl2 hO
  have hn : n = R * C := by rw [← hlx]; exact hs.1
  subst hn
  rcases Nat.eq_zero_or_pos C with h0 | h0
  · subst h0
    have hx : xs = [] := List.eq_nil_of_length_eq_zero (by rw [hlx]; rfl)
    subst hx
    have hg : opGo k 0 i j t [] = true := by simp [opGo, opOk]
    rw [hg, opL_nil]
    refine (implRowOp_nil R i j k t A cap w hs.2.2.1 (by omega) h1 h2).mono ?_
    rintro e w' ⟨rfl, hb⟩
    exact ⟨rfl, fun _ => hO.below hb, ⟨hb.os, hb.tape, hb.output, hb.size, fun q hq _ => hb.block q hq⟩⟩
  · have hpos : 0 < xs.length := by rw [hlx]; exact Nat.mul_pos (by omega) h0
    obtain ⟨g, rfl, _, _⟩ := own_some hO hpos
    have hcap : R * C ≤ cap := by have := hs.2.1; omega
    rcases h4 with ⟨rfl, h5, rfl⟩ | ⟨rfl, h5, rfl⟩ | ⟨rfl, h5⟩
    · refine (implRowOp_swap R C i j 0 g cap lo xs w hO hlx (by omega) (by omega) h0 hcap hs.2.2.1 h1 h2 h5).mono ?_
      rintro e w' ⟨rfl, h6, h7⟩
      exact ⟨rfl, fun _ => h6, h7⟩
    · subst h5
      refine (implRowOp_neg R C i 0 g cap lo xs w hO hlx (by omega) (by omega) h0 hcap hs.2.2.1 h1 mA).mono ?_
      rintro e w' ⟨rfl, h6, h7⟩
      exact ⟨rfl, fun _ => h6, h7⟩
    · refine (implRowOp_add R C i j t g cap lo xs w hO hlx (by omega) (by omega) h0 hcap hs.2.2.1 h1 h2 h5 mA h3).mono ?_
      rintro e w' ⟨rfl, h6, h7⟩
      exact ⟨by simp [opGo], fun hk => h6 (by simpa [opGo] using hk), h7⟩
end Go.Proofs.Ythbmmoajfghjbaa
