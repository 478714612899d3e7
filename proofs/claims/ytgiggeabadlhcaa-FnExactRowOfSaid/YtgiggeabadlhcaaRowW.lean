/- The walks of RowOf. -/
import Derived.Test.YtgiggeabadlhcaaIsMatW
import Derived.Test.YtgiggeabadlhcaaOwnW
import Derived.Test.YtgiggeabadlhcaaAppW
import Derived.WalkLawsBesides
namespace Go.Proofs.Ytgiggeabadlhcaa
open Go.RowKit
set_option linter.unusedSimpArgs false
set_option linter.unusedVariables false

def rowOk (r c : Int) (xs : List Int) (i : Int) : Bool := isMat r c xs && decide (0 ≤ i ∧ i < r)
def rowL (r c : Int) (xs : List Int) (i : Int) : List Int := if rowOk r c xs i = true then (xs.drop (i * c).toNat).take c.toNat else []
/-- What a function gives that returns a list of its own and whether there is one. -/
def RetList (w : World) (XS : List Int) (ok : Bool) (e : Ending) (w' : World) : Prop :=
  ∃ s, e = .returned (.tuple #[s, .bool ok]) ∧ Own w' w.heap.size s XS ∧ Below w.heap.size w w'
theorem row_at {r c i : Int} {xs : List Int} (hm : isMat r c xs = true) (h : 0 ≤ i ∧ i < r) :
    ∃ a b : Nat, i * c = (a : Int) ∧ (i + 1) * c = ((a + b : Nat) : Int) ∧ c = (b : Int) ∧ a + b ≤ xs.length ∧ rowL r c xs i = (xs.drop a).take b ∧ b ≤ 24 := by
  obtain ⟨h1, h2, h3, h4, h5, _, h6⟩ := isMat_t hm
  have h7 : 0 ≤ i * c := Int.mul_nonneg h.1 h3
  have h8 : (i + 1) * c ≤ r * c := Int.mul_le_mul_of_nonneg_right (by omega) h3
  have h9 : (i + 1) * c = i * c + c := by rw [Int.add_mul, Int.one_mul]
  refine ⟨(i * c).toNat, c.toNat, by omega, by omega, by omega, by omega, ?_, by omega⟩
  have : rowOk r c xs i = true := by simp only [rowOk, hm, decide_eq_true h, Bool.and_self]
  simp only [rowL, this, if_true]
theorem row_no1 {r c i : Int} {xs : List Int} (h : isMat r c xs = false) : rowOk r c xs i = false ∧ rowL r c xs i = [] := by
  have : rowOk r c xs i = false := by simp [rowOk, h]
  exact ⟨this, by simp [rowL, this]⟩
theorem row_no2 {r c i : Int} {xs : List Int} (h : ¬ (0 ≤ i ∧ i < r)) : rowOk r c xs i = false ∧ rowL r c xs i = [] := by
  have : rowOk r c xs i = false := by simp only [rowOk, decide_eq_false h, Bool.and_false]
  exact ⟨this, by simp [rowL, this]⟩
theorem row_yes {r c i : Int} {xs : List Int} (hm : isMat r c xs = true) (h : 0 ≤ i ∧ i < r) : rowOk r c xs i = true := by
  simp only [rowOk, hm, decide_eq_true h, Bool.and_self]

/-- The literal of an empty slice owns nothing. -/
theorem own_empty (w : World) : Own (w.alloc (.cells #[] 3)) w.heap.size (.slice (some ⟨w.heap.size, 0, none⟩) 0 0) [] := by
  have := World.ownsRow_lit (base := w.heap.size) (e := 3) (size := 1) w #[] 0 (Nat.le_refl _) (by simp [maxLen]) rfl
  simpa [Own, iv] using this
theorem cut_sl {w : World} {A : Option Addr} {n cap a b : Nat} {xs : List Int} (h : Sl w A n cap xs) (hab : a + b ≤ xs.length) : Sl w (if cap = a then A else A.map (·.add a)) b (cap - a) ((xs.drop a).take b) := by
  obtain ⟨_, h1, h2, h3, h4⟩ := h
  have hl : ((xs.drop a).take b).length = b := by simp; omega
  refine ⟨hl.symm, by omega, by omega, ?_, ?_⟩
  · intro e
    by_cases hc : cap = a
    · omega
    · rw [if_neg hc] at e
      cases A with
      | none => have := h3 rfl; omega
      | some ad => simp at e
  · intro hp
    rw [hl] at hp
    obtain ⟨g, off, rfl, hc⟩ := h4 (by omega)
    refine ⟨g, off + a, ?_, fun i hi => ?_⟩
    · rw [if_neg (by omega)]
      simp [addr_add]
    · rw [hl] at hi
      have := hc (a + i) (by omega)
      rw [Nat.add_assoc, this]
      simp [List.getD, List.getElem?_take, List.getElem?_drop, hi]

set_option maxHeartbeats 1000000 in
theorem implRow (r c i : Int) (a b : Nat) (A A' : Option Addr) (cap c' : Nat) (xs : List Int) (w : World) (ha : Hid (i * c = (a : Int))) (hb : Hid ((i + 1) * c = ((a + b : Nat) : Int))) (hab : a + b ≤ xs.length) (hn : xs.length ≤ 1048576) (hc : xs.length ≤ cap) (hcm : cap ≤ maxLen) (i0 : 0 ≤ i) (i1 : i ≤ 1048576)
    (hA' : Hid ((if cap = a then A else A.map (·.add a)) = A')) (hc' : Hid (cap - a = c')) :
    Calls Try.prog 42 #[mv r c (.slice A xs.length cap), .int .i64 i] w fun e w' => e = .returned (.slice A' b c') ∧ Below w.heap.size w w' := by
  have e1 := ha.out
  have e2 := hb.out
  unfold maxLen at hcm
  by_cases hca : cap = a
  · have HF : Hid (A = A') := by have := hA'.out; rwa [if_pos hca] at this
    have HC : Hid (c' = 0) := by have := hc'.out; rw [Hid]; omega
    subst hca
    go_enter Try.func42, Try.ntmps42
    go_wp2
    go_returns
    exact ⟨by rw [HC.out, ← HF.out]; simp, (by repeat' (first | exact Below.refl _ _ | (refine Below.alloc ?_ ?_ _) | (refine Below.setCell ?_ ?_ _) | (refine Below.drew ?_) | (refine below_drewN ?_ _) | (refine Below.trans ?_ (Below.mono (by assumption) ?_)) | omega | (simp only [World.size_alloc, World.size_setCell, World.size_drew, size_drewN]; omega)))⟩
  · have HF : Hid (A.map (·.add a) = A') := by have := hA'.out; rwa [if_neg hca] at this
    have HC := hide hc'.out
    go_enter Try.func42, Try.ntmps42
    go_wp2
    go_returns
    exact ⟨by rw [← HC.out, ← HF.out]; show Ending.returned (Value.slice _ (a + b - a) _) = _; rw [Nat.add_sub_cancel_left], (by repeat' (first | exact Below.refl _ _ | (refine Below.alloc ?_ ?_ _) | (refine Below.setCell ?_ ?_ _) | (refine Below.drew ?_) | (refine below_drewN ?_ _) | (refine Below.trans ?_ (Below.mono (by assumption) ?_)) | omega | (simp only [World.size_alloc, World.size_setCell, World.size_drew, size_drewN]; omega)))⟩

set_option maxHeartbeats 2000000 in
theorem implRowOf (r c i : Int) (A : Option Addr) (cap : Nat) (xs : List Int) (w : World) (hA : Sl w A xs.length cap xs) (hn : xs.length ≤ 1048576) :
    Calls Try.prog 26 #[mv r c (.slice A xs.length cap), .int .i64 i] w (RetList w (rowL r c xs i) (rowOk r c xs i)) := by
  have HA := hide hA; clear hA
  rcases Bool.eq_false_or_eq_true (isMat r c xs) with hm | hm
  · obtain ⟨m1, m2, m3, m4, _, _, _⟩ := isMat_t hm
    by_cases h : 0 ≤ i ∧ i < r
    · obtain ⟨a, b, ha, hb, hcb, hab, hL, hb24⟩ := row_at hm h
      have HOk := row_yes hm h
      obtain ⟨g1, g2⟩ := h
      rw [hL, HOk]
      have Ha := hide ha
      have Hb := hide hb
      obtain ⟨A', hA'⟩ : ∃ A', (if cap = a then A else A.map (·.add a)) = A' := ⟨_, rfl⟩
      obtain ⟨c', hc'⟩ : ∃ c', cap - a = c' := ⟨_, rfl⟩
      obtain ⟨ys, hys⟩ : ∃ ys, (xs.drop a).take b = ys := ⟨_, rfl⟩
      have hyl : ys.length = b := by rw [← hys]; simp; omega
      have HCUT : Hid (∀ w', Below w.heap.size w w' → Sl w' A' b c' ys) := fun w' hw => by
        rw [← hA', ← hc', ← hys]; exact cut_sl (HA.out.below hw) hab
      have HA' := hide hA'
      have HC' := hide hc'
      rw [hys]
      have HYL := hide hyl
      clear ha hb hcb hL HOk hA' hc' hys hyl
      go_enter Try.func26, Try.ntmps26
      go_wp2_with (first
        | (go_at_call 16; refine (implIsMatrix r c A cap xs _ (SlI.below HA.out.2.2.2.2 (by repeat' (first | exact Below.refl _ _ | (refine Below.alloc ?_ ?_ _) | (refine Below.setCell ?_ ?_ _) | (refine Below.drew ?_) | (refine below_drewN ?_ _) | (refine Below.trans ?_ (Below.mono (by assumption) ?_)) | omega | (simp only [World.size_alloc, World.size_setCell, World.size_drew, size_drewN]; omega)))) hn).mono ?_; rintro e w1 ⟨rfl, hb⟩; obtain ⟨hc, hf⟩ := bcell hb; have hz := hb.size; (try simp only [World.size_alloc, World.size_setCell, World.size_drew, size_drewN] at hz); (first | have hs := up3 hz | have hs := up2 hz | have hs := up1 hz | have hs := up0 hz); (try have q10 := hs _ q9); (try have q9 := hs _ q8); (try have q8 := hs _ q7); (try have q7 := hs _ q6); (try have q6 := hs _ q5); (try have q5 := hs _ q4); (try have q4 := hs _ q3); (try have q3 := hs _ q2); (try have q2 := hs _ q1); (try have p7 := hs _ p6); (try have p6 := hs _ p5); (try have p5 := hs _ p4); (try have p4 := hs _ p3); (try have p3 := hs _ p2); (try have p2 := hs _ p1); (try have q1 := new1 hz); (try have p1 := new2 hz); (try have r1 := new3 hz))
        | (go_at_call 42; refine (implRow r c i a b A A' cap c' xs _ Ha Hb hab hn HA.out.2.1 HA.out.2.2.1 (by omega) (by omega) HA' HC').mono ?_; rintro e w2 ⟨rfl, hb⟩; obtain ⟨hc, hf⟩ := bcell hb; have hz := hb.size; (try simp only [World.size_alloc, World.size_setCell, World.size_drew, size_drewN] at hz); (first | have hs := up3 hz | have hs := up2 hz | have hs := up1 hz | have hs := up0 hz); (try have q10 := hs _ q9); (try have q9 := hs _ q8); (try have q8 := hs _ q7); (try have q7 := hs _ q6); (try have q6 := hs _ q5); (try have q5 := hs _ q4); (try have q4 := hs _ q3); (try have q3 := hs _ q2); (try have q2 := hs _ q1); (try have p7 := hs _ p6); (try have p6 := hs _ p5); (try have p5 := hs _ p4); (try have p4 := hs _ p3); (try have p3 := hs _ p2); (try have p2 := hs _ p1); (try have q1 := new1 hz); (try have p1 := new2 hz); (try have r1 := new3 hz))
        | (at_builtin; refine wpList_append_sl rfl _ _ rfl (.slice (some ⟨w1.heap.size, 0, none⟩) 0 0) w1.heap.size [] rfl (Own.below (own_empty w1) (by first | assumption | exact (by repeat' (first | exact Below.refl _ _ | (refine Below.alloc ?_ ?_ _) | (refine Below.setCell ?_ ?_ _) | (refine Below.drew ?_) | (refine below_drewN ?_ _) | (refine Below.trans ?_ (Below.mono (by assumption) ?_)) | omega | (simp only [World.size_alloc, World.size_setCell, World.size_drew, size_drewN]; omega))))) A' b c' ys rfl (HCUT.out _ (by repeat' (first | exact Below.refl _ _ | (refine Below.alloc ?_ ?_ _) | (refine Below.setCell ?_ ?_ _) | (refine Below.drew ?_) | (refine below_drewN ?_ _) | (refine Below.trans ?_ (Below.mono (by assumption) ?_)) | omega | (simp only [World.size_alloc, World.size_setCell, World.size_drew, size_drewN]; omega)))) (by have := HYL.out; simp; omega) (by omega) ?_; intro v3 w3 ho hg))
      go_ret2
      have hB2 : Below w.heap.size w w2 := (by repeat' (first | exact Below.refl _ _ | (refine Below.alloc ?_ ?_ _) | (refine Below.setCell ?_ ?_ _) | (refine Below.drew ?_) | (refine below_drewN ?_ _) | (refine Below.trans ?_ (Below.mono (by assumption) ?_)) | omega | (simp only [World.size_alloc, World.size_setCell, World.size_drew, size_drewN]; omega)))
      exact ⟨v3, rfl, Own.mono (lo := w1.heap.size) (by rw [List.nil_append] at ho; exact ho) (by omega), hB2.grown hg hB2.size (fun k hk => by simp only [Value.ownBlock, Option.some.injEq] at hk; omega)⟩
    · obtain ⟨h1, h2⟩ := row_no2 (c := c) (xs := xs) h
      rw [h1, h2]
      have HI := hide h; clear h h1 h2
      go_enter Try.func26, Try.ntmps26
      go_wp2_with (go_at_call 16; refine (implIsMatrix r c A cap xs _ (SlI.below HA.out.2.2.2.2 (by repeat' (first | exact Below.refl _ _ | (refine Below.alloc ?_ ?_ _) | (refine Below.setCell ?_ ?_ _) | (refine Below.drew ?_) | (refine below_drewN ?_ _) | (refine Below.trans ?_ (Below.mono (by assumption) ?_)) | omega | (simp only [World.size_alloc, World.size_setCell, World.size_drew, size_drewN]; omega)))) hn).mono ?_; rintro e w1 ⟨rfl, hb⟩; obtain ⟨hc, hf⟩ := bcell hb; have hz := hb.size; (try simp only [World.size_alloc, World.size_setCell, World.size_drew, size_drewN] at hz); (first | have hs := up3 hz | have hs := up2 hz | have hs := up1 hz | have hs := up0 hz); (try have q10 := hs _ q9); (try have q9 := hs _ q8); (try have q8 := hs _ q7); (try have q7 := hs _ q6); (try have q6 := hs _ q5); (try have q5 := hs _ q4); (try have q4 := hs _ q3); (try have q3 := hs _ q2); (try have q2 := hs _ q1); (try have p7 := hs _ p6); (try have p6 := hs _ p5); (try have p5 := hs _ p4); (try have p4 := hs _ p3); (try have p3 := hs _ p2); (try have p2 := hs _ p1); (try have q1 := new1 hz); (try have p1 := new2 hz); (try have r1 := new3 hz))
      all_goals first
        | (exfalso; have := HI.out; omega)
        | (go_ret2; exact ⟨_, rfl, Own.mono (own_empty w1) (by omega), (by repeat' (first | exact Below.refl _ _ | (refine Below.alloc ?_ ?_ _) | (refine Below.setCell ?_ ?_ _) | (refine Below.drew ?_) | (refine below_drewN ?_ _) | (refine Below.trans ?_ (Below.mono (by assumption) ?_)) | omega | (simp only [World.size_alloc, World.size_setCell, World.size_drew, size_drewN]; omega)))⟩)
  · obtain ⟨h1, h2⟩ := row_no1 (i := i) hm
    rw [h1, h2]
    clear h1 h2
    go_enter Try.func26, Try.ntmps26
    go_wp2_with (go_at_call 16; refine (implIsMatrix r c A cap xs _ (SlI.below HA.out.2.2.2.2 (by repeat' (first | exact Below.refl _ _ | (refine Below.alloc ?_ ?_ _) | (refine Below.setCell ?_ ?_ _) | (refine Below.drew ?_) | (refine below_drewN ?_ _) | (refine Below.trans ?_ (Below.mono (by assumption) ?_)) | omega | (simp only [World.size_alloc, World.size_setCell, World.size_drew, size_drewN]; omega)))) hn).mono ?_; rintro e w1 ⟨rfl, hb⟩; obtain ⟨hc, hf⟩ := bcell hb; have hz := hb.size; (try simp only [World.size_alloc, World.size_setCell, World.size_drew, size_drewN] at hz); (first | have hs := up3 hz | have hs := up2 hz | have hs := up1 hz | have hs := up0 hz); (try have q10 := hs _ q9); (try have q9 := hs _ q8); (try have q8 := hs _ q7); (try have q7 := hs _ q6); (try have q6 := hs _ q5); (try have q5 := hs _ q4); (try have q4 := hs _ q3); (try have q3 := hs _ q2); (try have q2 := hs _ q1); (try have p7 := hs _ p6); (try have p6 := hs _ p5); (try have p5 := hs _ p4); (try have p4 := hs _ p3); (try have p3 := hs _ p2); (try have p2 := hs _ p1); (try have q1 := new1 hz); (try have p1 := new2 hz); (try have r1 := new3 hz))
    go_ret2
    exact ⟨_, rfl, Own.mono (own_empty w1) (by omega), (by repeat' (first | exact Below.refl _ _ | (refine Below.alloc ?_ ?_ _) | (refine Below.setCell ?_ ?_ _) | (refine Below.drew ?_) | (refine below_drewN ?_ _) | (refine Below.trans ?_ (Below.mono (by assumption) ?_)) | omega | (simp only [World.size_alloc, World.size_setCell, World.size_drew, size_drewN]; omega)))⟩
set_option maxHeartbeats 2000000 in
theorem specRowOf (r c i : Int) (A : Option Addr) (cap : Nat) (xs : List Int) (w : World) (hA : Sl w A xs.length cap xs) (hn : xs.length ≤ 1048576) :
    Calls Try.prog 25 #[mv r c (.slice A xs.length cap), .int .i64 i] w (RetList w (rowL r c xs i) (rowOk r c xs i)) := by
  have HA := hide hA; clear hA
  rcases Bool.eq_false_or_eq_true (isMat r c xs) with hm | hm
  · obtain ⟨m1, m2, m3, m4, _, _, _⟩ := isMat_t hm
    by_cases h : 0 ≤ i ∧ i < r
    · obtain ⟨a, b, ha, hb, hcb, hab, hL, hb24⟩ := row_at hm h
      have HOk := row_yes hm h
      obtain ⟨g1, g2⟩ := h
      rw [hL, HOk]
      have Ha := hide ha
      have Hb := hide hb
      obtain ⟨A', hA'⟩ : ∃ A', (if cap = a then A else A.map (·.add a)) = A' := ⟨_, rfl⟩
      obtain ⟨c', hc'⟩ : ∃ c', cap - a = c' := ⟨_, rfl⟩
      obtain ⟨ys, hys⟩ : ∃ ys, (xs.drop a).take b = ys := ⟨_, rfl⟩
      have hyl : ys.length = b := by rw [← hys]; simp; omega
      have HCUT : Hid (∀ w', Below w.heap.size w w' → Sl w' A' b c' ys) := fun w' hw => by
        rw [← hA', ← hc', ← hys]; exact cut_sl (HA.out.below hw) hab
      have HA' := hide hA'
      have HC' := hide hc'
      rw [hys]
      have HYL := hide hyl
      clear ha hb hcb hL HOk hA' hc' hys hyl
      have d1 : decide (0 ≤ i ∧ i ≤ r - 1) = true := decide_eq_true ⟨g1, by omega⟩
      have e1 := Ha.out
      have e2 := Hb.out
      have hcm := HA.out.2.2.1
      unfold maxLen at hcm
      have hxc := HA.out.2.1
      have b1 : -1 ≤ i := by omega
      have b2 : i ≤ 30 := by omega
      clear g1 g2
      by_cases hca : cap = a
      · have HCUT2 : Hid (∀ w', Below w.heap.size w w' → Sl w' A (a + b - a) 0 ys) := fun w' hw => by
          have h1 := HCUT.out w' hw
          have h2 := HA'.out
          have h3 := HC'.out
          rw [if_pos hca] at h2
          rw [h2, show (0 : Nat) = c' from by omega, Nat.add_sub_cancel_left]; exact h1
        subst hca
        go_enter Try.func25, Try.ntmps25
        go_wp2_with (first
          | (go_at_call 15; refine (specIsMatrix r c A cap xs _ (SlI.below HA.out.2.2.2.2 (by repeat' (first | exact Below.refl _ _ | (refine Below.alloc ?_ ?_ _) | (refine Below.setCell ?_ ?_ _) | (refine Below.drew ?_) | (refine below_drewN ?_ _) | (refine Below.trans ?_ (Below.mono (by assumption) ?_)) | omega | (simp only [World.size_alloc, World.size_setCell, World.size_drew, size_drewN]; omega)))) hn).mono ?_; rintro e w1 ⟨rfl, hb⟩; obtain ⟨hc, hf⟩ := bcell hb; have hz := hb.size; (try simp only [World.size_alloc, World.size_setCell, World.size_drew, size_drewN] at hz); (first | have hs := up3 hz | have hs := up2 hz | have hs := up1 hz | have hs := up0 hz); (try have q10 := hs _ q9); (try have q9 := hs _ q8); (try have q8 := hs _ q7); (try have q7 := hs _ q6); (try have q6 := hs _ q5); (try have q5 := hs _ q4); (try have q4 := hs _ q3); (try have q3 := hs _ q2); (try have q2 := hs _ q1); (try have p7 := hs _ p6); (try have p6 := hs _ p5); (try have p5 := hs _ p4); (try have p4 := hs _ p3); (try have p3 := hs _ p2); (try have p2 := hs _ p1); (try have q1 := new1 hz); (try have p1 := new2 hz); (try have r1 := new3 hz))
          | (go_at_call 35; refine (specIn _ _ _ _).mono ?_; rintro e w' ⟨rfl, rfl⟩)
          | (at_builtin; refine wpList_append_sl rfl _ _ rfl (.slice (some ⟨w1.heap.size, 0, none⟩) 0 0) w1.heap.size [] rfl (own_empty w1) (A) (cap + b - cap) (0) ys rfl (HCUT2.out _ (by repeat' (first | exact Below.refl _ _ | (refine Below.alloc ?_ ?_ _) | (refine Below.setCell ?_ ?_ _) | (refine Below.drew ?_) | (refine below_drewN ?_ _) | (refine Below.trans ?_ (Below.mono (by assumption) ?_)) | omega | (simp only [World.size_alloc, World.size_setCell, World.size_drew, size_drewN]; omega)))) (by have := HYL.out; simp; omega) (by simp) ?_; intro v3 w3 ho hg))
        go_ret2
        have hB2 : Below w.heap.size w (w1.alloc (.cells #[] 3)) := (by repeat' (first | exact Below.refl _ _ | (refine Below.alloc ?_ ?_ _) | (refine Below.setCell ?_ ?_ _) | (refine Below.drew ?_) | (refine below_drewN ?_ _) | (refine Below.trans ?_ (Below.mono (by assumption) ?_)) | omega | (simp only [World.size_alloc, World.size_setCell, World.size_drew, size_drewN]; omega)))
        exact ⟨v3, rfl, Own.mono (lo := w1.heap.size) (by rw [List.nil_append] at ho; exact ho) (by omega), hB2.grown hg hB2.size (fun k hk => by simp only [Value.ownBlock, Option.some.injEq] at hk; omega)⟩
      · have HCUT2 : Hid (∀ w', Below w.heap.size w w' → Sl w' (A.map (·.add a)) (a + b - a) (cap - a) ys) := fun w' hw => by
          have h1 := HCUT.out w' hw
          have h2 := HA'.out
          have h3 := HC'.out
          rw [if_neg hca] at h2
          rw [h2, h3, Nat.add_sub_cancel_left]; exact h1
        go_enter Try.func25, Try.ntmps25
        go_wp2_with (first
          | (go_at_call 15; refine (specIsMatrix r c A cap xs _ (SlI.below HA.out.2.2.2.2 (by repeat' (first | exact Below.refl _ _ | (refine Below.alloc ?_ ?_ _) | (refine Below.setCell ?_ ?_ _) | (refine Below.drew ?_) | (refine below_drewN ?_ _) | (refine Below.trans ?_ (Below.mono (by assumption) ?_)) | omega | (simp only [World.size_alloc, World.size_setCell, World.size_drew, size_drewN]; omega)))) hn).mono ?_; rintro e w1 ⟨rfl, hb⟩; obtain ⟨hc, hf⟩ := bcell hb; have hz := hb.size; (try simp only [World.size_alloc, World.size_setCell, World.size_drew, size_drewN] at hz); (first | have hs := up3 hz | have hs := up2 hz | have hs := up1 hz | have hs := up0 hz); (try have q10 := hs _ q9); (try have q9 := hs _ q8); (try have q8 := hs _ q7); (try have q7 := hs _ q6); (try have q6 := hs _ q5); (try have q5 := hs _ q4); (try have q4 := hs _ q3); (try have q3 := hs _ q2); (try have q2 := hs _ q1); (try have p7 := hs _ p6); (try have p6 := hs _ p5); (try have p5 := hs _ p4); (try have p4 := hs _ p3); (try have p3 := hs _ p2); (try have p2 := hs _ p1); (try have q1 := new1 hz); (try have p1 := new2 hz); (try have r1 := new3 hz))
          | (go_at_call 35; refine (specIn _ _ _ _).mono ?_; rintro e w' ⟨rfl, rfl⟩)
          | (at_builtin; refine wpList_append_sl rfl _ _ rfl (.slice (some ⟨w1.heap.size, 0, none⟩) 0 0) w1.heap.size [] rfl (own_empty w1) (A.map (·.add a)) (a + b - a) (cap - a) ys rfl (HCUT2.out _ (by repeat' (first | exact Below.refl _ _ | (refine Below.alloc ?_ ?_ _) | (refine Below.setCell ?_ ?_ _) | (refine Below.drew ?_) | (refine below_drewN ?_ _) | (refine Below.trans ?_ (Below.mono (by assumption) ?_)) | omega | (simp only [World.size_alloc, World.size_setCell, World.size_drew, size_drewN]; omega)))) (by have := HYL.out; simp; omega) (by simp) ?_; intro v3 w3 ho hg))
        go_ret2
        have hB2 : Below w.heap.size w (w1.alloc (.cells #[] 3)) := (by repeat' (first | exact Below.refl _ _ | (refine Below.alloc ?_ ?_ _) | (refine Below.setCell ?_ ?_ _) | (refine Below.drew ?_) | (refine below_drewN ?_ _) | (refine Below.trans ?_ (Below.mono (by assumption) ?_)) | omega | (simp only [World.size_alloc, World.size_setCell, World.size_drew, size_drewN]; omega)))
        exact ⟨v3, rfl, Own.mono (lo := w1.heap.size) (by rw [List.nil_append] at ho; exact ho) (by omega), hB2.grown hg hB2.size (fun k hk => by simp only [Value.ownBlock, Option.some.injEq] at hk; omega)⟩
    · obtain ⟨h1, h2⟩ := row_no2 (c := c) (xs := xs) h
      rw [h1, h2]
      have d1 : decide (0 ≤ i ∧ i ≤ r - 1) = false := decide_eq_false (fun hh => h ⟨hh.1, by omega⟩)
      clear h h1 h2
      go_enter Try.func25, Try.ntmps25
      go_wp2_with (first
        | (go_at_call 15; refine (specIsMatrix r c A cap xs _ (SlI.below HA.out.2.2.2.2 (by repeat' (first | exact Below.refl _ _ | (refine Below.alloc ?_ ?_ _) | (refine Below.setCell ?_ ?_ _) | (refine Below.drew ?_) | (refine below_drewN ?_ _) | (refine Below.trans ?_ (Below.mono (by assumption) ?_)) | omega | (simp only [World.size_alloc, World.size_setCell, World.size_drew, size_drewN]; omega)))) hn).mono ?_; rintro e w1 ⟨rfl, hb⟩; obtain ⟨hc, hf⟩ := bcell hb; have hz := hb.size; (try simp only [World.size_alloc, World.size_setCell, World.size_drew, size_drewN] at hz); (first | have hs := up3 hz | have hs := up2 hz | have hs := up1 hz | have hs := up0 hz); (try have q10 := hs _ q9); (try have q9 := hs _ q8); (try have q8 := hs _ q7); (try have q7 := hs _ q6); (try have q6 := hs _ q5); (try have q5 := hs _ q4); (try have q4 := hs _ q3); (try have q3 := hs _ q2); (try have q2 := hs _ q1); (try have p7 := hs _ p6); (try have p6 := hs _ p5); (try have p5 := hs _ p4); (try have p4 := hs _ p3); (try have p3 := hs _ p2); (try have p2 := hs _ p1); (try have q1 := new1 hz); (try have p1 := new2 hz); (try have r1 := new3 hz))
        | (go_at_call 35; refine (specIn _ _ _ _).mono ?_; rintro e w' ⟨rfl, rfl⟩))
      all_goals first
        | (go_ret2; exact ⟨_, rfl, Own.mono (own_empty w1) (by omega), (by repeat' (first | exact Below.refl _ _ | (refine Below.alloc ?_ ?_ _) | (refine Below.setCell ?_ ?_ _) | (refine Below.drew ?_) | (refine below_drewN ?_ _) | (refine Below.trans ?_ (Below.mono (by assumption) ?_)) | omega | (simp only [World.size_alloc, World.size_setCell, World.size_drew, size_drewN]; omega)))⟩)
  · obtain ⟨h1, h2⟩ := row_no1 (i := i) hm
    rw [h1, h2]
    clear h1 h2
    go_enter Try.func25, Try.ntmps25
    go_wp2_with (go_at_call 15; refine (specIsMatrix r c A cap xs _ (SlI.below HA.out.2.2.2.2 (by repeat' (first | exact Below.refl _ _ | (refine Below.alloc ?_ ?_ _) | (refine Below.setCell ?_ ?_ _) | (refine Below.drew ?_) | (refine below_drewN ?_ _) | (refine Below.trans ?_ (Below.mono (by assumption) ?_)) | omega | (simp only [World.size_alloc, World.size_setCell, World.size_drew, size_drewN]; omega)))) hn).mono ?_; rintro e w1 ⟨rfl, hb⟩; obtain ⟨hc, hf⟩ := bcell hb; have hz := hb.size; (try simp only [World.size_alloc, World.size_setCell, World.size_drew, size_drewN] at hz); (first | have hs := up3 hz | have hs := up2 hz | have hs := up1 hz | have hs := up0 hz); (try have q10 := hs _ q9); (try have q9 := hs _ q8); (try have q8 := hs _ q7); (try have q7 := hs _ q6); (try have q6 := hs _ q5); (try have q5 := hs _ q4); (try have q4 := hs _ q3); (try have q3 := hs _ q2); (try have q2 := hs _ q1); (try have p7 := hs _ p6); (try have p6 := hs _ p5); (try have p5 := hs _ p4); (try have p4 := hs _ p3); (try have p3 := hs _ p2); (try have p2 := hs _ p1); (try have q1 := new1 hz); (try have p1 := new2 hz); (try have r1 := new3 hz))
    go_ret2
    exact ⟨_, rfl, Own.mono (own_empty w1) (by omega), (by repeat' (first | exact Below.refl _ _ | (refine Below.alloc ?_ ?_ _) | (refine Below.setCell ?_ ?_ _) | (refine Below.drew ?_) | (refine below_drewN ?_ _) | (refine Below.trans ?_ (Below.mono (by assumption) ?_)) | omega | (simp only [World.size_alloc, World.size_setCell, World.size_drew, size_drewN]; omega)))⟩
end Go.Proofs.Ytgiggeabadlhcaa
