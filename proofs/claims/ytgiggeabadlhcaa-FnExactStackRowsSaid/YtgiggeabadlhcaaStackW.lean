/- The walks of StackRows. -/
import Derived.Test.YtgiggeabadlhcaaIsMatW
import Derived.Test.YtgiggeabadlhcaaIdW
import Derived.Test.YtgiggeabadlhcaaAppS
import Derived.Test.YtgiggeabadlhcaaKeepB
import Derived.Deep.RegionHeld3
import Derived.Deep.DeepCutAuto
import Derived.IntWalk
namespace Go.Proofs.Ytgiggeabadlhcaa
open Go.RowKit
set_option linter.unusedSimpArgs false
set_option linter.unusedVariables false
def stkOk (r c : Int) (xs : List Int) (r' c' : Int) (ys : List Int) : Bool := isMat r c xs && isMat r' c' ys && decide (c = c') && decide (r + r' ≤ 24)
def stkR (r c : Int) (xs : List Int) (r' c' : Int) (ys : List Int) : Int := if stkOk r c xs r' c' ys = true then r + r' else 0
def stkC (r c : Int) (xs : List Int) (r' c' : Int) (ys : List Int) : Int := if stkOk r c xs r' c' ys = true then c else 0
def stkL (r c : Int) (xs : List Int) (r' c' : Int) (ys : List Int) : List Int := if stkOk r c xs r' c' ys = true then xs ++ ys else []
def stkRes (r c : Int) (xs : List Int) (r' c' : Int) (ys : List Int) : MRes := ⟨stkR r c xs r' c' ys, stkC r c xs r' c' ys, stkL r c xs r' c' ys, stkOk r c xs r' c' ys⟩
theorem stk_no {r c r' c' : Int} {xs ys : List Int} (h : stkOk r c xs r' c' ys = false) : stkR r c xs r' c' ys = 0 ∧ stkC r c xs r' c' ys = 0 ∧ stkL r c xs r' c' ys = [] := by
  simp [stkR, stkC, stkL, h]
theorem stk_no1 {r c r' c' : Int} {xs ys : List Int} (h : isMat r c xs = false) : stkOk r c xs r' c' ys = false := by simp [stkOk, h]
theorem stk_no2 {r c r' c' : Int} {xs ys : List Int} (h : isMat r' c' ys = false) : stkOk r c xs r' c' ys = false := by simp [stkOk, h]
theorem stk_no3 {r c r' c' : Int} {xs ys : List Int} (h : ¬ c = c') : stkOk r c xs r' c' ys = false := by simp [stkOk, h]
theorem stk_no4 {r c r' c' : Int} {xs ys : List Int} (h : ¬ r + r' ≤ 24) : stkOk r c xs r' c' ys = false := by simp only [stkOk, decide_eq_false h, Bool.and_false]
theorem stk_yes {r c r' : Int} {xs ys : List Int} (h1 : isMat r c xs = true) (h2 : isMat r' c ys = true) (h3 : r + r' ≤ 24) : stkOk r c xs r' c ys = true := by simp only [stkOk, h1, h2, decide_eq_true h3, Bool.and_self, decide_true]
theorem end3 {w : World} {b : Nat} {x y z u v t : Value} (h0 : w.cell? ⟨b, 0, none⟩ = some u) (h1 : w.cell? ⟨b, 1, none⟩ = some v) (h2 : w.cell? ⟨b, 2, none⟩ = some t) :
    (((w.setCell ⟨b, 0, none⟩ x).setCell ⟨b, 1, none⟩ y).setCell ⟨b, 2, none⟩ z).cell? ⟨b, 0, none⟩ = some x ∧ (((w.setCell ⟨b, 0, none⟩ x).setCell ⟨b, 1, none⟩ y).setCell ⟨b, 2, none⟩ z).cell? ⟨b, 1, none⟩ = some y ∧ (((w.setCell ⟨b, 0, none⟩ x).setCell ⟨b, 1, none⟩ y).setCell ⟨b, 2, none⟩ z).cell? ⟨b, 2, none⟩ = some z := by
  refine ⟨?_, ?_, ?_⟩ <;> go_simp
theorem stk_len {r c r' c' : Int} {xs ys : List Int} : (stkL r c xs r' c' ys).length ≤ 1048576 := by
  unfold stkL
  split
  · rename_i h
    simp only [stkOk, Bool.and_eq_true] at h
    have h1 := (isMat_t h.1.1.1).2.2.2.2.2.2
    have h2 := (isMat_t h.1.1.2).2.2.2.2.2.2
    rw [List.length_append]; omega
  · simp
set_option maxHeartbeats 2000000 in
theorem implStackRows_yes (r c r' : Int) (A B : Option Addr) (p q : Nat) (xs ys : List Int) (w : World) (hA : Sl w A xs.length p xs) (hB : Sl w B ys.length q ys) (hm : isMat r c xs = true) (hm' : isMat r' c ys = true) (h : r + r' ≤ 24) :
    Calls Try.prog 31 #[mv r c (.slice A xs.length p), mv r' c (.slice B ys.length q)] w (RetMat w (r + r') c (xs ++ ys) true) := by
  obtain ⟨m1, m2, m3, m4, _, _, _⟩ := isMat_t hm
  obtain ⟨m1', m2', _, _, _, _, _⟩ := isMat_t hm'
  have HA := hide hA; clear hA
  have HB := hide hB; clear hB
  go_enter Try.func31, Try.ntmps31
  go_wp2_with (first
    | (go_at_call_of 16 (Value.slice A xs.length p); refine (implIsMatrix r c A p xs _ (SlI.below HA.out.2.2.2.2 (by repeat' (first | exact Below.refl _ _ | (refine Below.alloc ?_ ?_ _) | (refine Below.setCell ?_ ?_ _) | (refine Below.drew ?_) | (refine below_drewN ?_ _) | (refine Below.trans ?_ (Below.mono (by assumption) ?_)) | omega | (simp only [World.size_alloc, World.size_setCell, World.size_drew, size_drewN]; omega)))) (by omega)).mono ?_; rintro e w1 ⟨rfl, hb⟩; obtain ⟨hc, hf⟩ := bcell hb; have hz := hb.size; (try simp only [World.size_alloc, World.size_setCell, World.size_drew, size_drewN] at hz); (first | have hs := up3 hz | have hs := up2 hz | have hs := up1 hz | have hs := up0 hz); (try have q10 := hs _ q9); (try have q9 := hs _ q8); (try have q8 := hs _ q7); (try have q7 := hs _ q6); (try have q6 := hs _ q5); (try have q5 := hs _ q4); (try have q4 := hs _ q3); (try have q3 := hs _ q2); (try have q2 := hs _ q1); (try have p7 := hs _ p6); (try have p6 := hs _ p5); (try have p5 := hs _ p4); (try have p4 := hs _ p3); (try have p3 := hs _ p2); (try have p2 := hs _ p1); (try have q1 := new1 hz); (try have p1 := new2 hz); (try have r1 := new3 hz))
    | (go_at_call 16; refine (implIsMatrix r' c B q ys _ (SlI.below HB.out.2.2.2.2 (by repeat' (first | exact Below.refl _ _ | (refine Below.alloc ?_ ?_ _) | (refine Below.setCell ?_ ?_ _) | (refine Below.drew ?_) | (refine below_drewN ?_ _) | (refine Below.trans ?_ (Below.mono (by assumption) ?_)) | omega | (simp only [World.size_alloc, World.size_setCell, World.size_drew, size_drewN]; omega)))) (by omega)).mono ?_; rintro e w2 ⟨rfl, hb⟩; obtain ⟨hc, hf⟩ := bcell hb; have hz := hb.size; (try simp only [World.size_alloc, World.size_setCell, World.size_drew, size_drewN] at hz); (first | have hs := up3 hz | have hs := up2 hz | have hs := up1 hz | have hs := up0 hz); (try have q10 := hs _ q9); (try have q9 := hs _ q8); (try have q8 := hs _ q7); (try have q7 := hs _ q6); (try have q6 := hs _ q5); (try have q5 := hs _ q4); (try have q4 := hs _ q3); (try have q3 := hs _ q2); (try have q2 := hs _ q1); (try have p7 := hs _ p6); (try have p6 := hs _ p5); (try have p5 := hs _ p4); (try have p4 := hs _ p3); (try have p3 := hs _ p2); (try have p2 := hs _ p1); (try have q1 := new1 hz); (try have p1 := new2 hz); (try have r1 := new3 hz)))
  have t0 : w.heap.size < w2.heap.size := by omega
  have t1 : w.heap.size + 1 < w2.heap.size := by omega
  have t2 : w.heap.size + 1 + 1 < w2.heap.size := by omega
  have u2 : w.heap.size + 1 + 1 < w1.heap.size := by omega
  have z0 : w2.frozen? ⟨w.heap.size + 1 + 1, 0, none⟩ = false := by go_simp
  have z1 : w2.frozen? ⟨w.heap.size + 1 + 1, 1, none⟩ = false := by go_simp
  have z2 : w2.frozen? ⟨w.heap.size + 1 + 1, 2, none⟩ = false := by go_simp
  have y0 : w2.cell? ⟨w.heap.size + 1 + 1, 0, none⟩ = some (.int .i64 0) := by go_simp
  have y1 : w2.cell? ⟨w.heap.size + 1 + 1, 1, none⟩ = some (.int .i64 0) := by go_simp
  have y2 : w2.cell? ⟨w.heap.size + 1 + 1, 2, none⟩ = some (.slice none 0 0) := by go_simp
  have hwr : IntKind.i64.wrap (r + r') = r + r' := IntWalk.i64_in _ (by omega)
  go_region_held3 (fun w' => w'.cell? ⟨w.heap.size, 0, none⟩ = some (.int .i64 r) ∧ w'.cell? ⟨w.heap.size, 1, none⟩ = some (.int .i64 c) ∧ w'.cell? ⟨w.heap.size, 2, none⟩ = some (.slice A xs.length p) ∧ w'.cell? ⟨w.heap.size + 1, 0, none⟩ = some (.int .i64 r') ∧ w'.cell? ⟨w.heap.size + 1, 1, none⟩ = some (.int .i64 c) ∧ w'.cell? ⟨w.heap.size + 1, 2, none⟩ = some (.slice B ys.length q) ∧ Below w.heap.size w w')
    (first
      | exact kc6_alloc (by assumption)
      | exact kc6_drew (by assumption)
      | exact kc6_callB (by assumption) (by omega) (by refine ⟨?_, ?_, ?_, ?_, ?_, ?_⟩ <;> (dsimp only; omega)) (by assumption)
      | exact kc6_set (by refine ⟨?_, ?_, ?_, ?_, ?_, ?_⟩ <;> (dsimp only; omega)) (by dsimp only; omega) (kc6_set (by refine ⟨?_, ?_, ?_, ?_, ?_, ?_⟩ <;> (dsimp only; omega)) (by dsimp only; omega) (kc6_set (by refine ⟨?_, ?_, ?_, ?_, ?_, ?_⟩ <;> (dsimp only; omega)) (by dsimp only; omega) (by first | assumption | exact kc6_callB (by assumption) (by omega) (by refine ⟨?_, ?_, ?_, ?_, ?_, ?_⟩ <;> (dsimp only; omega)) (by assumption))))
      | (refine ⟨?_, ?_, ?_, ?_, ?_, ?_, ?_⟩ <;> first | assumption | (go_simp; done) | exact (by repeat' (first | exact Below.refl _ _ | (refine Below.alloc ?_ ?_ _) | (refine Below.setCell ?_ ?_ _) | (refine Below.drew ?_) | (refine below_drewN ?_ _) | (refine Below.trans ?_ (Below.mono (by assumption) ?_)) | omega | (simp only [World.size_alloc, World.size_setCell, World.size_drew, size_drewN]; omega)))))
    (first
      | (refine step_append_sl rfl _ _ rfl (.slice (some ⟨w2.heap.size, 0, none⟩) 0 0) w2.heap.size [] (by rfl) (show Own (w2.alloc (.cells #[] 3)).drew _ _ _ from own_empty2 w2 _ rfl) A xs.length p xs (by rfl) (HA.out.below (by repeat' (first | exact Below.refl _ _ | (refine Below.alloc ?_ ?_ _) | (refine Below.setCell ?_ ?_ _) | (refine Below.drew ?_) | (refine below_drewN ?_ _) | (refine Below.trans ?_ (Below.mono (by assumption) ?_)) | omega | (simp only [World.size_alloc, World.size_setCell, World.size_drew, size_drewN]; omega)))) (by first | omega | (simp; done) | (simp; omega)) (by first | omega | (simp; done) | (simp only [World.size_alloc, World.size_drew]; omega)) ?_; intro v3 w3 ho hb; obtain ⟨hc, hf⟩ := bcellB hb; have hz3 := hb.size; (try simp only [World.size_alloc, World.size_drew] at hz3); have hb3 : Below w2.heap.size w2 w3 := (((Below.refl w2.heap.size w2).alloc (Nat.le_refl _) _).drew).trans hb)
      | (refine step_append_sl rfl _ _ rfl v3 w2.heap.size ([] ++ xs) (by rfl) ho B ys.length q ys (by rfl) (HB.out.below (by repeat' (first | exact Below.refl _ _ | (refine Below.alloc ?_ ?_ _) | (refine Below.setCell ?_ ?_ _) | (refine Below.drew ?_) | (refine below_drewN ?_ _) | (refine Below.trans ?_ (Below.mono (by assumption) ?_)) | omega | (simp only [World.size_alloc, World.size_setCell, World.size_drew, size_drewN]; omega)))) (by first | omega | (simp; done) | (simp; omega)) (by first | omega | (simp; done) | (simp only [World.size_alloc, World.size_drew]; omega)) ?_; intro v4 w4 ho hb; obtain ⟨hc, hf⟩ := bcellB hb; have hz4 := hb.size; (try simp only [World.size_alloc, World.size_drew] at hz4); have hb4 : Below w2.heap.size w2 w4 := hb3.trans hb; obtain ⟨hc4, hf4⟩ := bcellB hb4; have zz0 := (hf4 _ 0 t2).trans z0; have yy0 := (hc4 _ 0 t2).trans y0; have zz1 := (hf4 _ 1 t2).trans z1; have yy1 := (hc4 _ 1 t2).trans y1; have zz2 := (hf4 _ 2 t2).trans z2; have yy2 := (hc4 _ 2 t2).trans y2; clear hc hf; obtain ⟨A4, c4, rfl, _⟩ := Own.sl ho))
  go_wp2
  rw [List.nil_append] at ho
  have m0 : (((w4.setCell ⟨w.heap.size + 1 + 1, 0, none⟩ (.int .i64 (r + r'))).setCell ⟨w.heap.size + 1 + 1, 1, none⟩ (.int .i64 c)).setCell ⟨w.heap.size + 1 + 1, 2, none⟩ (.slice A4 (xs.length + ys.length) c4)).cell? ⟨w.heap.size + 1 + 1, 0, none⟩ = some (.int .i64 (r + r')) := by go_simp
  have m1 : (((w4.setCell ⟨w.heap.size + 1 + 1, 0, none⟩ (.int .i64 (r + r'))).setCell ⟨w.heap.size + 1 + 1, 1, none⟩ (.int .i64 c)).setCell ⟨w.heap.size + 1 + 1, 2, none⟩ (.slice A4 (xs.length + ys.length) c4)).cell? ⟨w.heap.size + 1 + 1, 1, none⟩ = some (.int .i64 c) := by go_simp
  have m2 : (((w4.setCell ⟨w.heap.size + 1 + 1, 0, none⟩ (.int .i64 (r + r'))).setCell ⟨w.heap.size + 1 + 1, 1, none⟩ (.int .i64 c)).setCell ⟨w.heap.size + 1 + 1, 2, none⟩ (.slice A4 (xs.length + ys.length) c4)).cell? ⟨w.heap.size + 1 + 1, 2, none⟩ = some (.slice A4 (xs.length + ys.length) c4) := by go_simp
  rw [List.length_append] at ho
  refine bodyPost_ret (v := .tuple #[mv (r + r') (c) (.slice A4 (xs.length + ys.length) c4), .bool true]) (by first | (simp [results, Try.results31, go_sem, m0, m1, m2]; done) | (simp [results, Try.results31, go_sem]; done)) rfl ⟨_, rfl, ?_, ?_⟩
  · have hl := Own.lt ho
    have hne : ∀ k, (Value.slice A4 (xs.length + ys.length) c4).ownBlock ≠ some (⟨w.heap.size + 1 + 1, k, none⟩ : Addr).block := fun k e => by
      have := hl _ e
      dsimp only at this
      omega
    have ho2 : Own w4 w2.heap.size (.slice A4 (xs.length + ys.length) c4) (xs ++ ys) := ho
    exact Own.mono (Own.set (Own.set (Own.set ho2 (hne 0) _) (hne 1) _) (hne 2) _) (by omega)
  · have hw2 : Below w.heap.size w w2 := (by repeat' (first | exact Below.refl _ _ | (refine Below.alloc ?_ ?_ _) | (refine Below.setCell ?_ ?_ _) | (refine Below.drew ?_) | (refine below_drewN ?_ _) | (refine Below.trans ?_ (Below.mono (by assumption) ?_)) | omega | (simp only [World.size_alloc, World.size_setCell, World.size_drew, size_drewN]; omega)))
    have hw4 : Below w.heap.size w w4 := hw2.trans (hb4.mono (by omega))
    exact ((hw4.setCell (by dsimp only; omega) _).setCell (by dsimp only; omega) _).setCell (by dsimp only; omega) _
theorem implStackRows_no (r c r' c' : Int) (A B : Option Addr) (p q : Nat) (xs ys : List Int) (w : World) (hA : Sl w A xs.length p xs) (hn : xs.length ≤ 1048576) (hB : Sl w B ys.length q ys) (hn' : ys.length ≤ 1048576) (h : stkOk r c xs r' c' ys = false) :
    Calls Try.prog 31 #[mv r c (.slice A xs.length p), mv r' c' (.slice B ys.length q)] w (RetMat w 0 0 [] false) := by
  have HA := hide hA; clear hA
  have HB := hide hB; clear hB
  have HN := hide h
  rcases Bool.eq_false_or_eq_true (isMat r c xs) with hm | hm
  · rcases Bool.eq_false_or_eq_true (isMat r' c' ys) with hm' | hm'
    · obtain ⟨m1, m2, m3, m4, _, _, _⟩ := isMat_t hm
      obtain ⟨m1', m2', m3', m4', _, _, _⟩ := isMat_t hm'
      by_cases hc : c = c'
      · subst hc
        have hr : 24 < r + r' := by
          by_cases hr : r + r' ≤ 24
          · rw [stk_yes hm hm' hr] at h; cases h
          · omega
        have e1 : (c != c) = false := by simp
        clear h
        go_enter Try.func31, Try.ntmps31
        go_wp2_with (first
          | (go_at_call_of 16 (Value.slice A xs.length p); refine (implIsMatrix r c A p xs _ (SlI.below HA.out.2.2.2.2 (by repeat' (first | exact Below.refl _ _ | (refine Below.alloc ?_ ?_ _) | (refine Below.setCell ?_ ?_ _) | (refine Below.drew ?_) | (refine below_drewN ?_ _) | (refine Below.trans ?_ (Below.mono (by assumption) ?_)) | omega | (simp only [World.size_alloc, World.size_setCell, World.size_drew, size_drewN]; omega)))) (by omega)).mono ?_; rintro e w1 ⟨rfl, hb⟩; obtain ⟨hc, hf⟩ := bcell hb; have hz := hb.size; (try simp only [World.size_alloc, World.size_setCell, World.size_drew, size_drewN] at hz); (first | have hs := up3 hz | have hs := up2 hz | have hs := up1 hz | have hs := up0 hz); (try have q10 := hs _ q9); (try have q9 := hs _ q8); (try have q8 := hs _ q7); (try have q7 := hs _ q6); (try have q6 := hs _ q5); (try have q5 := hs _ q4); (try have q4 := hs _ q3); (try have q3 := hs _ q2); (try have q2 := hs _ q1); (try have p7 := hs _ p6); (try have p6 := hs _ p5); (try have p5 := hs _ p4); (try have p4 := hs _ p3); (try have p3 := hs _ p2); (try have p2 := hs _ p1); (try have q1 := new1 hz); (try have p1 := new2 hz); (try have r1 := new3 hz))
          | (go_at_call 16; refine (implIsMatrix r' c B q ys _ (SlI.below HB.out.2.2.2.2 (by repeat' (first | exact Below.refl _ _ | (refine Below.alloc ?_ ?_ _) | (refine Below.setCell ?_ ?_ _) | (refine Below.drew ?_) | (refine below_drewN ?_ _) | (refine Below.trans ?_ (Below.mono (by assumption) ?_)) | omega | (simp only [World.size_alloc, World.size_setCell, World.size_drew, size_drewN]; omega)))) (by omega)).mono ?_; rintro e w2 ⟨rfl, hb⟩; obtain ⟨hc, hf⟩ := bcell hb; have hz := hb.size; (try simp only [World.size_alloc, World.size_setCell, World.size_drew, size_drewN] at hz); (first | have hs := up3 hz | have hs := up2 hz | have hs := up1 hz | have hs := up0 hz); (try have q10 := hs _ q9); (try have q9 := hs _ q8); (try have q8 := hs _ q7); (try have q7 := hs _ q6); (try have q6 := hs _ q5); (try have q5 := hs _ q4); (try have q4 := hs _ q3); (try have q3 := hs _ q2); (try have q2 := hs _ q1); (try have p7 := hs _ p6); (try have p6 := hs _ p5); (try have p5 := hs _ p4); (try have p4 := hs _ p3); (try have p3 := hs _ p2); (try have p2 := hs _ p1); (try have q1 := new1 hz); (try have p1 := new2 hz); (try have r1 := new3 hz)))
        have t2 : w.heap.size + 1 + 1 < w2.heap.size := by omega
        have u2 : w.heap.size + 1 + 1 < w1.heap.size := by omega
        have y0 : w2.cell? ⟨w.heap.size + 1 + 1, 0, none⟩ = some (.int .i64 0) := by go_simp
        have y1 : w2.cell? ⟨w.heap.size + 1 + 1, 1, none⟩ = some (.int .i64 0) := by go_simp
        have y2 : w2.cell? ⟨w.heap.size + 1 + 1, 2, none⟩ = some (.slice none 0 0) := by go_simp
        obtain ⟨m0, m1, m2⟩ := end3 (x := .int .i64 0) (y := .int .i64 0) (z := .slice none 0 0) y0 y1 y2
        exact bodyPost_ret (v := .tuple #[mv (0) (0) (.slice none 0 0), .bool false]) (by first | (simp [results, Try.results31, go_sem, m0, m1, m2]; done) | (simp [results, Try.results31, go_sem]; done)) rfl ⟨_, rfl, Own.nil _ _, (by repeat' (first | exact Below.refl _ _ | (refine Below.alloc ?_ ?_ _) | (refine Below.setCell ?_ ?_ _) | (refine Below.drew ?_) | (refine below_drewN ?_ _) | (refine Below.trans ?_ (Below.mono (by assumption) ?_)) | omega | (simp only [World.size_alloc, World.size_setCell, World.size_drew, size_drewN]; omega)))⟩
      · have e1 : (c != c') = true := by simpa using hc
        clear h hc
        go_enter Try.func31, Try.ntmps31
        go_wp2_with (first
          | (go_at_call_of 16 (Value.slice A xs.length p); refine (implIsMatrix r c A p xs _ (SlI.below HA.out.2.2.2.2 (by repeat' (first | exact Below.refl _ _ | (refine Below.alloc ?_ ?_ _) | (refine Below.setCell ?_ ?_ _) | (refine Below.drew ?_) | (refine below_drewN ?_ _) | (refine Below.trans ?_ (Below.mono (by assumption) ?_)) | omega | (simp only [World.size_alloc, World.size_setCell, World.size_drew, size_drewN]; omega)))) (by omega)).mono ?_; rintro e w1 ⟨rfl, hb⟩; obtain ⟨hc, hf⟩ := bcell hb; have hz := hb.size; (try simp only [World.size_alloc, World.size_setCell, World.size_drew, size_drewN] at hz); (first | have hs := up3 hz | have hs := up2 hz | have hs := up1 hz | have hs := up0 hz); (try have q10 := hs _ q9); (try have q9 := hs _ q8); (try have q8 := hs _ q7); (try have q7 := hs _ q6); (try have q6 := hs _ q5); (try have q5 := hs _ q4); (try have q4 := hs _ q3); (try have q3 := hs _ q2); (try have q2 := hs _ q1); (try have p7 := hs _ p6); (try have p6 := hs _ p5); (try have p5 := hs _ p4); (try have p4 := hs _ p3); (try have p3 := hs _ p2); (try have p2 := hs _ p1); (try have q1 := new1 hz); (try have p1 := new2 hz); (try have r1 := new3 hz))
          | (go_at_call 16; refine (implIsMatrix r' c' B q ys _ (SlI.below HB.out.2.2.2.2 (by repeat' (first | exact Below.refl _ _ | (refine Below.alloc ?_ ?_ _) | (refine Below.setCell ?_ ?_ _) | (refine Below.drew ?_) | (refine below_drewN ?_ _) | (refine Below.trans ?_ (Below.mono (by assumption) ?_)) | omega | (simp only [World.size_alloc, World.size_setCell, World.size_drew, size_drewN]; omega)))) (by omega)).mono ?_; rintro e w2 ⟨rfl, hb⟩; obtain ⟨hc, hf⟩ := bcell hb; have hz := hb.size; (try simp only [World.size_alloc, World.size_setCell, World.size_drew, size_drewN] at hz); (first | have hs := up3 hz | have hs := up2 hz | have hs := up1 hz | have hs := up0 hz); (try have q10 := hs _ q9); (try have q9 := hs _ q8); (try have q8 := hs _ q7); (try have q7 := hs _ q6); (try have q6 := hs _ q5); (try have q5 := hs _ q4); (try have q4 := hs _ q3); (try have q3 := hs _ q2); (try have q2 := hs _ q1); (try have p7 := hs _ p6); (try have p6 := hs _ p5); (try have p5 := hs _ p4); (try have p4 := hs _ p3); (try have p3 := hs _ p2); (try have p2 := hs _ p1); (try have q1 := new1 hz); (try have p1 := new2 hz); (try have r1 := new3 hz)))
        have t2 : w.heap.size + 1 + 1 < w2.heap.size := by omega
        have u2 : w.heap.size + 1 + 1 < w1.heap.size := by omega
        have y0 : w2.cell? ⟨w.heap.size + 1 + 1, 0, none⟩ = some (.int .i64 0) := by go_simp
        have y1 : w2.cell? ⟨w.heap.size + 1 + 1, 1, none⟩ = some (.int .i64 0) := by go_simp
        have y2 : w2.cell? ⟨w.heap.size + 1 + 1, 2, none⟩ = some (.slice none 0 0) := by go_simp
        obtain ⟨m0, m1, m2⟩ := end3 (x := .int .i64 0) (y := .int .i64 0) (z := .slice none 0 0) y0 y1 y2
        exact bodyPost_ret (v := .tuple #[mv (0) (0) (.slice none 0 0), .bool false]) (by first | (simp [results, Try.results31, go_sem, m0, m1, m2]; done) | (simp [results, Try.results31, go_sem]; done)) rfl ⟨_, rfl, Own.nil _ _, (by repeat' (first | exact Below.refl _ _ | (refine Below.alloc ?_ ?_ _) | (refine Below.setCell ?_ ?_ _) | (refine Below.drew ?_) | (refine below_drewN ?_ _) | (refine Below.trans ?_ (Below.mono (by assumption) ?_)) | omega | (simp only [World.size_alloc, World.size_setCell, World.size_drew, size_drewN]; omega)))⟩
    · clear h
      go_enter Try.func31, Try.ntmps31
      go_wp2_with (first
        | (go_at_call_of 16 (Value.slice A xs.length p); refine (implIsMatrix r c A p xs _ (SlI.below HA.out.2.2.2.2 (by repeat' (first | exact Below.refl _ _ | (refine Below.alloc ?_ ?_ _) | (refine Below.setCell ?_ ?_ _) | (refine Below.drew ?_) | (refine below_drewN ?_ _) | (refine Below.trans ?_ (Below.mono (by assumption) ?_)) | omega | (simp only [World.size_alloc, World.size_setCell, World.size_drew, size_drewN]; omega)))) (by omega)).mono ?_; rintro e w1 ⟨rfl, hb⟩; obtain ⟨hc, hf⟩ := bcell hb; have hz := hb.size; (try simp only [World.size_alloc, World.size_setCell, World.size_drew, size_drewN] at hz); (first | have hs := up3 hz | have hs := up2 hz | have hs := up1 hz | have hs := up0 hz); (try have q10 := hs _ q9); (try have q9 := hs _ q8); (try have q8 := hs _ q7); (try have q7 := hs _ q6); (try have q6 := hs _ q5); (try have q5 := hs _ q4); (try have q4 := hs _ q3); (try have q3 := hs _ q2); (try have q2 := hs _ q1); (try have p7 := hs _ p6); (try have p6 := hs _ p5); (try have p5 := hs _ p4); (try have p4 := hs _ p3); (try have p3 := hs _ p2); (try have p2 := hs _ p1); (try have q1 := new1 hz); (try have p1 := new2 hz); (try have r1 := new3 hz))
        | (go_at_call 16; refine (implIsMatrix r' c' B q ys _ (SlI.below HB.out.2.2.2.2 (by repeat' (first | exact Below.refl _ _ | (refine Below.alloc ?_ ?_ _) | (refine Below.setCell ?_ ?_ _) | (refine Below.drew ?_) | (refine below_drewN ?_ _) | (refine Below.trans ?_ (Below.mono (by assumption) ?_)) | omega | (simp only [World.size_alloc, World.size_setCell, World.size_drew, size_drewN]; omega)))) (by omega)).mono ?_; rintro e w2 ⟨rfl, hb⟩; obtain ⟨hc, hf⟩ := bcell hb; have hz := hb.size; (try simp only [World.size_alloc, World.size_setCell, World.size_drew, size_drewN] at hz); (first | have hs := up3 hz | have hs := up2 hz | have hs := up1 hz | have hs := up0 hz); (try have q10 := hs _ q9); (try have q9 := hs _ q8); (try have q8 := hs _ q7); (try have q7 := hs _ q6); (try have q6 := hs _ q5); (try have q5 := hs _ q4); (try have q4 := hs _ q3); (try have q3 := hs _ q2); (try have q2 := hs _ q1); (try have p7 := hs _ p6); (try have p6 := hs _ p5); (try have p5 := hs _ p4); (try have p4 := hs _ p3); (try have p3 := hs _ p2); (try have p2 := hs _ p1); (try have q1 := new1 hz); (try have p1 := new2 hz); (try have r1 := new3 hz)))
      have t2 : w.heap.size + 1 + 1 < w2.heap.size := by omega
      have u2 : w.heap.size + 1 + 1 < w1.heap.size := by omega
      have y0 : w2.cell? ⟨w.heap.size + 1 + 1, 0, none⟩ = some (.int .i64 0) := by go_simp
      have y1 : w2.cell? ⟨w.heap.size + 1 + 1, 1, none⟩ = some (.int .i64 0) := by go_simp
      have y2 : w2.cell? ⟨w.heap.size + 1 + 1, 2, none⟩ = some (.slice none 0 0) := by go_simp
      obtain ⟨m0, m1, m2⟩ := end3 (x := .int .i64 0) (y := .int .i64 0) (z := .slice none 0 0) y0 y1 y2
      exact bodyPost_ret (v := .tuple #[mv (0) (0) (.slice none 0 0), .bool false]) (by first | (simp [results, Try.results31, go_sem, m0, m1, m2]; done) | (simp [results, Try.results31, go_sem]; done)) rfl ⟨_, rfl, Own.nil _ _, (by repeat' (first | exact Below.refl _ _ | (refine Below.alloc ?_ ?_ _) | (refine Below.setCell ?_ ?_ _) | (refine Below.drew ?_) | (refine below_drewN ?_ _) | (refine Below.trans ?_ (Below.mono (by assumption) ?_)) | omega | (simp only [World.size_alloc, World.size_setCell, World.size_drew, size_drewN]; omega)))⟩
  · clear h
    go_enter Try.func31, Try.ntmps31
    go_wp2_with (first
      | (go_at_call_of 16 (Value.slice A xs.length p); refine (implIsMatrix r c A p xs _ (SlI.below HA.out.2.2.2.2 (by repeat' (first | exact Below.refl _ _ | (refine Below.alloc ?_ ?_ _) | (refine Below.setCell ?_ ?_ _) | (refine Below.drew ?_) | (refine below_drewN ?_ _) | (refine Below.trans ?_ (Below.mono (by assumption) ?_)) | omega | (simp only [World.size_alloc, World.size_setCell, World.size_drew, size_drewN]; omega)))) (by omega)).mono ?_; rintro e w1 ⟨rfl, hb⟩; obtain ⟨hc, hf⟩ := bcell hb; have hz := hb.size; (try simp only [World.size_alloc, World.size_setCell, World.size_drew, size_drewN] at hz); (first | have hs := up3 hz | have hs := up2 hz | have hs := up1 hz | have hs := up0 hz); (try have q10 := hs _ q9); (try have q9 := hs _ q8); (try have q8 := hs _ q7); (try have q7 := hs _ q6); (try have q6 := hs _ q5); (try have q5 := hs _ q4); (try have q4 := hs _ q3); (try have q3 := hs _ q2); (try have q2 := hs _ q1); (try have p7 := hs _ p6); (try have p6 := hs _ p5); (try have p5 := hs _ p4); (try have p4 := hs _ p3); (try have p3 := hs _ p2); (try have p2 := hs _ p1); (try have q1 := new1 hz); (try have p1 := new2 hz); (try have r1 := new3 hz)))
    have t2 : w.heap.size + 1 + 1 < w1.heap.size := by omega
    have u2 : w.heap.size + 1 + 1 < w1.heap.size := by omega
    have y0 : w1.cell? ⟨w.heap.size + 1 + 1, 0, none⟩ = some (.int .i64 0) := by go_simp
    have y1 : w1.cell? ⟨w.heap.size + 1 + 1, 1, none⟩ = some (.int .i64 0) := by go_simp
    have y2 : w1.cell? ⟨w.heap.size + 1 + 1, 2, none⟩ = some (.slice none 0 0) := by go_simp
    obtain ⟨m0, m1, m2⟩ := end3 (x := .int .i64 0) (y := .int .i64 0) (z := .slice none 0 0) y0 y1 y2
    exact bodyPost_ret (v := .tuple #[mv (0) (0) (.slice none 0 0), .bool false]) (by first | (simp [results, Try.results31, go_sem, m0, m1, m2]; done) | (simp [results, Try.results31, go_sem]; done)) rfl ⟨_, rfl, Own.nil _ _, (by repeat' (first | exact Below.refl _ _ | (refine Below.alloc ?_ ?_ _) | (refine Below.setCell ?_ ?_ _) | (refine Below.drew ?_) | (refine below_drewN ?_ _) | (refine Below.trans ?_ (Below.mono (by assumption) ?_)) | omega | (simp only [World.size_alloc, World.size_setCell, World.size_drew, size_drewN]; omega)))⟩
theorem implStackRows (r c r' c' : Int) (A B : Option Addr) (p q : Nat) (xs ys : List Int) (w : World) (hA : Sl w A xs.length p xs) (hn : xs.length ≤ 1048576) (hB : Sl w B ys.length q ys) (hn' : ys.length ≤ 1048576) :
    Calls Try.prog 31 #[mv r c (.slice A xs.length p), mv r' c' (.slice B ys.length q)] w (RetMat w (stkR r c xs r' c' ys) (stkC r c xs r' c' ys) (stkL r c xs r' c' ys) (stkOk r c xs r' c' ys)) := by
  rcases Bool.eq_false_or_eq_true (stkOk r c xs r' c' ys) with h | h
  · rw [show stkR r c xs r' c' ys = r + r' from by simp [stkR, h], show stkC r c xs r' c' ys = c from by simp [stkC, h], show stkL r c xs r' c' ys = xs ++ ys from by simp [stkL, h], h]
    simp only [stkOk, Bool.and_eq_true, decide_eq_true_eq] at h
    obtain ⟨⟨⟨h1, h2⟩, rfl⟩, h4⟩ := h
    exact implStackRows_yes r c r' A B p q xs ys w hA hB h1 h2 h4
  · obtain ⟨e1, e2, e3⟩ := stk_no h
    rw [e1, e2, e3, h]
    exact implStackRows_no r c r' c' A B p q xs ys w hA hn hB hn' h
set_option maxHeartbeats 2000000 in
theorem specStackRows_yes (r c r' : Int) (A B : Option Addr) (p q : Nat) (xs ys : List Int) (w : World) (hA : Sl w A xs.length p xs) (hB : Sl w B ys.length q ys) (hm : isMat r c xs = true) (hm' : isMat r' c ys = true) (h : r + r' ≤ 24) :
    Calls Try.prog 30 #[mv r c (.slice A xs.length p), mv r' c (.slice B ys.length q)] w (RetMat w (r + r') c (xs ++ ys) true) := by
  obtain ⟨m1, m2, m3, m4, _, _, _⟩ := isMat_t hm
  obtain ⟨m1', m2', _, _, _, _, _⟩ := isMat_t hm'
  have HA := hide hA; clear hA
  have HB := hide hB; clear hB
  go_enter Try.func30, Try.ntmps30
  go_wp2_with (first
    | (go_at_call_of 15 (Value.slice A xs.length p); refine (specIsMatrix r c A p xs _ (SlI.below HA.out.2.2.2.2 (by repeat' (first | exact Below.refl _ _ | (refine Below.alloc ?_ ?_ _) | (refine Below.setCell ?_ ?_ _) | (refine Below.drew ?_) | (refine below_drewN ?_ _) | (refine Below.trans ?_ (Below.mono (by assumption) ?_)) | omega | (simp only [World.size_alloc, World.size_setCell, World.size_drew, size_drewN]; omega)))) (by omega)).mono ?_; rintro e w1 ⟨rfl, hb⟩; obtain ⟨hc, hf⟩ := bcell hb; have hz := hb.size; (try simp only [World.size_alloc, World.size_setCell, World.size_drew, size_drewN] at hz); (first | have hs := up3 hz | have hs := up2 hz | have hs := up1 hz | have hs := up0 hz); (try have q10 := hs _ q9); (try have q9 := hs _ q8); (try have q8 := hs _ q7); (try have q7 := hs _ q6); (try have q6 := hs _ q5); (try have q5 := hs _ q4); (try have q4 := hs _ q3); (try have q3 := hs _ q2); (try have q2 := hs _ q1); (try have p7 := hs _ p6); (try have p6 := hs _ p5); (try have p5 := hs _ p4); (try have p4 := hs _ p3); (try have p3 := hs _ p2); (try have p2 := hs _ p1); (try have q1 := new1 hz); (try have p1 := new2 hz); (try have r1 := new3 hz))
    | (go_at_call 15; refine (specIsMatrix r' c B q ys _ (SlI.below HB.out.2.2.2.2 (by repeat' (first | exact Below.refl _ _ | (refine Below.alloc ?_ ?_ _) | (refine Below.setCell ?_ ?_ _) | (refine Below.drew ?_) | (refine below_drewN ?_ _) | (refine Below.trans ?_ (Below.mono (by assumption) ?_)) | omega | (simp only [World.size_alloc, World.size_setCell, World.size_drew, size_drewN]; omega)))) (by omega)).mono ?_; rintro e w2 ⟨rfl, hb⟩; obtain ⟨hc, hf⟩ := bcell hb; have hz := hb.size; (try simp only [World.size_alloc, World.size_setCell, World.size_drew, size_drewN] at hz); (first | have hs := up3 hz | have hs := up2 hz | have hs := up1 hz | have hs := up0 hz); (try have q10 := hs _ q9); (try have q9 := hs _ q8); (try have q8 := hs _ q7); (try have q7 := hs _ q6); (try have q6 := hs _ q5); (try have q5 := hs _ q4); (try have q4 := hs _ q3); (try have q3 := hs _ q2); (try have q2 := hs _ q1); (try have p7 := hs _ p6); (try have p6 := hs _ p5); (try have p5 := hs _ p4); (try have p4 := hs _ p3); (try have p3 := hs _ p2); (try have p2 := hs _ p1); (try have q1 := new1 hz); (try have p1 := new2 hz); (try have r1 := new3 hz)))
  have t0 : w.heap.size < w2.heap.size := by omega
  have t1 : w.heap.size + 1 < w2.heap.size := by omega
  have t2 : w.heap.size + 1 + 1 < w2.heap.size := by omega
  have u2 : w.heap.size + 1 + 1 < w1.heap.size := by omega
  have z0 : w2.frozen? ⟨w.heap.size + 1 + 1, 0, none⟩ = false := by go_simp
  have z1 : w2.frozen? ⟨w.heap.size + 1 + 1, 1, none⟩ = false := by go_simp
  have z2 : w2.frozen? ⟨w.heap.size + 1 + 1, 2, none⟩ = false := by go_simp
  have y0 : w2.cell? ⟨w.heap.size + 1 + 1, 0, none⟩ = some (.int .i64 0) := by go_simp
  have y1 : w2.cell? ⟨w.heap.size + 1 + 1, 1, none⟩ = some (.int .i64 0) := by go_simp
  have y2 : w2.cell? ⟨w.heap.size + 1 + 1, 2, none⟩ = some (.slice none 0 0) := by go_simp
  have hwr : IntKind.i64.wrap (r + r') = r + r' := IntWalk.i64_in _ (by omega)
  go_region_held3 (fun w' => w'.cell? ⟨w.heap.size, 0, none⟩ = some (.int .i64 r) ∧ w'.cell? ⟨w.heap.size, 1, none⟩ = some (.int .i64 c) ∧ w'.cell? ⟨w.heap.size, 2, none⟩ = some (.slice A xs.length p) ∧ w'.cell? ⟨w.heap.size + 1, 0, none⟩ = some (.int .i64 r') ∧ w'.cell? ⟨w.heap.size + 1, 1, none⟩ = some (.int .i64 c) ∧ w'.cell? ⟨w.heap.size + 1, 2, none⟩ = some (.slice B ys.length q) ∧ Below w.heap.size w w')
    (first
      | exact kc6_alloc (by assumption)
      | exact kc6_drew (by assumption)
      | exact kc6_callB (by assumption) (by omega) (by refine ⟨?_, ?_, ?_, ?_, ?_, ?_⟩ <;> (dsimp only; omega)) (by assumption)
      | exact kc6_set (by refine ⟨?_, ?_, ?_, ?_, ?_, ?_⟩ <;> (dsimp only; omega)) (by dsimp only; omega) (kc6_set (by refine ⟨?_, ?_, ?_, ?_, ?_, ?_⟩ <;> (dsimp only; omega)) (by dsimp only; omega) (kc6_set (by refine ⟨?_, ?_, ?_, ?_, ?_, ?_⟩ <;> (dsimp only; omega)) (by dsimp only; omega) (by first | assumption | exact kc6_callB (by assumption) (by omega) (by refine ⟨?_, ?_, ?_, ?_, ?_, ?_⟩ <;> (dsimp only; omega)) (by assumption))))
      | (refine ⟨?_, ?_, ?_, ?_, ?_, ?_, ?_⟩ <;> first | assumption | (go_simp; done) | exact (by repeat' (first | exact Below.refl _ _ | (refine Below.alloc ?_ ?_ _) | (refine Below.setCell ?_ ?_ _) | (refine Below.drew ?_) | (refine below_drewN ?_ _) | (refine Below.trans ?_ (Below.mono (by assumption) ?_)) | omega | (simp only [World.size_alloc, World.size_setCell, World.size_drew, size_drewN]; omega)))))
    (first
      | (refine step_append_sl rfl _ _ rfl (.slice (some ⟨w2.heap.size, 0, none⟩) 0 0) w2.heap.size [] (by rfl) (show Own (w2.alloc (.cells #[] 3)).drew _ _ _ from own_empty2 w2 _ rfl) A xs.length p xs (by rfl) (HA.out.below (by repeat' (first | exact Below.refl _ _ | (refine Below.alloc ?_ ?_ _) | (refine Below.setCell ?_ ?_ _) | (refine Below.drew ?_) | (refine below_drewN ?_ _) | (refine Below.trans ?_ (Below.mono (by assumption) ?_)) | omega | (simp only [World.size_alloc, World.size_setCell, World.size_drew, size_drewN]; omega)))) (by first | omega | (simp; done) | (simp; omega)) (by first | omega | (simp; done) | (simp only [World.size_alloc, World.size_drew]; omega)) ?_; intro v3 w3 ho hb; obtain ⟨hc, hf⟩ := bcellB hb; have hz3 := hb.size; (try simp only [World.size_alloc, World.size_drew] at hz3); have hb3 : Below w2.heap.size w2 w3 := (((Below.refl w2.heap.size w2).alloc (Nat.le_refl _) _).drew).trans hb)
      | (refine step_append_sl rfl _ _ rfl v3 w2.heap.size ([] ++ xs) (by rfl) ho B ys.length q ys (by rfl) (HB.out.below (by repeat' (first | exact Below.refl _ _ | (refine Below.alloc ?_ ?_ _) | (refine Below.setCell ?_ ?_ _) | (refine Below.drew ?_) | (refine below_drewN ?_ _) | (refine Below.trans ?_ (Below.mono (by assumption) ?_)) | omega | (simp only [World.size_alloc, World.size_setCell, World.size_drew, size_drewN]; omega)))) (by first | omega | (simp; done) | (simp; omega)) (by first | omega | (simp; done) | (simp only [World.size_alloc, World.size_drew]; omega)) ?_; intro v4 w4 ho hb; obtain ⟨hc, hf⟩ := bcellB hb; have hz4 := hb.size; (try simp only [World.size_alloc, World.size_drew] at hz4); have hb4 : Below w2.heap.size w2 w4 := hb3.trans hb; obtain ⟨hc4, hf4⟩ := bcellB hb4; have zz0 := (hf4 _ 0 t2).trans z0; have yy0 := (hc4 _ 0 t2).trans y0; have zz1 := (hf4 _ 1 t2).trans z1; have yy1 := (hc4 _ 1 t2).trans y1; have zz2 := (hf4 _ 2 t2).trans z2; have yy2 := (hc4 _ 2 t2).trans y2; clear hc hf; obtain ⟨A4, c4, rfl, _⟩ := Own.sl ho))
  go_wp2
  rw [List.nil_append] at ho
  have m0 : (((w4.setCell ⟨w.heap.size + 1 + 1, 0, none⟩ (.int .i64 (r + r'))).setCell ⟨w.heap.size + 1 + 1, 1, none⟩ (.int .i64 c)).setCell ⟨w.heap.size + 1 + 1, 2, none⟩ (.slice A4 (xs.length + ys.length) c4)).cell? ⟨w.heap.size + 1 + 1, 0, none⟩ = some (.int .i64 (r + r')) := by go_simp
  have m1 : (((w4.setCell ⟨w.heap.size + 1 + 1, 0, none⟩ (.int .i64 (r + r'))).setCell ⟨w.heap.size + 1 + 1, 1, none⟩ (.int .i64 c)).setCell ⟨w.heap.size + 1 + 1, 2, none⟩ (.slice A4 (xs.length + ys.length) c4)).cell? ⟨w.heap.size + 1 + 1, 1, none⟩ = some (.int .i64 c) := by go_simp
  have m2 : (((w4.setCell ⟨w.heap.size + 1 + 1, 0, none⟩ (.int .i64 (r + r'))).setCell ⟨w.heap.size + 1 + 1, 1, none⟩ (.int .i64 c)).setCell ⟨w.heap.size + 1 + 1, 2, none⟩ (.slice A4 (xs.length + ys.length) c4)).cell? ⟨w.heap.size + 1 + 1, 2, none⟩ = some (.slice A4 (xs.length + ys.length) c4) := by go_simp
  rw [List.length_append] at ho
  refine bodyPost_ret (v := .tuple #[mv (r + r') (c) (.slice A4 (xs.length + ys.length) c4), .bool true]) (by first | (simp [results, Try.results30, go_sem, m0, m1, m2]; done) | (simp [results, Try.results30, go_sem]; done)) rfl ⟨_, rfl, ?_, ?_⟩
  · have hl := Own.lt ho
    have hne : ∀ k, (Value.slice A4 (xs.length + ys.length) c4).ownBlock ≠ some (⟨w.heap.size + 1 + 1, k, none⟩ : Addr).block := fun k e => by
      have := hl _ e
      dsimp only at this
      omega
    have ho2 : Own w4 w2.heap.size (.slice A4 (xs.length + ys.length) c4) (xs ++ ys) := ho
    exact Own.mono (Own.set (Own.set (Own.set ho2 (hne 0) _) (hne 1) _) (hne 2) _) (by omega)
  · have hw2 : Below w.heap.size w w2 := (by repeat' (first | exact Below.refl _ _ | (refine Below.alloc ?_ ?_ _) | (refine Below.setCell ?_ ?_ _) | (refine Below.drew ?_) | (refine below_drewN ?_ _) | (refine Below.trans ?_ (Below.mono (by assumption) ?_)) | omega | (simp only [World.size_alloc, World.size_setCell, World.size_drew, size_drewN]; omega)))
    have hw4 : Below w.heap.size w w4 := hw2.trans (hb4.mono (by omega))
    exact ((hw4.setCell (by dsimp only; omega) _).setCell (by dsimp only; omega) _).setCell (by dsimp only; omega) _
theorem specStackRows_no (r c r' c' : Int) (A B : Option Addr) (p q : Nat) (xs ys : List Int) (w : World) (hA : Sl w A xs.length p xs) (hn : xs.length ≤ 1048576) (hB : Sl w B ys.length q ys) (hn' : ys.length ≤ 1048576) (h : stkOk r c xs r' c' ys = false) :
    Calls Try.prog 30 #[mv r c (.slice A xs.length p), mv r' c' (.slice B ys.length q)] w (RetMat w 0 0 [] false) := by
  have HA := hide hA; clear hA
  have HB := hide hB; clear hB
  have HN := hide h
  rcases Bool.eq_false_or_eq_true (isMat r c xs) with hm | hm
  · rcases Bool.eq_false_or_eq_true (isMat r' c' ys) with hm' | hm'
    · obtain ⟨m1, m2, m3, m4, _, _, _⟩ := isMat_t hm
      obtain ⟨m1', m2', m3', m4', _, _, _⟩ := isMat_t hm'
      by_cases hc : c = c'
      · subst hc
        have hr : 24 < r + r' := by
          by_cases hr : r + r' ≤ 24
          · rw [stk_yes hm hm' hr] at h; cases h
          · omega
        have e1 : (c != c) = false := by simp
        clear h
        go_enter Try.func30, Try.ntmps30
        go_wp2_with (first
          | (go_at_call_of 15 (Value.slice A xs.length p); refine (specIsMatrix r c A p xs _ (SlI.below HA.out.2.2.2.2 (by repeat' (first | exact Below.refl _ _ | (refine Below.alloc ?_ ?_ _) | (refine Below.setCell ?_ ?_ _) | (refine Below.drew ?_) | (refine below_drewN ?_ _) | (refine Below.trans ?_ (Below.mono (by assumption) ?_)) | omega | (simp only [World.size_alloc, World.size_setCell, World.size_drew, size_drewN]; omega)))) (by omega)).mono ?_; rintro e w1 ⟨rfl, hb⟩; obtain ⟨hc, hf⟩ := bcell hb; have hz := hb.size; (try simp only [World.size_alloc, World.size_setCell, World.size_drew, size_drewN] at hz); (first | have hs := up3 hz | have hs := up2 hz | have hs := up1 hz | have hs := up0 hz); (try have q10 := hs _ q9); (try have q9 := hs _ q8); (try have q8 := hs _ q7); (try have q7 := hs _ q6); (try have q6 := hs _ q5); (try have q5 := hs _ q4); (try have q4 := hs _ q3); (try have q3 := hs _ q2); (try have q2 := hs _ q1); (try have p7 := hs _ p6); (try have p6 := hs _ p5); (try have p5 := hs _ p4); (try have p4 := hs _ p3); (try have p3 := hs _ p2); (try have p2 := hs _ p1); (try have q1 := new1 hz); (try have p1 := new2 hz); (try have r1 := new3 hz))
          | (go_at_call 15; refine (specIsMatrix r' c B q ys _ (SlI.below HB.out.2.2.2.2 (by repeat' (first | exact Below.refl _ _ | (refine Below.alloc ?_ ?_ _) | (refine Below.setCell ?_ ?_ _) | (refine Below.drew ?_) | (refine below_drewN ?_ _) | (refine Below.trans ?_ (Below.mono (by assumption) ?_)) | omega | (simp only [World.size_alloc, World.size_setCell, World.size_drew, size_drewN]; omega)))) (by omega)).mono ?_; rintro e w2 ⟨rfl, hb⟩; obtain ⟨hc, hf⟩ := bcell hb; have hz := hb.size; (try simp only [World.size_alloc, World.size_setCell, World.size_drew, size_drewN] at hz); (first | have hs := up3 hz | have hs := up2 hz | have hs := up1 hz | have hs := up0 hz); (try have q10 := hs _ q9); (try have q9 := hs _ q8); (try have q8 := hs _ q7); (try have q7 := hs _ q6); (try have q6 := hs _ q5); (try have q5 := hs _ q4); (try have q4 := hs _ q3); (try have q3 := hs _ q2); (try have q2 := hs _ q1); (try have p7 := hs _ p6); (try have p6 := hs _ p5); (try have p5 := hs _ p4); (try have p4 := hs _ p3); (try have p3 := hs _ p2); (try have p2 := hs _ p1); (try have q1 := new1 hz); (try have p1 := new2 hz); (try have r1 := new3 hz)))
        have t2 : w.heap.size + 1 + 1 < w2.heap.size := by omega
        have u2 : w.heap.size + 1 + 1 < w1.heap.size := by omega
        have y0 : w2.cell? ⟨w.heap.size + 1 + 1, 0, none⟩ = some (.int .i64 0) := by go_simp
        have y1 : w2.cell? ⟨w.heap.size + 1 + 1, 1, none⟩ = some (.int .i64 0) := by go_simp
        have y2 : w2.cell? ⟨w.heap.size + 1 + 1, 2, none⟩ = some (.slice none 0 0) := by go_simp
        obtain ⟨m0, m1, m2⟩ := end3 (x := .int .i64 0) (y := .int .i64 0) (z := .slice none 0 0) y0 y1 y2
        exact bodyPost_ret (v := .tuple #[mv (0) (0) (.slice none 0 0), .bool false]) (by first | (simp [results, Try.results30, go_sem, m0, m1, m2]; done) | (simp [results, Try.results30, go_sem]; done)) rfl ⟨_, rfl, Own.nil _ _, (by repeat' (first | exact Below.refl _ _ | (refine Below.alloc ?_ ?_ _) | (refine Below.setCell ?_ ?_ _) | (refine Below.drew ?_) | (refine below_drewN ?_ _) | (refine Below.trans ?_ (Below.mono (by assumption) ?_)) | omega | (simp only [World.size_alloc, World.size_setCell, World.size_drew, size_drewN]; omega)))⟩
      · have e1 : (c != c') = true := by simpa using hc
        clear h hc
        go_enter Try.func30, Try.ntmps30
        go_wp2_with (first
          | (go_at_call_of 15 (Value.slice A xs.length p); refine (specIsMatrix r c A p xs _ (SlI.below HA.out.2.2.2.2 (by repeat' (first | exact Below.refl _ _ | (refine Below.alloc ?_ ?_ _) | (refine Below.setCell ?_ ?_ _) | (refine Below.drew ?_) | (refine below_drewN ?_ _) | (refine Below.trans ?_ (Below.mono (by assumption) ?_)) | omega | (simp only [World.size_alloc, World.size_setCell, World.size_drew, size_drewN]; omega)))) (by omega)).mono ?_; rintro e w1 ⟨rfl, hb⟩; obtain ⟨hc, hf⟩ := bcell hb; have hz := hb.size; (try simp only [World.size_alloc, World.size_setCell, World.size_drew, size_drewN] at hz); (first | have hs := up3 hz | have hs := up2 hz | have hs := up1 hz | have hs := up0 hz); (try have q10 := hs _ q9); (try have q9 := hs _ q8); (try have q8 := hs _ q7); (try have q7 := hs _ q6); (try have q6 := hs _ q5); (try have q5 := hs _ q4); (try have q4 := hs _ q3); (try have q3 := hs _ q2); (try have q2 := hs _ q1); (try have p7 := hs _ p6); (try have p6 := hs _ p5); (try have p5 := hs _ p4); (try have p4 := hs _ p3); (try have p3 := hs _ p2); (try have p2 := hs _ p1); (try have q1 := new1 hz); (try have p1 := new2 hz); (try have r1 := new3 hz))
          | (go_at_call 15; refine (specIsMatrix r' c' B q ys _ (SlI.below HB.out.2.2.2.2 (by repeat' (first | exact Below.refl _ _ | (refine Below.alloc ?_ ?_ _) | (refine Below.setCell ?_ ?_ _) | (refine Below.drew ?_) | (refine below_drewN ?_ _) | (refine Below.trans ?_ (Below.mono (by assumption) ?_)) | omega | (simp only [World.size_alloc, World.size_setCell, World.size_drew, size_drewN]; omega)))) (by omega)).mono ?_; rintro e w2 ⟨rfl, hb⟩; obtain ⟨hc, hf⟩ := bcell hb; have hz := hb.size; (try simp only [World.size_alloc, World.size_setCell, World.size_drew, size_drewN] at hz); (first | have hs := up3 hz | have hs := up2 hz | have hs := up1 hz | have hs := up0 hz); (try have q10 := hs _ q9); (try have q9 := hs _ q8); (try have q8 := hs _ q7); (try have q7 := hs _ q6); (try have q6 := hs _ q5); (try have q5 := hs _ q4); (try have q4 := hs _ q3); (try have q3 := hs _ q2); (try have q2 := hs _ q1); (try have p7 := hs _ p6); (try have p6 := hs _ p5); (try have p5 := hs _ p4); (try have p4 := hs _ p3); (try have p3 := hs _ p2); (try have p2 := hs _ p1); (try have q1 := new1 hz); (try have p1 := new2 hz); (try have r1 := new3 hz)))
        have t2 : w.heap.size + 1 + 1 < w2.heap.size := by omega
        have u2 : w.heap.size + 1 + 1 < w1.heap.size := by omega
        have y0 : w2.cell? ⟨w.heap.size + 1 + 1, 0, none⟩ = some (.int .i64 0) := by go_simp
        have y1 : w2.cell? ⟨w.heap.size + 1 + 1, 1, none⟩ = some (.int .i64 0) := by go_simp
        have y2 : w2.cell? ⟨w.heap.size + 1 + 1, 2, none⟩ = some (.slice none 0 0) := by go_simp
        obtain ⟨m0, m1, m2⟩ := end3 (x := .int .i64 0) (y := .int .i64 0) (z := .slice none 0 0) y0 y1 y2
        exact bodyPost_ret (v := .tuple #[mv (0) (0) (.slice none 0 0), .bool false]) (by first | (simp [results, Try.results30, go_sem, m0, m1, m2]; done) | (simp [results, Try.results30, go_sem]; done)) rfl ⟨_, rfl, Own.nil _ _, (by repeat' (first | exact Below.refl _ _ | (refine Below.alloc ?_ ?_ _) | (refine Below.setCell ?_ ?_ _) | (refine Below.drew ?_) | (refine below_drewN ?_ _) | (refine Below.trans ?_ (Below.mono (by assumption) ?_)) | omega | (simp only [World.size_alloc, World.size_setCell, World.size_drew, size_drewN]; omega)))⟩
    · clear h
      go_enter Try.func30, Try.ntmps30
      go_wp2_with (first
        | (go_at_call_of 15 (Value.slice A xs.length p); refine (specIsMatrix r c A p xs _ (SlI.below HA.out.2.2.2.2 (by repeat' (first | exact Below.refl _ _ | (refine Below.alloc ?_ ?_ _) | (refine Below.setCell ?_ ?_ _) | (refine Below.drew ?_) | (refine below_drewN ?_ _) | (refine Below.trans ?_ (Below.mono (by assumption) ?_)) | omega | (simp only [World.size_alloc, World.size_setCell, World.size_drew, size_drewN]; omega)))) (by omega)).mono ?_; rintro e w1 ⟨rfl, hb⟩; obtain ⟨hc, hf⟩ := bcell hb; have hz := hb.size; (try simp only [World.size_alloc, World.size_setCell, World.size_drew, size_drewN] at hz); (first | have hs := up3 hz | have hs := up2 hz | have hs := up1 hz | have hs := up0 hz); (try have q10 := hs _ q9); (try have q9 := hs _ q8); (try have q8 := hs _ q7); (try have q7 := hs _ q6); (try have q6 := hs _ q5); (try have q5 := hs _ q4); (try have q4 := hs _ q3); (try have q3 := hs _ q2); (try have q2 := hs _ q1); (try have p7 := hs _ p6); (try have p6 := hs _ p5); (try have p5 := hs _ p4); (try have p4 := hs _ p3); (try have p3 := hs _ p2); (try have p2 := hs _ p1); (try have q1 := new1 hz); (try have p1 := new2 hz); (try have r1 := new3 hz))
        | (go_at_call 15; refine (specIsMatrix r' c' B q ys _ (SlI.below HB.out.2.2.2.2 (by repeat' (first | exact Below.refl _ _ | (refine Below.alloc ?_ ?_ _) | (refine Below.setCell ?_ ?_ _) | (refine Below.drew ?_) | (refine below_drewN ?_ _) | (refine Below.trans ?_ (Below.mono (by assumption) ?_)) | omega | (simp only [World.size_alloc, World.size_setCell, World.size_drew, size_drewN]; omega)))) (by omega)).mono ?_; rintro e w2 ⟨rfl, hb⟩; obtain ⟨hc, hf⟩ := bcell hb; have hz := hb.size; (try simp only [World.size_alloc, World.size_setCell, World.size_drew, size_drewN] at hz); (first | have hs := up3 hz | have hs := up2 hz | have hs := up1 hz | have hs := up0 hz); (try have q10 := hs _ q9); (try have q9 := hs _ q8); (try have q8 := hs _ q7); (try have q7 := hs _ q6); (try have q6 := hs _ q5); (try have q5 := hs _ q4); (try have q4 := hs _ q3); (try have q3 := hs _ q2); (try have q2 := hs _ q1); (try have p7 := hs _ p6); (try have p6 := hs _ p5); (try have p5 := hs _ p4); (try have p4 := hs _ p3); (try have p3 := hs _ p2); (try have p2 := hs _ p1); (try have q1 := new1 hz); (try have p1 := new2 hz); (try have r1 := new3 hz)))
      have t2 : w.heap.size + 1 + 1 < w2.heap.size := by omega
      have u2 : w.heap.size + 1 + 1 < w1.heap.size := by omega
      have y0 : w2.cell? ⟨w.heap.size + 1 + 1, 0, none⟩ = some (.int .i64 0) := by go_simp
      have y1 : w2.cell? ⟨w.heap.size + 1 + 1, 1, none⟩ = some (.int .i64 0) := by go_simp
      have y2 : w2.cell? ⟨w.heap.size + 1 + 1, 2, none⟩ = some (.slice none 0 0) := by go_simp
      obtain ⟨m0, m1, m2⟩ := end3 (x := .int .i64 0) (y := .int .i64 0) (z := .slice none 0 0) y0 y1 y2
      exact bodyPost_ret (v := .tuple #[mv (0) (0) (.slice none 0 0), .bool false]) (by first | (simp [results, Try.results30, go_sem, m0, m1, m2]; done) | (simp [results, Try.results30, go_sem]; done)) rfl ⟨_, rfl, Own.nil _ _, (by repeat' (first | exact Below.refl _ _ | (refine Below.alloc ?_ ?_ _) | (refine Below.setCell ?_ ?_ _) | (refine Below.drew ?_) | (refine below_drewN ?_ _) | (refine Below.trans ?_ (Below.mono (by assumption) ?_)) | omega | (simp only [World.size_alloc, World.size_setCell, World.size_drew, size_drewN]; omega)))⟩
  · clear h
    go_enter Try.func30, Try.ntmps30
    go_wp2_with (first
      | (go_at_call_of 15 (Value.slice A xs.length p); refine (specIsMatrix r c A p xs _ (SlI.below HA.out.2.2.2.2 (by repeat' (first | exact Below.refl _ _ | (refine Below.alloc ?_ ?_ _) | (refine Below.setCell ?_ ?_ _) | (refine Below.drew ?_) | (refine below_drewN ?_ _) | (refine Below.trans ?_ (Below.mono (by assumption) ?_)) | omega | (simp only [World.size_alloc, World.size_setCell, World.size_drew, size_drewN]; omega)))) (by omega)).mono ?_; rintro e w1 ⟨rfl, hb⟩; obtain ⟨hc, hf⟩ := bcell hb; have hz := hb.size; (try simp only [World.size_alloc, World.size_setCell, World.size_drew, size_drewN] at hz); (first | have hs := up3 hz | have hs := up2 hz | have hs := up1 hz | have hs := up0 hz); (try have q10 := hs _ q9); (try have q9 := hs _ q8); (try have q8 := hs _ q7); (try have q7 := hs _ q6); (try have q6 := hs _ q5); (try have q5 := hs _ q4); (try have q4 := hs _ q3); (try have q3 := hs _ q2); (try have q2 := hs _ q1); (try have p7 := hs _ p6); (try have p6 := hs _ p5); (try have p5 := hs _ p4); (try have p4 := hs _ p3); (try have p3 := hs _ p2); (try have p2 := hs _ p1); (try have q1 := new1 hz); (try have p1 := new2 hz); (try have r1 := new3 hz)))
    have t2 : w.heap.size + 1 + 1 < w1.heap.size := by omega
    have u2 : w.heap.size + 1 + 1 < w1.heap.size := by omega
    have y0 : w1.cell? ⟨w.heap.size + 1 + 1, 0, none⟩ = some (.int .i64 0) := by go_simp
    have y1 : w1.cell? ⟨w.heap.size + 1 + 1, 1, none⟩ = some (.int .i64 0) := by go_simp
    have y2 : w1.cell? ⟨w.heap.size + 1 + 1, 2, none⟩ = some (.slice none 0 0) := by go_simp
    obtain ⟨m0, m1, m2⟩ := end3 (x := .int .i64 0) (y := .int .i64 0) (z := .slice none 0 0) y0 y1 y2
    exact bodyPost_ret (v := .tuple #[mv (0) (0) (.slice none 0 0), .bool false]) (by first | (simp [results, Try.results30, go_sem, m0, m1, m2]; done) | (simp [results, Try.results30, go_sem]; done)) rfl ⟨_, rfl, Own.nil _ _, (by repeat' (first | exact Below.refl _ _ | (refine Below.alloc ?_ ?_ _) | (refine Below.setCell ?_ ?_ _) | (refine Below.drew ?_) | (refine below_drewN ?_ _) | (refine Below.trans ?_ (Below.mono (by assumption) ?_)) | omega | (simp only [World.size_alloc, World.size_setCell, World.size_drew, size_drewN]; omega)))⟩
theorem specStackRows (r c r' c' : Int) (A B : Option Addr) (p q : Nat) (xs ys : List Int) (w : World) (hA : Sl w A xs.length p xs) (hn : xs.length ≤ 1048576) (hB : Sl w B ys.length q ys) (hn' : ys.length ≤ 1048576) :
    Calls Try.prog 30 #[mv r c (.slice A xs.length p), mv r' c' (.slice B ys.length q)] w (RetMat w (stkR r c xs r' c' ys) (stkC r c xs r' c' ys) (stkL r c xs r' c' ys) (stkOk r c xs r' c' ys)) := by
  rcases Bool.eq_false_or_eq_true (stkOk r c xs r' c' ys) with h | h
  · rw [show stkR r c xs r' c' ys = r + r' from by simp [stkR, h], show stkC r c xs r' c' ys = c from by simp [stkC, h], show stkL r c xs r' c' ys = xs ++ ys from by simp [stkL, h], h]
    simp only [stkOk, Bool.and_eq_true, decide_eq_true_eq] at h
    obtain ⟨⟨⟨h1, h2⟩, rfl⟩, h4⟩ := h
    exact specStackRows_yes r c r' A B p q xs ys w hA hB h1 h2 h4
  · obtain ⟨e1, e2, e3⟩ := stk_no h
    rw [e1, e2, e3, h]
    exact specStackRows_no r c r' c' A B p q xs ys w hA hn hB hn' h
theorem StackRows_len {r c r' c' : Int} {xs ys : List Int} : (stkRes r c xs r' c' ys).L.length ≤ 1048576 := stk_len
theorem implStack (r c r' c' : Int) (A B : Option Addr) (p q : Nat) (xs ys : List Int) (w : World) (hA : Sl w A xs.length p xs) (hn : xs.length ≤ 1048576) (hB : Sl w B ys.length q ys) (hn' : ys.length ≤ 1048576) :
    Calls Try.prog 31 #[mv r c (.slice A xs.length p), mv r' c' (.slice B ys.length q)] w (RetM w (stkRes r c xs r' c' ys)) := implStackRows r c r' c' A B p q xs ys w hA hn hB hn'
theorem specStack (r c r' c' : Int) (A B : Option Addr) (p q : Nat) (xs ys : List Int) (w : World) (hA : Sl w A xs.length p xs) (hn : xs.length ≤ 1048576) (hB : Sl w B ys.length q ys) (hn' : ys.length ≤ 1048576) :
    Calls Try.prog 30 #[mv r c (.slice A xs.length p), mv r' c' (.slice B ys.length q)] w (RetM w (stkRes r c xs r' c' ys)) := specStackRows r c r' c' A B p q xs ys w hA hn hB hn'
end Go.Proofs.Ytgiggeabadlhcaa
