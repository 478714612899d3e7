/- The walks of ScaleMatrix. -/
import Derived.Test.YtchlaebkigmfgaaCopyW
import Derived.Test.YtchlaebkigmfgaaScaleL
import Derived.Test.YtchlaebkigmfgaaTab
import Derived.IntWalk
namespace Go.Proofs.Ytchlaebkigmfgaa
open Go.RowKit
set_option linter.unusedSimpArgs false
set_option linter.unusedVariables false

/-- The first k cells are multiplied. -/
def scTo (xs : List Int) (m : Int) (k : Nat) : Nat → Int := fun p => if p < k then xs.getD p 0 * m else xs.getD p 0
def scZ (xs : List Int) (m : Int) (k : Nat) : Nat → Int := fun p => if p < k then xs.getD p 0 * m else 0
def scL (xs : List Int) (m : Int) : List Int := tab xs.length (fun p => xs.getD p 0 * m)
theorem scTo_start (xs : List Int) (m : Int) : xs = tab xs.length (scTo xs m 0) := by
  rw [show tab xs.length (scTo xs m 0) = tab xs.length (fun p => xs.getD p 0) from tab_congr fun p _ => by simp [scTo], tab_self]
theorem scTo_step {xs : List Int} {m : Int} {k : Nat} : (tab xs.length (scTo xs m k)).set k (xs.getD k 0 * m) = tab xs.length (scTo xs m (k + 1)) :=
  tab_set (fun _ => by simp [scTo]) (fun p hp hne => by
    simp only [scTo]
    by_cases h : p < k
    · rw [if_pos h, if_pos (by omega)]
    · rw [if_neg h, if_neg (by omega)])
theorem scTo_end (xs : List Int) (m : Int) : tab xs.length (scTo xs m xs.length) = scL xs m := tab_congr fun p hp => by simp [scTo, hp]
theorem scZ_start (xs : List Int) (m : Int) : List.replicate xs.length 0 = tab xs.length (scZ xs m 0) := by
  rw [tab_zeros]; exact tab_congr fun p _ => by simp [scZ]
theorem scZ_step {xs : List Int} {m : Int} {k : Nat} : (tab xs.length (scZ xs m k)).set k (xs.getD k 0 * m) = tab xs.length (scZ xs m (k + 1)) :=
  tab_set (fun _ => by simp [scZ]) (fun p hp hne => by
    simp only [scZ]
    by_cases h : p < k
    · rw [if_pos h, if_pos (by omega)]
    · rw [if_neg h, if_neg (by omega)])
theorem scZ_end (xs : List Int) (m : Int) : tab xs.length (scZ xs m xs.length) = scL xs m := tab_congr fun p hp => by simp [scZ, hp]
def scRes (r c : Int) (xs : List Int) (m : Int) : MRes := if (isMat r c xs && isNum m && isMat r c (scL xs m)) = true then ⟨r, c, scL xs m, true⟩ else .no
theorem ScaleMatrix_len {r c : Int} {xs : List Int} {n : Int} : (scRes r c xs n).L.length ≤ 1048576 := by
  unfold scRes
  split
  · rename_i h
    simp only [Bool.and_eq_true] at h
    have := (isMat_t h.2).2.2.2.2.2.2
    show (scL xs n).length ≤ _
    omega
  · exact Nat.zero_le _
set_option maxHeartbeats 4000000 in
theorem implScale_in (r c m : Int) (A : Option Addr) (cap : Nat) (xs : List Int) (w : World) (hA : Sl w A xs.length cap xs) (hm : isMat r c xs = true) (hi : isNum m = true) :
    Calls Try.prog 35 #[mv r c (.slice A xs.length cap), .int .i64 m] w (RetM w (scRes r c xs m)) := by
  obtain ⟨m1, m2, m3, m4, m5, mA, m7⟩ := isMat_t hm
  clear m5
  have hmb := isNum_t hi
  have HA := hide hA; clear hA
  have HN := hide mA; clear mA
  have cc := fun A cap w (h : Sl w A xs.length cap xs) => implCopy r c A cap xs w h (by omega)
  have CC := hide cc; clear cc
  have HS0 := hide (scTo_start xs m)
  go_enter Try.func35, Try.ntmps35
  go_wp2_with (first
    | (go_at_call 67; refine (implIsMatrix r c A cap xs _ (SlI.below HA.out.2.2.2.2 (by repeat' (first | exact Below.refl _ _ | (refine Below.alloc ?_ ?_ _) | (refine Below.setCell ?_ ?_ _) | (refine Below.drew ?_) | (refine below_drewN ?_ _) | (refine Below.trans ?_ (Below.mono (by assumption) ?_)) | omega | (simp only [World.size_alloc, World.size_setCell, World.size_drew, size_drewN]; omega)))) (by omega)).mono ?_; rintro e w1 ⟨rfl, hb⟩; obtain ⟨hc, hf⟩ := bcell hb; have hz := hb.size; (try simp only [World.size_alloc, World.size_setCell, World.size_drew, size_drewN] at hz); (first | have hs := up3 hz | have hs := up2 hz | have hs := up1 hz | have hs := up0 hz); (try have q10 := hs _ q9); (try have q9 := hs _ q8); (try have q8 := hs _ q7); (try have q7 := hs _ q6); (try have q6 := hs _ q5); (try have q5 := hs _ q4); (try have q4 := hs _ q3); (try have q3 := hs _ q2); (try have q2 := hs _ q1); (try have p7 := hs _ p6); (try have p6 := hs _ p5); (try have p5 := hs _ p4); (try have p4 := hs _ p3); (try have p3 := hs _ p2); (try have p2 := hs _ p1); (try have q1 := new1 hz); (try have p1 := new2 hz); (try have r1 := new3 hz))
    | (go_at_call 54; refine (implIsNumber _ _).mono ?_; rintro e w' ⟨rfl, rfl⟩)
    | (go_at_call 51; refine (CC.out A cap _ (HA.out.below (by repeat' (first | exact Below.refl _ _ | (refine Below.alloc ?_ ?_ _) | (refine Below.setCell ?_ ?_ _) | (refine Below.drew ?_) | (refine below_drewN ?_ _) | (refine Below.trans ?_ (Below.mono (by assumption) ?_)) | omega | (simp only [World.size_alloc, World.size_setCell, World.size_drew, size_drewN]; omega))))).mono ?_; rintro e w2 ⟨s2, rfl, ho, hb⟩; obtain ⟨hc, hf⟩ := bcell hb; have hz := hb.size; (try simp only [World.size_alloc, World.size_setCell, World.size_drew, size_drewN] at hz); (first | have hs := up3 hz | have hs := up2 hz | have hs := up1 hz | have hs := up0 hz); (try have q10 := hs _ q9); (try have q9 := hs _ q8); (try have q8 := hs _ q7); (try have q7 := hs _ q6); (try have q6 := hs _ q5); (try have q5 := hs _ q4); (try have q4 := hs _ q3); (try have q3 := hs _ q2); (try have q2 := hs _ q1); (try have p7 := hs _ p6); (try have p6 := hs _ p5); (try have p5 := hs _ p4); (try have p4 := hs _ p3); (try have p3 := hs _ p2); (try have p2 := hs _ p1); (try have q1 := new1 hz); (try have p1 := new2 hz); (try have r1 := new3 hz); obtain ⟨A2, c2, rfl, _⟩ := Own.sl ho))
  have hg0 := (Own.lt ho)
  go_loopw [22] (fun i wr => ∃ k : Nat, k ≤ xs.length ∧ i = .int .i64 k ∧ Own wr w1.heap.size (.slice A2 xs.length c2) (tab xs.length (scTo xs m k)) ∧
      Box3 wr (w.heap.size + 1) (.int .i64 0) (.int .i64 0) (.slice none 0 0) ∧ Box3 wr w2.heap.size (.int .i64 r) (.int .i64 c) (.slice A2 xs.length c2) ∧ Below w.heap.size w wr) (fun i _ => xs.length - (intOf i).toNat)
  case atStart =>
    refine ⟨0, Nat.zero_le _, rfl, ?_, ?_, ?_, ?_⟩
    · rw [← HS0.out]
      exact (by repeat' (first | with_reducible exact HO.out | with_reducible assumption | (with_reducible refine Own.set ?_ (own_ne ?_) _) | (with_reducible refine Own.set ?_ (own_nl (by assumption) (by first | omega | (dsimp only; omega))) _) | (with_reducible refine Own.alloc ?_ _) | (with_reducible refine Own.drewN ?_ _) | omega | (dsimp only; omega)))
    · exact (by repeat' (first | with_reducible assumption | (with_reducible refine Box3.set ?_ ?_ _) | (with_reducible refine Box3.drew ?_) | (with_reducible refine Box3.drewN ?_ _) | (with_reducible exact Box3.new _ _ _ (by first | rfl | (simp only [World.size_alloc]; done) | (simp only [World.size_alloc]; omega))) | (with_reducible refine Box3.alloc ?_ _) | (with_reducible refine Box3.call ?_ (by assumption)) | (with_reducible refine Box3.grown ?_ (by assumption) (by simp; omega)) | omega | (dsimp only; omega) | (simp only [World.size_alloc, World.size_setCell, World.size_drew, size_drewN]; omega)))
    · exact (by repeat' (first | with_reducible assumption | (with_reducible refine Box3.set ?_ ?_ _) | (with_reducible refine Box3.drew ?_) | (with_reducible refine Box3.drewN ?_ _) | (with_reducible exact Box3.new _ _ _ (by first | rfl | (simp only [World.size_alloc]; done) | (simp only [World.size_alloc]; omega))) | (with_reducible refine Box3.alloc ?_ _) | (with_reducible refine Box3.call ?_ (by assumption)) | (with_reducible refine Box3.grown ?_ (by assumption) (by simp; omega)) | omega | (dsimp only; omega) | (simp only [World.size_alloc, World.size_setCell, World.size_drew, size_drewN]; omega)))
    · exact (by repeat' (first | exact Below.refl _ _ | (refine Below.alloc ?_ ?_ _) | (refine Below.setCell ?_ ?_ _) | (refine Below.drew ?_) | (refine below_drewN ?_ _) | (refine Below.trans ?_ (Below.mono (by assumption) ?_)) | omega | (simp only [World.size_alloc, World.size_setCell, World.size_drew, size_drewN]; omega)))
  case round =>
    obtain ⟨k, hk, rfl, ho, b1, b2, hB⟩ := hrel
    have hB1 := hide b1
    have hB2 := hide b2
    have HO := hide ho; clear ho b1
    obtain ⟨⟨d0, d1, d2⟩, _⟩ := b2
    by_cases hlt : k < xs.length
    · obtain ⟨g, rfl, hgl, hgw⟩ := own_some HO.out (by rw [tab_length]; omega)
      obtain ⟨x, hx⟩ : ∃ x, xs.getD k 0 = x := ⟨_, rfl⟩
      have hxb := num_at HN.out k
      have hst := scTo_step (xs := xs) (m := m) (k := k)
      have hce := own_cell HO.out hlt
      have hck : scTo xs m k k = xs.getD k 0 := by simp [scTo]
      rw [hck] at hce
      rw [hx] at hxb hst hce
      have hpb := mul_in hxb hmb
      have hso := own_store HO.out hst
      have hfd := own_free HO.out k
      have HSO := hide hso
      clear hso hst hck hx
      go_wp2
      go_roundw
      case rel =>
        refine ⟨k + 1, by omega, by go_num, HSO.out.1, ?_, ?_, ?_⟩
        · exact hB1.out.grown HSO.out.2 (by first | (simp; done) | (simp; omega))
        · exact hB2.out.grown HSO.out.2 (by simp; have := hg0 g rfl; omega)
        · exact hB.grown HSO.out.2 hB.size (fun j hj => by cases hj; omega)
      case measure => simp [intOf]; omega
    · have hkk : k = xs.length := by omega
      subst hkk
      have HO2 : Hid (Own wr w1.heap.size (.slice A2 xs.length c2) (scL xs m)) := by have := HO.out; rwa [scTo_end] at this
      clear HO
      have HO := HO2
      clear HO2
      have hz := hB.size
      have hll : (scL xs m).length = xs.length := tab_length _ _
      rcases Bool.eq_false_or_eq_true (isMat r c (scL xs m)) with hs | hs
      · have HR : Hid (scRes r c xs m = ⟨r, c, scL xs m, true⟩ ) := by rw [Hid, scRes, if_pos (by simp [hm, hi, hs])]
        have ck := fun w (h : SlI w A2 (scL xs m)) => implChecked_yes r c A2 c2 (scL xs m) w h (by omega) hs
        rw [hll] at ck
        have CK := hide ck
        clear ck hs hll
        go_wp2_with (go_at_call 68; refine (CK.out _ (Own.sl2 HO.out).2.2.2.2).mono ?_; rintro e w3 ⟨rfl, hb⟩; obtain ⟨⟨x0, x1, x2⟩, f0, f1, f2⟩ := hB1.out.call hb)
        obtain ⟨⟨m0, m1, m2⟩, _⟩ := Box3.stored (hB1.out.call hb) (.int .i64 r) (.int .i64 c) (.slice A2 xs.length c2)
        have ho3 := Own.below HO.out hb
        exact bodyPost_ret (v := .tuple #[mv (r) (c) (.slice A2 xs.length c2), .bool true]) (by first | (simp [results, Try.results35, go_sem, m0, m1, m2]; done) | (simp [results, Try.results35, go_sem]; done)) rfl (by rw [HR.out]; show RetMat w r c (scL xs m) true _ _; exact ⟨_, rfl, Own.mono (lo := w1.heap.size) (by repeat' (first | with_reducible exact HO.out | with_reducible assumption | (with_reducible refine Own.set ?_ (own_ne ?_) _) | (with_reducible refine Own.set ?_ (own_nl (by assumption) (by first | omega | (dsimp only; omega))) _) | (with_reducible refine Own.alloc ?_ _) | (with_reducible refine Own.drewN ?_ _) | omega | (dsimp only; omega))) (by omega), (by repeat' (first | exact Below.refl _ _ | (refine Below.alloc ?_ ?_ _) | (refine Below.setCell ?_ ?_ _) | (refine Below.drew ?_) | (refine below_drewN ?_ _) | (refine Below.trans ?_ (Below.mono (by assumption) ?_)) | omega | (simp only [World.size_alloc, World.size_setCell, World.size_drew, size_drewN]; omega)))⟩)
      · have HR : Hid (scRes r c xs m = .no ) := by rw [Hid, scRes, if_neg (by simp [hs])]
        have ck := fun w (h : SlI w A2 (scL xs m)) => implChecked_no r c A2 c2 (scL xs m) w h (by omega) hs
        rw [hll] at ck
        have CK := hide ck
        clear ck hs hll
        go_wp2_with (go_at_call 68; refine (CK.out _ (Own.sl2 HO.out).2.2.2.2).mono ?_; rintro e w3 ⟨rfl, hb⟩; obtain ⟨⟨x0, x1, x2⟩, f0, f1, f2⟩ := hB1.out.call hb)
        obtain ⟨⟨m0, m1, m2⟩, _⟩ := Box3.stored (hB1.out.call hb) (.int .i64 0) (.int .i64 0) (.slice none 0 0)
        exact bodyPost_ret (v := .tuple #[mv (0) (0) (.slice none 0 0), .bool false]) (by first | (simp [results, Try.results35, go_sem, m0, m1, m2]; done) | (simp [results, Try.results35, go_sem]; done)) rfl (by rw [HR.out]; exact ⟨_, rfl, Own.nil _ _, (by repeat' (first | exact Below.refl _ _ | (refine Below.alloc ?_ ?_ _) | (refine Below.setCell ?_ ?_ _) | (refine Below.drew ?_) | (refine below_drewN ?_ _) | (refine Below.trans ?_ (Below.mono (by assumption) ?_)) | omega | (simp only [World.size_alloc, World.size_setCell, World.size_drew, size_drewN]; omega)))⟩)
set_option maxHeartbeats 1000000 in
theorem implScale_out (r c m : Int) (A : Option Addr) (cap : Nat) (xs : List Int) (w : World) (hA : Sl w A xs.length cap xs) (hn : xs.length ≤ 1048576) (hm : (isMat r c xs && isNum m) = false) :
    Calls Try.prog 35 #[mv r c (.slice A xs.length cap), .int .i64 m] w (RetMat w 0 0 [] false) := by
  have HA := hide hA; clear hA
  rcases Bool.eq_false_or_eq_true (isMat r c xs) with h | h
  · have hi : isNum m = false := by simpa [h] using hm
    clear hm
    go_enter Try.func35, Try.ntmps35
    go_wp2_with (first
      | (go_at_call 67; refine (implIsMatrix r c A cap xs _ (SlI.below HA.out.2.2.2.2 (by repeat' (first | exact Below.refl _ _ | (refine Below.alloc ?_ ?_ _) | (refine Below.setCell ?_ ?_ _) | (refine Below.drew ?_) | (refine below_drewN ?_ _) | (refine Below.trans ?_ (Below.mono (by assumption) ?_)) | omega | (simp only [World.size_alloc, World.size_setCell, World.size_drew, size_drewN]; omega)))) (by omega)).mono ?_; rintro e w1 ⟨rfl, hb⟩; obtain ⟨hc, hf⟩ := bcell hb; have hz := hb.size; (try simp only [World.size_alloc, World.size_setCell, World.size_drew, size_drewN] at hz); (first | have hs := up3 hz | have hs := up2 hz | have hs := up1 hz | have hs := up0 hz); (try have q10 := hs _ q9); (try have q9 := hs _ q8); (try have q8 := hs _ q7); (try have q7 := hs _ q6); (try have q6 := hs _ q5); (try have q5 := hs _ q4); (try have q4 := hs _ q3); (try have q3 := hs _ q2); (try have q2 := hs _ q1); (try have p7 := hs _ p6); (try have p6 := hs _ p5); (try have p5 := hs _ p4); (try have p4 := hs _ p3); (try have p3 := hs _ p2); (try have p2 := hs _ p1); (try have q1 := new1 hz); (try have p1 := new2 hz); (try have r1 := new3 hz); obtain ⟨⟨x0, x1, x2⟩, f0, f1, f2⟩ := show Box3 w1 (w.heap.size + 1) (.int .i64 0) (.int .i64 0) (.slice none 0 0) from (by repeat' (first | with_reducible assumption | (with_reducible refine Box3.set ?_ ?_ _) | (with_reducible refine Box3.drew ?_) | (with_reducible refine Box3.drewN ?_ _) | (with_reducible exact Box3.new _ _ _ (by first | rfl | (simp only [World.size_alloc]; done) | (simp only [World.size_alloc]; omega))) | (with_reducible refine Box3.alloc ?_ _) | (with_reducible refine Box3.call ?_ (by assumption)) | (with_reducible refine Box3.grown ?_ (by assumption) (by simp; omega)) | omega | (dsimp only; omega) | (simp only [World.size_alloc, World.size_setCell, World.size_drew, size_drewN]; omega))))
      | (go_at_call 54; refine (implIsNumber _ _).mono ?_; rintro e w' ⟨rfl, rfl⟩))
    obtain ⟨⟨m0, m1, m2⟩, _⟩ := Box3.stored (show Box3 w1 (w.heap.size + 1) (.int .i64 0) (.int .i64 0) (.slice none 0 0) from (by repeat' (first | with_reducible assumption | (with_reducible refine Box3.set ?_ ?_ _) | (with_reducible refine Box3.drew ?_) | (with_reducible refine Box3.drewN ?_ _) | (with_reducible exact Box3.new _ _ _ (by first | rfl | (simp only [World.size_alloc]; done) | (simp only [World.size_alloc]; omega))) | (with_reducible refine Box3.alloc ?_ _) | (with_reducible refine Box3.call ?_ (by assumption)) | (with_reducible refine Box3.grown ?_ (by assumption) (by simp; omega)) | omega | (dsimp only; omega) | (simp only [World.size_alloc, World.size_setCell, World.size_drew, size_drewN]; omega)))) (.int .i64 0) (.int .i64 0) (.slice none 0 0)
    exact bodyPost_ret (v := .tuple #[mv (0) (0) (.slice none 0 0), .bool false]) (by first | (simp [results, Try.results35, go_sem, m0, m1, m2]; done) | (simp [results, Try.results35, go_sem]; done)) rfl ⟨_, rfl, Own.nil _ _, (by repeat' (first | exact Below.refl _ _ | (refine Below.alloc ?_ ?_ _) | (refine Below.setCell ?_ ?_ _) | (refine Below.drew ?_) | (refine below_drewN ?_ _) | (refine Below.trans ?_ (Below.mono (by assumption) ?_)) | omega | (simp only [World.size_alloc, World.size_setCell, World.size_drew, size_drewN]; omega)))⟩
  · clear hm
    go_enter Try.func35, Try.ntmps35
    go_wp2_with (first
      | (go_at_call 67; refine (implIsMatrix r c A cap xs _ (SlI.below HA.out.2.2.2.2 (by repeat' (first | exact Below.refl _ _ | (refine Below.alloc ?_ ?_ _) | (refine Below.setCell ?_ ?_ _) | (refine Below.drew ?_) | (refine below_drewN ?_ _) | (refine Below.trans ?_ (Below.mono (by assumption) ?_)) | omega | (simp only [World.size_alloc, World.size_setCell, World.size_drew, size_drewN]; omega)))) (by omega)).mono ?_; rintro e w1 ⟨rfl, hb⟩; obtain ⟨hc, hf⟩ := bcell hb; have hz := hb.size; (try simp only [World.size_alloc, World.size_setCell, World.size_drew, size_drewN] at hz); (first | have hs := up3 hz | have hs := up2 hz | have hs := up1 hz | have hs := up0 hz); (try have q10 := hs _ q9); (try have q9 := hs _ q8); (try have q8 := hs _ q7); (try have q7 := hs _ q6); (try have q6 := hs _ q5); (try have q5 := hs _ q4); (try have q4 := hs _ q3); (try have q3 := hs _ q2); (try have q2 := hs _ q1); (try have p7 := hs _ p6); (try have p6 := hs _ p5); (try have p5 := hs _ p4); (try have p4 := hs _ p3); (try have p3 := hs _ p2); (try have p2 := hs _ p1); (try have q1 := new1 hz); (try have p1 := new2 hz); (try have r1 := new3 hz); obtain ⟨⟨x0, x1, x2⟩, f0, f1, f2⟩ := show Box3 w1 (w.heap.size + 1) (.int .i64 0) (.int .i64 0) (.slice none 0 0) from (by repeat' (first | with_reducible assumption | (with_reducible refine Box3.set ?_ ?_ _) | (with_reducible refine Box3.drew ?_) | (with_reducible refine Box3.drewN ?_ _) | (with_reducible exact Box3.new _ _ _ (by first | rfl | (simp only [World.size_alloc]; done) | (simp only [World.size_alloc]; omega))) | (with_reducible refine Box3.alloc ?_ _) | (with_reducible refine Box3.call ?_ (by assumption)) | (with_reducible refine Box3.grown ?_ (by assumption) (by simp; omega)) | omega | (dsimp only; omega) | (simp only [World.size_alloc, World.size_setCell, World.size_drew, size_drewN]; omega)))))
    obtain ⟨⟨m0, m1, m2⟩, _⟩ := Box3.stored (show Box3 w1 (w.heap.size + 1) (.int .i64 0) (.int .i64 0) (.slice none 0 0) from (by repeat' (first | with_reducible assumption | (with_reducible refine Box3.set ?_ ?_ _) | (with_reducible refine Box3.drew ?_) | (with_reducible refine Box3.drewN ?_ _) | (with_reducible exact Box3.new _ _ _ (by first | rfl | (simp only [World.size_alloc]; done) | (simp only [World.size_alloc]; omega))) | (with_reducible refine Box3.alloc ?_ _) | (with_reducible refine Box3.call ?_ (by assumption)) | (with_reducible refine Box3.grown ?_ (by assumption) (by simp; omega)) | omega | (dsimp only; omega) | (simp only [World.size_alloc, World.size_setCell, World.size_drew, size_drewN]; omega)))) (.int .i64 0) (.int .i64 0) (.slice none 0 0)
    exact bodyPost_ret (v := .tuple #[mv (0) (0) (.slice none 0 0), .bool false]) (by first | (simp [results, Try.results35, go_sem, m0, m1, m2]; done) | (simp [results, Try.results35, go_sem]; done)) rfl ⟨_, rfl, Own.nil _ _, (by repeat' (first | exact Below.refl _ _ | (refine Below.alloc ?_ ?_ _) | (refine Below.setCell ?_ ?_ _) | (refine Below.drew ?_) | (refine below_drewN ?_ _) | (refine Below.trans ?_ (Below.mono (by assumption) ?_)) | omega | (simp only [World.size_alloc, World.size_setCell, World.size_drew, size_drewN]; omega)))⟩
theorem implScale (r c m : Int) (A : Option Addr) (cap : Nat) (xs : List Int) (w : World) (hA : Sl w A xs.length cap xs) (hn : xs.length ≤ 1048576) :
    Calls Try.prog 35 #[mv r c (.slice A xs.length cap), .int .i64 m] w (RetM w (scRes r c xs m)) := by
  rcases Bool.eq_false_or_eq_true (isMat r c xs && isNum m) with h | h
  · simp only [Bool.and_eq_true] at h
    exact implScale_in r c m A cap xs w hA h.1 h.2
  · rw [show scRes r c xs m = .no from by rw [scRes, if_neg (by simp [h])]]
    exact implScale_out r c m A cap xs w hA hn h
set_option maxHeartbeats 4000000 in
theorem specScale_in (r c m : Int) (A : Option Addr) (cap : Nat) (xs : List Int) (w : World) (hA : Sl w A xs.length cap xs) (hm : isMat r c xs = true) (hi : isNum m = true) :
    Calls Try.prog 71 #[mv r c (.slice A xs.length cap), .int .i64 m] w (RetM w (scRes r c xs m)) := by
  obtain ⟨m1, m2, m3, m4, m5, mA, m7⟩ := isMat_t hm
  have HN0 : Hid (r * c = (xs.length : Int)) := m5.symm
  clear m5
  have hmb := isNum_t hi
  have HA := hide hA; clear hA
  have HN := hide mA; clear mA
  have HS0 := hide (scZ_start xs m)
  go_enter Try.func71, Try.ntmps71
  go_wp2_with (first
    | (go_at_call 69; refine (specIsMatrix r c A cap xs _ (SlI.below HA.out.2.2.2.2 (by repeat' (first | exact Below.refl _ _ | (refine Below.alloc ?_ ?_ _) | (refine Below.setCell ?_ ?_ _) | (refine Below.drew ?_) | (refine below_drewN ?_ _) | (refine Below.trans ?_ (Below.mono (by assumption) ?_)) | omega | (simp only [World.size_alloc, World.size_setCell, World.size_drew, size_drewN]; omega)))) (by omega)).mono ?_; rintro e w1 ⟨rfl, hb⟩; obtain ⟨hc, hf⟩ := bcell hb; have hz := hb.size; (try simp only [World.size_alloc, World.size_setCell, World.size_drew, size_drewN] at hz); (first | have hs := up3 hz | have hs := up2 hz | have hs := up1 hz | have hs := up0 hz); (try have q10 := hs _ q9); (try have q9 := hs _ q8); (try have q8 := hs _ q7); (try have q7 := hs _ q6); (try have q6 := hs _ q5); (try have q5 := hs _ q4); (try have q4 := hs _ q3); (try have q3 := hs _ q2); (try have q2 := hs _ q1); (try have p7 := hs _ p6); (try have p6 := hs _ p5); (try have p5 := hs _ p4); (try have p4 := hs _ p3); (try have p3 := hs _ p2); (try have p2 := hs _ p1); (try have q1 := new1 hz); (try have p1 := new2 hz); (try have r1 := new3 hz))
    | (go_at_call 85; refine (specIsNumber _ _).mono ?_; rintro e w' ⟨rfl, rfl⟩)
    | (go_at_call 56; refine (specL3New r c xs.length _ HN0 (by omega)).mono ?_; rintro e w2 ⟨rfl, ho, hb⟩; obtain ⟨hc, hf⟩ := bcell hb; have hz := hb.size; (try simp only [World.size_alloc, World.size_setCell, World.size_drew, size_drewN] at hz); (first | have hs := up3 hz | have hs := up2 hz | have hs := up1 hz | have hs := up0 hz); (try have q10 := hs _ q9); (try have q9 := hs _ q8); (try have q8 := hs _ q7); (try have q7 := hs _ q6); (try have q6 := hs _ q5); (try have q5 := hs _ q4); (try have q4 := hs _ q3); (try have q3 := hs _ q2); (try have q2 := hs _ q1); (try have p7 := hs _ p6); (try have p6 := hs _ p5); (try have p5 := hs _ p4); (try have p4 := hs _ p3); (try have p3 := hs _ p2); (try have p2 := hs _ p1); (try have q1 := new1 hz); (try have p1 := new2 hz); (try have r1 := new3 hz)))
  have hg0 := (Own.lt ho)
  have hg1 : w1.heap.size + 1 < w2.heap.size := (hg0 _ rfl).2
  go_loopw [7] (fun i wr => ∃ k : Nat, k ≤ xs.length ∧ i = .int .i64 k ∧ Own wr w1.heap.size (.slice (some ⟨w1.heap.size + 1, 0, none⟩) xs.length xs.length) (tab xs.length (scZ xs m k)) ∧
      Box3 wr w.heap.size (.int .i64 r) (.int .i64 c) (.slice A xs.length cap) ∧ Box3 wr (w.heap.size + 1) (.int .i64 0) (.int .i64 0) (.slice none 0 0) ∧ Box3 wr w2.heap.size (.int .i64 r) (.int .i64 c) (.slice (some ⟨w1.heap.size + 1, 0, none⟩) xs.length xs.length) ∧ Below w.heap.size w wr) (fun i _ => xs.length - (intOf i).toNat)
  case atStart =>
    refine ⟨0, Nat.zero_le _, rfl, ?_, ?_, ?_, ?_, ?_⟩
    · rw [← HS0.out]
      exact (by repeat' (first | with_reducible exact HO.out | with_reducible assumption | (with_reducible refine Own.set ?_ (own_ne ?_) _) | (with_reducible refine Own.set ?_ (own_nl (by assumption) (by first | omega | (dsimp only; omega))) _) | (with_reducible refine Own.alloc ?_ _) | (with_reducible refine Own.drewN ?_ _) | omega | (dsimp only; omega)))
    · exact (by repeat' (first | with_reducible assumption | (with_reducible refine Box3.set ?_ ?_ _) | (with_reducible refine Box3.drew ?_) | (with_reducible refine Box3.drewN ?_ _) | (with_reducible exact Box3.new _ _ _ (by first | rfl | (simp only [World.size_alloc]; done) | (simp only [World.size_alloc]; omega))) | (with_reducible refine Box3.alloc ?_ _) | (with_reducible refine Box3.call ?_ (by assumption)) | (with_reducible refine Box3.grown ?_ (by assumption) (by simp; omega)) | omega | (dsimp only; omega) | (simp only [World.size_alloc, World.size_setCell, World.size_drew, size_drewN]; omega)))
    · exact (by repeat' (first | with_reducible assumption | (with_reducible refine Box3.set ?_ ?_ _) | (with_reducible refine Box3.drew ?_) | (with_reducible refine Box3.drewN ?_ _) | (with_reducible exact Box3.new _ _ _ (by first | rfl | (simp only [World.size_alloc]; done) | (simp only [World.size_alloc]; omega))) | (with_reducible refine Box3.alloc ?_ _) | (with_reducible refine Box3.call ?_ (by assumption)) | (with_reducible refine Box3.grown ?_ (by assumption) (by simp; omega)) | omega | (dsimp only; omega) | (simp only [World.size_alloc, World.size_setCell, World.size_drew, size_drewN]; omega)))
    · exact (by repeat' (first | with_reducible assumption | (with_reducible refine Box3.set ?_ ?_ _) | (with_reducible refine Box3.drew ?_) | (with_reducible refine Box3.drewN ?_ _) | (with_reducible exact Box3.new _ _ _ (by first | rfl | (simp only [World.size_alloc]; done) | (simp only [World.size_alloc]; omega))) | (with_reducible refine Box3.alloc ?_ _) | (with_reducible refine Box3.call ?_ (by assumption)) | (with_reducible refine Box3.grown ?_ (by assumption) (by simp; omega)) | omega | (dsimp only; omega) | (simp only [World.size_alloc, World.size_setCell, World.size_drew, size_drewN]; omega)))
    · exact (by repeat' (first | exact Below.refl _ _ | (refine Below.alloc ?_ ?_ _) | (refine Below.setCell ?_ ?_ _) | (refine Below.drew ?_) | (refine below_drewN ?_ _) | (refine Below.trans ?_ (Below.mono (by assumption) ?_)) | omega | (simp only [World.size_alloc, World.size_setCell, World.size_drew, size_drewN]; omega)))
  case round =>
    obtain ⟨k, hk, rfl, ho, b0, b1, b2, hB⟩ := hrel
    have hB0 := hide b0
    obtain ⟨⟨a0, a1, a2⟩, _⟩ := b0
    have hB1 := hide b1
    have hB2 := hide b2
    have HO := hide ho; clear ho b1
    obtain ⟨⟨d0, d1, d2⟩, _⟩ := b2
    by_cases hlt : k < xs.length
    · obtain ⟨g, off, rfl, hcx⟩ := HA.out.2.2.2.2 (by omega)
      have hcg := hcx k hlt
      have hgl : g < w.heap.size := World.block_lt_of_cell? _ _ hcg
      have hcw : wr.cell? ⟨g, off + k, none⟩ = some (.int .i64 (xs.getD k 0)) := kc_call hcg hB
      clear hcx hcg
      obtain ⟨x, hx⟩ : ∃ x, xs.getD k 0 = x := ⟨_, rfl⟩
      have hxb := num_at HN.out k
      have hst := scZ_step (xs := xs) (m := m) (k := k)
      have hce := own_cell HO.out hlt
      have hck : scZ xs m k k = 0 := by simp [scZ]
      rw [hck] at hce
      rw [hx] at hxb hst hcw
      have hpb := mul_in hxb hmb
      have hso := own_store HO.out hst
      have hfd := own_free HO.out k
      have HSO := hide hso
      have q1 : IntKind.i64.wrap (x * m) = x * m := IntWalk.i64_in _ (by omega)
      have z1 : (0 : Int) ≤ (k : Int) := by omega
      have z2 : (k : Int) < (xs.length : Int) := by omega
      clear hso hst hck hx
      go_wp2
      go_region_held3 (fun w' => w'.cell? ⟨w.heap.size, 0, none⟩ = some (.int .i64 r) ∧ w'.cell? ⟨w.heap.size, 1, none⟩ = some (.int .i64 c) ∧ w'.cell? ⟨w.heap.size, 2, none⟩ = some (.slice (some ⟨g, off, none⟩) xs.length cap) ∧ w'.cell? ⟨w2.heap.size, 0, none⟩ = some (.int .i64 r) ∧ w'.cell? ⟨w2.heap.size, 1, none⟩ = some (.int .i64 c) ∧ w'.cell? ⟨w2.heap.size, 2, none⟩ = some (.slice (some ⟨w1.heap.size + 1, 0, none⟩) xs.length xs.length) ∧ w'.cell? ⟨g, off + k, none⟩ = some (.int .i64 x) ∧ Below w.heap.size w w')
        (first
          | exact kc7_drew (by assumption)
          | (refine ⟨?_, ?_, ?_, ?_, ?_, ?_, ?_, ?_⟩ <;> first | assumption | (go_simp; done) | exact (by repeat' (first | exact Below.refl _ _ | (refine Below.alloc ?_ ?_ _) | (refine Below.setCell ?_ ?_ _) | (refine Below.drew ?_) | (refine below_drewN ?_ _) | (refine Below.trans ?_ (Below.mono (by assumption) ?_)) | omega | (simp only [World.size_alloc, World.size_setCell, World.size_drew, size_drewN]; omega)))))
        (fail)
      go_wp2
      go_roundw
      case rel =>
        refine ⟨k + 1, by omega, by go_num, HSO.out.1, ?_, ?_, ?_, ?_⟩
        · exact Box3.drew (hB0.out.grown HSO.out.2 (by first | (simp; done) | (simp; omega)))
        · exact Box3.drew (hB1.out.grown HSO.out.2 (by first | (simp; done) | (simp; omega)))
        · exact Box3.drew (hB2.out.grown HSO.out.2 (by simp; omega))
        · exact Below.drew (hB.grown HSO.out.2 hB.size (fun j hj => by cases hj; omega))
      case measure => simp [intOf]; omega
    · have hkk : k = xs.length := by omega
      subst hkk
      have HO2 : Hid (Own wr w1.heap.size (.slice (some ⟨w1.heap.size + 1, 0, none⟩) xs.length xs.length) (scL xs m)) := by have := HO.out; rwa [scZ_end] at this
      clear HO
      have HO := HO2
      clear HO2
      have hz := hB.size
      have hll : (scL xs m).length = xs.length := tab_length _ _
      rcases Bool.eq_false_or_eq_true (isMat r c (scL xs m)) with hs | hs
      · have HR : Hid (scRes r c xs m = ⟨r, c, scL xs m, true⟩ ) := by rw [Hid, scRes, if_pos (by simp [hm, hi, hs])]
        have ck := fun w (h : SlI w (some ⟨w1.heap.size + 1, 0, none⟩) (scL xs m)) => specDone_yes r c (some ⟨w1.heap.size + 1, 0, none⟩) xs.length (scL xs m) w h (by omega) hs
        rw [hll] at ck
        have CK := hide ck
        clear ck hs hll
        go_wp2_with (go_at_call 59; refine (CK.out _ (Own.sl2 HO.out).2.2.2.2).mono ?_; rintro e w3 ⟨rfl, hb⟩; obtain ⟨⟨x0, x1, x2⟩, f0, f1, f2⟩ := hB1.out.call hb; have p1 := (hB1.out.call hb).lt)
        obtain ⟨⟨m0, m1, m2⟩, _⟩ := (Box3.stored (hB1.out.call hb) (.int .i64 r) (.int .i64 c) (.slice (some ⟨w1.heap.size + 1, 0, none⟩) xs.length xs.length)).alloc (.cells #[.int .i64 r, .int .i64 c, .slice (some ⟨w1.heap.size + 1, 0, none⟩) xs.length xs.length] 28)
        have ho3 := Own.below HO.out hb
        exact bodyPost_ret (v := .tuple #[mv (r) (c) (.slice (some ⟨w1.heap.size + 1, 0, none⟩) xs.length xs.length), .bool true]) (by first | (simp [results, Try.results71, go_sem, m0, m1, m2]; done) | (simp [results, Try.results71, go_sem]; done)) rfl (by rw [HR.out]; show RetMat w r c (scL xs m) true _ _; exact ⟨_, rfl, Own.mono (lo := w1.heap.size) (by repeat' (first | with_reducible exact HO.out | with_reducible assumption | (with_reducible refine Own.set ?_ (own_ne ?_) _) | (with_reducible refine Own.set ?_ (own_nl (by assumption) (by first | omega | (dsimp only; omega))) _) | (with_reducible refine Own.alloc ?_ _) | (with_reducible refine Own.drewN ?_ _) | omega | (dsimp only; omega))) (by omega), (by repeat' (first | exact Below.refl _ _ | (refine Below.alloc ?_ ?_ _) | (refine Below.setCell ?_ ?_ _) | (refine Below.drew ?_) | (refine below_drewN ?_ _) | (refine Below.trans ?_ (Below.mono (by assumption) ?_)) | omega | (simp only [World.size_alloc, World.size_setCell, World.size_drew, size_drewN]; omega)))⟩)
      · have HR : Hid (scRes r c xs m = .no ) := by rw [Hid, scRes, if_neg (by simp [hs])]
        have ck := fun w (h : SlI w (some ⟨w1.heap.size + 1, 0, none⟩) (scL xs m)) => specDone_no r c (some ⟨w1.heap.size + 1, 0, none⟩) xs.length (scL xs m) w h (by omega) hs
        rw [hll] at ck
        have CK := hide ck
        clear ck hs hll
        go_wp2_with (go_at_call 59; refine (CK.out _ (Own.sl2 HO.out).2.2.2.2).mono ?_; rintro e w3 ⟨rfl, hb⟩; obtain ⟨⟨x0, x1, x2⟩, f0, f1, f2⟩ := hB1.out.call hb; have p1 := (hB1.out.call hb).lt)
        obtain ⟨⟨m0, m1, m2⟩, _⟩ := (Box3.stored (hB1.out.call hb) (.int .i64 0) (.int .i64 0) (.slice none 0 0)).alloc (.cells #[.int .i64 0, .int .i64 0, .slice none 0 0] 28)
        exact bodyPost_ret (v := .tuple #[mv (0) (0) (.slice none 0 0), .bool false]) (by first | (simp [results, Try.results71, go_sem, m0, m1, m2]; done) | (simp [results, Try.results71, go_sem]; done)) rfl (by rw [HR.out]; exact ⟨_, rfl, Own.nil _ _, (by repeat' (first | exact Below.refl _ _ | (refine Below.alloc ?_ ?_ _) | (refine Below.setCell ?_ ?_ _) | (refine Below.drew ?_) | (refine below_drewN ?_ _) | (refine Below.trans ?_ (Below.mono (by assumption) ?_)) | omega | (simp only [World.size_alloc, World.size_setCell, World.size_drew, size_drewN]; omega)))⟩)
set_option maxHeartbeats 1000000 in
theorem specScale_out (r c m : Int) (A : Option Addr) (cap : Nat) (xs : List Int) (w : World) (hA : Sl w A xs.length cap xs) (hn : xs.length ≤ 1048576) (hm : (isMat r c xs && isNum m) = false) :
    Calls Try.prog 71 #[mv r c (.slice A xs.length cap), .int .i64 m] w (RetMat w 0 0 [] false) := by
  have HA := hide hA; clear hA
  rcases Bool.eq_false_or_eq_true (isMat r c xs) with h | h
  · have hi : isNum m = false := by simpa [h] using hm
    clear hm
    go_enter Try.func71, Try.ntmps71
    go_wp2_with (first
      | (go_at_call 69; refine (specIsMatrix r c A cap xs _ (SlI.below HA.out.2.2.2.2 (by repeat' (first | exact Below.refl _ _ | (refine Below.alloc ?_ ?_ _) | (refine Below.setCell ?_ ?_ _) | (refine Below.drew ?_) | (refine below_drewN ?_ _) | (refine Below.trans ?_ (Below.mono (by assumption) ?_)) | omega | (simp only [World.size_alloc, World.size_setCell, World.size_drew, size_drewN]; omega)))) (by omega)).mono ?_; rintro e w1 ⟨rfl, hb⟩; obtain ⟨hc, hf⟩ := bcell hb; have hz := hb.size; (try simp only [World.size_alloc, World.size_setCell, World.size_drew, size_drewN] at hz); (first | have hs := up3 hz | have hs := up2 hz | have hs := up1 hz | have hs := up0 hz); (try have q10 := hs _ q9); (try have q9 := hs _ q8); (try have q8 := hs _ q7); (try have q7 := hs _ q6); (try have q6 := hs _ q5); (try have q5 := hs _ q4); (try have q4 := hs _ q3); (try have q3 := hs _ q2); (try have q2 := hs _ q1); (try have p7 := hs _ p6); (try have p6 := hs _ p5); (try have p5 := hs _ p4); (try have p4 := hs _ p3); (try have p3 := hs _ p2); (try have p2 := hs _ p1); (try have q1 := new1 hz); (try have p1 := new2 hz); (try have r1 := new3 hz); obtain ⟨⟨x0, x1, x2⟩, f0, f1, f2⟩ := show Box3 w1 (w.heap.size + 1) (.int .i64 0) (.int .i64 0) (.slice none 0 0) from (by repeat' (first | with_reducible assumption | (with_reducible refine Box3.set ?_ ?_ _) | (with_reducible refine Box3.drew ?_) | (with_reducible refine Box3.drewN ?_ _) | (with_reducible exact Box3.new _ _ _ (by first | rfl | (simp only [World.size_alloc]; done) | (simp only [World.size_alloc]; omega))) | (with_reducible refine Box3.alloc ?_ _) | (with_reducible refine Box3.call ?_ (by assumption)) | (with_reducible refine Box3.grown ?_ (by assumption) (by simp; omega)) | omega | (dsimp only; omega) | (simp only [World.size_alloc, World.size_setCell, World.size_drew, size_drewN]; omega))))
      | (go_at_call 85; refine (specIsNumber _ _).mono ?_; rintro e w' ⟨rfl, rfl⟩))
    obtain ⟨⟨m0, m1, m2⟩, _⟩ := Box3.stored (show Box3 w1 (w.heap.size + 1) (.int .i64 0) (.int .i64 0) (.slice none 0 0) from (by repeat' (first | with_reducible assumption | (with_reducible refine Box3.set ?_ ?_ _) | (with_reducible refine Box3.drew ?_) | (with_reducible refine Box3.drewN ?_ _) | (with_reducible exact Box3.new _ _ _ (by first | rfl | (simp only [World.size_alloc]; done) | (simp only [World.size_alloc]; omega))) | (with_reducible refine Box3.alloc ?_ _) | (with_reducible refine Box3.call ?_ (by assumption)) | (with_reducible refine Box3.grown ?_ (by assumption) (by simp; omega)) | omega | (dsimp only; omega) | (simp only [World.size_alloc, World.size_setCell, World.size_drew, size_drewN]; omega)))) (.int .i64 0) (.int .i64 0) (.slice none 0 0)
    exact bodyPost_ret (v := .tuple #[mv (0) (0) (.slice none 0 0), .bool false]) (by first | (simp [results, Try.results71, go_sem, m0, m1, m2]; done) | (simp [results, Try.results71, go_sem]; done)) rfl ⟨_, rfl, Own.nil _ _, (by repeat' (first | exact Below.refl _ _ | (refine Below.alloc ?_ ?_ _) | (refine Below.setCell ?_ ?_ _) | (refine Below.drew ?_) | (refine below_drewN ?_ _) | (refine Below.trans ?_ (Below.mono (by assumption) ?_)) | omega | (simp only [World.size_alloc, World.size_setCell, World.size_drew, size_drewN]; omega)))⟩
  · clear hm
    go_enter Try.func71, Try.ntmps71
    go_wp2_with (first
      | (go_at_call 69; refine (specIsMatrix r c A cap xs _ (SlI.below HA.out.2.2.2.2 (by repeat' (first | exact Below.refl _ _ | (refine Below.alloc ?_ ?_ _) | (refine Below.setCell ?_ ?_ _) | (refine Below.drew ?_) | (refine below_drewN ?_ _) | (refine Below.trans ?_ (Below.mono (by assumption) ?_)) | omega | (simp only [World.size_alloc, World.size_setCell, World.size_drew, size_drewN]; omega)))) (by omega)).mono ?_; rintro e w1 ⟨rfl, hb⟩; obtain ⟨hc, hf⟩ := bcell hb; have hz := hb.size; (try simp only [World.size_alloc, World.size_setCell, World.size_drew, size_drewN] at hz); (first | have hs := up3 hz | have hs := up2 hz | have hs := up1 hz | have hs := up0 hz); (try have q10 := hs _ q9); (try have q9 := hs _ q8); (try have q8 := hs _ q7); (try have q7 := hs _ q6); (try have q6 := hs _ q5); (try have q5 := hs _ q4); (try have q4 := hs _ q3); (try have q3 := hs _ q2); (try have q2 := hs _ q1); (try have p7 := hs _ p6); (try have p6 := hs _ p5); (try have p5 := hs _ p4); (try have p4 := hs _ p3); (try have p3 := hs _ p2); (try have p2 := hs _ p1); (try have q1 := new1 hz); (try have p1 := new2 hz); (try have r1 := new3 hz); obtain ⟨⟨x0, x1, x2⟩, f0, f1, f2⟩ := show Box3 w1 (w.heap.size + 1) (.int .i64 0) (.int .i64 0) (.slice none 0 0) from (by repeat' (first | with_reducible assumption | (with_reducible refine Box3.set ?_ ?_ _) | (with_reducible refine Box3.drew ?_) | (with_reducible refine Box3.drewN ?_ _) | (with_reducible exact Box3.new _ _ _ (by first | rfl | (simp only [World.size_alloc]; done) | (simp only [World.size_alloc]; omega))) | (with_reducible refine Box3.alloc ?_ _) | (with_reducible refine Box3.call ?_ (by assumption)) | (with_reducible refine Box3.grown ?_ (by assumption) (by simp; omega)) | omega | (dsimp only; omega) | (simp only [World.size_alloc, World.size_setCell, World.size_drew, size_drewN]; omega)))))
    obtain ⟨⟨m0, m1, m2⟩, _⟩ := Box3.stored (show Box3 w1 (w.heap.size + 1) (.int .i64 0) (.int .i64 0) (.slice none 0 0) from (by repeat' (first | with_reducible assumption | (with_reducible refine Box3.set ?_ ?_ _) | (with_reducible refine Box3.drew ?_) | (with_reducible refine Box3.drewN ?_ _) | (with_reducible exact Box3.new _ _ _ (by first | rfl | (simp only [World.size_alloc]; done) | (simp only [World.size_alloc]; omega))) | (with_reducible refine Box3.alloc ?_ _) | (with_reducible refine Box3.call ?_ (by assumption)) | (with_reducible refine Box3.grown ?_ (by assumption) (by simp; omega)) | omega | (dsimp only; omega) | (simp only [World.size_alloc, World.size_setCell, World.size_drew, size_drewN]; omega)))) (.int .i64 0) (.int .i64 0) (.slice none 0 0)
    exact bodyPost_ret (v := .tuple #[mv (0) (0) (.slice none 0 0), .bool false]) (by first | (simp [results, Try.results71, go_sem, m0, m1, m2]; done) | (simp [results, Try.results71, go_sem]; done)) rfl ⟨_, rfl, Own.nil _ _, (by repeat' (first | exact Below.refl _ _ | (refine Below.alloc ?_ ?_ _) | (refine Below.setCell ?_ ?_ _) | (refine Below.drew ?_) | (refine below_drewN ?_ _) | (refine Below.trans ?_ (Below.mono (by assumption) ?_)) | omega | (simp only [World.size_alloc, World.size_setCell, World.size_drew, size_drewN]; omega)))⟩
theorem specScale (r c m : Int) (A : Option Addr) (cap : Nat) (xs : List Int) (w : World) (hA : Sl w A xs.length cap xs) (hn : xs.length ≤ 1048576) :
    Calls Try.prog 71 #[mv r c (.slice A xs.length cap), .int .i64 m] w (RetM w (scRes r c xs m)) := by
  rcases Bool.eq_false_or_eq_true (isMat r c xs && isNum m) with h | h
  · simp only [Bool.and_eq_true] at h
    exact specScale_in r c m A cap xs w hA h.1 h.2
  · rw [show scRes r c xs m = .no from by rw [scRes, if_neg (by simp [h])]]
    exact specScale_out r c m A cap xs w hA hn h
end Go.Proofs.Ytchlaebkigmfgaa
