/- The walks of MultiplyMatrices. -/
import Derived.Test.YtchlaebkigmfgaaCopyW
import Derived.Test.YtchlaebkigmfgaaCellW
import Derived.Test.YtchlaebkigmfgaaTab
import Derived.Test.YtchlaebkigmfgaaScaleL
import Derived.Test.YtchlaebkigmfgaaKeepG
import Derived.IntWalk
import Derived.StillTailTactics
import Derived.Deep.QuietTactic
import Derived.BigQuiet
namespace Go.Proofs.Ytchlaebkigmfgaa
open Go.RowKit
set_option linter.unusedSimpArgs false
set_option linter.unusedVariables false

def mulAt (C C' : Nat) (xs ys : List Int) (i j : Nat) : Nat → Int := fun k => xs.getD (i * C + k) 0 * ys.getD (k * C' + j) 0
def mulTo (C C' : Nat) (xs ys : List Int) (n : Nat) : Nat → Int := fun p => if p < n then Det.mul C (toM C xs) (toM C' ys) (p / C') (p % C') else 0
def mulL (R C C' : Nat) (xs ys : List Int) : List Int := ofM R C' (Det.mul C (toM C xs) (toM C' ys))
theorem mulTo_start (R C C' : Nat) (xs ys : List Int) : List.replicate (R * C') 0 = tab (R * C') (mulTo C C' xs ys 0) := by
  rw [tab_zeros]; exact tab_congr fun p _ => by simp [mulTo]
theorem mulTo_step {R C C' : Nat} {xs ys : List Int} {i j : Nat} (hj : j < C') : (tab (R * C') (mulTo C C' xs ys (i * C' + j))).set (i * C' + j) (Det.sum C (mulAt C C' xs ys i j)) = tab (R * C') (mulTo C C' xs ys (i * C' + (j + 1))) :=
  tab_set (fun _ => by
    simp only [mulTo]
    rw [if_pos (by omega), ix_div hj, ix_mod hj]
    rfl) (fun p hp hne => by
    simp only [mulTo]
    by_cases h : p < i * C' + j
    · rw [if_pos h, if_pos (by omega)]
    · rw [if_neg h, if_neg (by omega)])
theorem mulTo_end (R C C' : Nat) (xs ys : List Int) : tab (R * C') (mulTo C C' xs ys (R * C')) = mulL R C C' xs ys := tab_congr fun p hp => by simp [mulTo, hp]
theorem mulAt_in {C C' : Nat} {xs ys : List Int} (hx : ∀ x ∈ xs, isNum x = true) (hy : ∀ y ∈ ys, isNum y = true) (i j k : Nat) : -160000000000000000 ≤ mulAt C C' xs ys i j k ∧ mulAt C C' xs ys i j k ≤ 160000000000000000 :=
  mul_in (num_at hx _) (num_at hy _)
theorem mulSum_in {C C' : Nat} {xs ys : List Int} (hx : ∀ x ∈ xs, isNum x = true) (hy : ∀ y ∈ ys, isNum y = true) (i j k : Nat) (hk : k ≤ 24) :
    -((k : Int) * 160000000000000000) ≤ Det.sum k (mulAt C C' xs ys i j) ∧ Det.sum k (mulAt C C' xs ys i j) ≤ (k : Int) * 160000000000000000 := by
  induction k with
  | zero => simp [Det.sum]
  | succ k ih =>
    have h1 := ih (by omega)
    have h2 := mulAt_in (C := C) (C' := C') hx hy i j k
    rw [Det.sum]
    omega
def mulIn (r c : Int) (xs : List Int) (r' c' : Int) (ys : List Int) : Bool := isMat r c xs && isMat r' c' ys && decide (c = r')
def mulRes (r c : Int) (xs : List Int) (r' c' : Int) (ys : List Int) : MRes := if (mulIn r c xs r' c' ys && isMat r c' (mulL r.toNat c.toNat c'.toNat xs ys)) = true then ⟨r, c', mulL r.toNat c.toNat c'.toNat xs ys, true⟩ else .no
theorem MultiplyMatrices_len {r c r' c' : Int} {xs ys : List Int} : (mulRes r c xs r' c' ys).L.length ≤ 1048576 := by
  unfold mulRes
  split
  · rename_i h
    simp only [Bool.and_eq_true] at h
    have := (isMat_t h.2).2.2.2.2.2.2
    show (mulL _ _ _ xs ys).length ≤ _
    omega
  · exact Nat.zero_le _
set_option maxHeartbeats 16000000 in
theorem implMul_in (R C C' : Nat) (A B : Option Addr) (p q : Nat) (xs ys : List Int) (w : World) (hA : Sl w A xs.length p xs) (hB : Sl w B ys.length q ys) (hm : isMat R C xs = true) (hm' : isMat C C' ys = true) :
    Calls Try.prog 27 #[mv R C (.slice A xs.length p), mv C C' (.slice B ys.length q)] w (RetM w (mulRes R C xs C C' ys)) := by
  obtain ⟨_, m2, _, m4, m5, mA, m7⟩ := isMat_t hm
  obtain ⟨_, _, _, m4', m5', mB, m7'⟩ := isMat_t hm'
  have HR : R ≤ 24 := by omega
  have HC : C ≤ 24 := by omega
  have HC' : C' ≤ 24 := by omega
  have hcr : R * C' ≤ 576 := Nat.mul_le_mul HR HC'
  have hlx : xs.length = R * C := by
    have : (xs.length : Int) = ((R * C : Nat) : Int) := by rw [m5]; push_cast; rfl
    omega
  have hly : ys.length = C * C' := by
    have : (ys.length : Int) = ((C * C' : Nat) : Int) := by rw [m5']; push_cast; rfl
    omega
  have HLX := hide hlx
  have HLY := hide hly
  clear m5 m5' hlx hly
  have HA := hide hA; clear hA
  have HB := hide hB; clear hB
  have HN := hide mA; clear mA
  have HN' := hide mB; clear mB
  have HNN : Hid ((R : Int) * C' = ((R * C' : Nat) : Int)) := by simp [Hid]
  have HS0 := hide (mulTo_start R C C' xs ys)
  have HSE := hide (mulTo_end R C C' xs ys)
  have HST : Hid (∀ i j, j < C' → (tab (R * C') (mulTo C C' xs ys (i * C' + j))).set (i * C' + j) (Det.sum C (mulAt C C' xs ys i j)) = tab (R * C') (mulTo C C' xs ys (i * C' + (j + 1)))) := fun i j hj => mulTo_step hj
  have HIX : Hid (∀ i j, i < R → j < C' → i * C' + j < R * C') := fun i j hi hj => ix_lt hi hj
  have HLL : Hid ((mulL R C C' xs ys).length = R * C') := ofM_length _ _ _
  have HXA : Hid (∀ i k, i < R → k < C → i * C + k < xs.length) := fun i k hi hk => by rw [HLX.out]; exact ix_lt hi hk
  have HXB : Hid (∀ k j, k < C → j < C' → k * C' + j < ys.length) := fun k j hk hj => by rw [HLY.out]; exact ix_lt hk hj
  obtain ⟨n, hn⟩ : ∃ n, R * C' = n := ⟨_, rfl⟩
  rw [hn] at HNN hcr HS0 HSE HST HIX HLL
  have HE := hide hn; clear hn
  have e1 : ((C : Int) != (C : Int)) = false := by simp
  go_enter Try.func27, Try.ntmps27
  go_wp2_with (first
    | (go_at_call_of 67 (Value.slice A xs.length p); refine (implIsMatrix R C A p xs _ (SlI.below HA.out.2.2.2.2 (by repeat' (first | exact Below.refl _ _ | (refine Below.alloc ?_ ?_ _) | (refine Below.setCell ?_ ?_ _) | (refine Below.drew ?_) | (refine below_drewN ?_ _) | (refine Below.trans ?_ (Below.mono (by assumption) ?_)) | omega | (simp only [World.size_alloc, World.size_setCell, World.size_drew, size_drewN]; omega)))) (by omega)).mono ?_; rintro e w1 ⟨rfl, hb⟩; obtain ⟨hc, hf⟩ := bcell hb; have hz := hb.size; (try simp only [World.size_alloc, World.size_setCell, World.size_drew, size_drewN] at hz); (first | have hs := up3 hz | have hs := up2 hz | have hs := up1 hz | have hs := up0 hz); (try have q10 := hs _ q9); (try have q9 := hs _ q8); (try have q8 := hs _ q7); (try have q7 := hs _ q6); (try have q6 := hs _ q5); (try have q5 := hs _ q4); (try have q4 := hs _ q3); (try have q3 := hs _ q2); (try have q2 := hs _ q1); (try have p7 := hs _ p6); (try have p6 := hs _ p5); (try have p5 := hs _ p4); (try have p4 := hs _ p3); (try have p3 := hs _ p2); (try have p2 := hs _ p1); (try have q1 := new1 hz); (try have p1 := new2 hz); (try have r1 := new3 hz))
    | (go_at_call 67; refine (implIsMatrix C C' B q ys _ (SlI.below HB.out.2.2.2.2 (by repeat' (first | exact Below.refl _ _ | (refine Below.alloc ?_ ?_ _) | (refine Below.setCell ?_ ?_ _) | (refine Below.drew ?_) | (refine below_drewN ?_ _) | (refine Below.trans ?_ (Below.mono (by assumption) ?_)) | omega | (simp only [World.size_alloc, World.size_setCell, World.size_drew, size_drewN]; omega)))) (by omega)).mono ?_; rintro e w2 ⟨rfl, hb⟩; obtain ⟨hc, hf⟩ := bcell hb; have hz := hb.size; (try simp only [World.size_alloc, World.size_setCell, World.size_drew, size_drewN] at hz); (first | have hs := up3 hz | have hs := up2 hz | have hs := up1 hz | have hs := up0 hz); (try have q10 := hs _ q9); (try have q9 := hs _ q8); (try have q8 := hs _ q7); (try have q7 := hs _ q6); (try have q6 := hs _ q5); (try have q5 := hs _ q4); (try have q4 := hs _ q3); (try have q3 := hs _ q2); (try have q2 := hs _ q1); (try have p7 := hs _ p6); (try have p6 := hs _ p5); (try have p5 := hs _ p4); (try have p4 := hs _ p3); (try have p3 := hs _ p2); (try have p2 := hs _ p1); (try have q1 := new1 hz); (try have p1 := new2 hz); (try have r1 := new3 hz))
    | (go_at_call 60; refine (implNewMatrix R C' n _ HNN (by omega)).mono ?_; rintro e w3 ⟨rfl, ho, hb⟩; obtain ⟨hc, hf⟩ := bcell hb; have hz := hb.size; (try simp only [World.size_alloc, World.size_setCell, World.size_drew, size_drewN] at hz); (first | have hs := up3 hz | have hs := up2 hz | have hs := up1 hz | have hs := up0 hz); (try have q10 := hs _ q9); (try have q9 := hs _ q8); (try have q8 := hs _ q7); (try have q7 := hs _ q6); (try have q6 := hs _ q5); (try have q5 := hs _ q4); (try have q4 := hs _ q3); (try have q3 := hs _ q2); (try have q2 := hs _ q1); (try have p7 := hs _ p6); (try have p6 := hs _ p5); (try have p5 := hs _ p4); (try have p4 := hs _ p3); (try have p3 := hs _ p2); (try have p2 := hs _ p1); (try have q1 := new1 hz); (try have p1 := new2 hz); (try have r1 := new3 hz)))
  have hg1 : w2.heap.size + 1 < w3.heap.size := (Own.lt ho _ rfl).2
  have hg2 : w.heap.size + 1 + 1 < w2.heap.size := by omega
  go_loopw [7] (fun iv wr => ∃ i : Nat, i ≤ R ∧ iv = .int .i64 i ∧ Own wr w2.heap.size (.slice (some ⟨w2.heap.size + 1, 0, none⟩) n n) (tab n (mulTo C C' xs ys (i * C'))) ∧
      Box3 wr w.heap.size (.int .i64 R) (.int .i64 C) (.slice A xs.length p) ∧ Box3 wr (w.heap.size + 1) (.int .i64 C) (.int .i64 C') (.slice B ys.length q) ∧ Box3 wr (w.heap.size + 1 + 1) (.int .i64 0) (.int .i64 0) (.slice none 0 0) ∧ Box3 wr w3.heap.size (.int .i64 R) (.int .i64 C') (.slice (some ⟨w2.heap.size + 1, 0, none⟩) n n) ∧ Below w.heap.size w wr) (fun iv _ => R - (intOf iv).toNat)
  case atStart =>
    refine ⟨0, Nat.zero_le _, rfl, ?_, ?_, ?_, ?_, ?_, ?_⟩
    · rw [Nat.zero_mul, ← HS0.out]
      exact (by repeat' (first | with_reducible exact HO.out | with_reducible assumption | (with_reducible refine Own.set ?_ (own_ne ?_) _) | (with_reducible refine Own.set ?_ (own_nl (by assumption) (by first | omega | (dsimp only; omega))) _) | (with_reducible refine Own.alloc ?_ _) | (with_reducible refine Own.drewN ?_ _) | omega | (dsimp only; omega)))
    · exact (by repeat' (first | with_reducible assumption | (with_reducible refine Box3.set ?_ ?_ _) | (with_reducible refine Box3.drew ?_) | (with_reducible refine Box3.drewN ?_ _) | (with_reducible exact Box3.new _ _ _ (by first | rfl | (simp only [World.size_alloc]; done) | (simp only [World.size_alloc]; omega))) | (with_reducible refine Box3.alloc ?_ _) | (with_reducible refine Box3.call ?_ (by assumption)) | (with_reducible refine Box3.grown ?_ (by assumption) (by simp; omega)) | omega | (dsimp only; omega) | (simp only [World.size_alloc, World.size_setCell, World.size_drew, size_drewN]; omega)))
    · exact (by repeat' (first | with_reducible assumption | (with_reducible refine Box3.set ?_ ?_ _) | (with_reducible refine Box3.drew ?_) | (with_reducible refine Box3.drewN ?_ _) | (with_reducible exact Box3.new _ _ _ (by first | rfl | (simp only [World.size_alloc]; done) | (simp only [World.size_alloc]; omega))) | (with_reducible refine Box3.alloc ?_ _) | (with_reducible refine Box3.call ?_ (by assumption)) | (with_reducible refine Box3.grown ?_ (by assumption) (by simp; omega)) | omega | (dsimp only; omega) | (simp only [World.size_alloc, World.size_setCell, World.size_drew, size_drewN]; omega)))
    · exact (by repeat' (first | with_reducible assumption | (with_reducible refine Box3.set ?_ ?_ _) | (with_reducible refine Box3.drew ?_) | (with_reducible refine Box3.drewN ?_ _) | (with_reducible exact Box3.new _ _ _ (by first | rfl | (simp only [World.size_alloc]; done) | (simp only [World.size_alloc]; omega))) | (with_reducible refine Box3.alloc ?_ _) | (with_reducible refine Box3.call ?_ (by assumption)) | (with_reducible refine Box3.grown ?_ (by assumption) (by simp; omega)) | omega | (dsimp only; omega) | (simp only [World.size_alloc, World.size_setCell, World.size_drew, size_drewN]; omega)))
    · exact (by repeat' (first | with_reducible assumption | (with_reducible refine Box3.set ?_ ?_ _) | (with_reducible refine Box3.drew ?_) | (with_reducible refine Box3.drewN ?_ _) | (with_reducible exact Box3.new _ _ _ (by first | rfl | (simp only [World.size_alloc]; done) | (simp only [World.size_alloc]; omega))) | (with_reducible refine Box3.alloc ?_ _) | (with_reducible refine Box3.call ?_ (by assumption)) | (with_reducible refine Box3.grown ?_ (by assumption) (by simp; omega)) | omega | (dsimp only; omega) | (simp only [World.size_alloc, World.size_setCell, World.size_drew, size_drewN]; omega)))
    · exact (by repeat' (first | exact Below.refl _ _ | (refine Below.alloc ?_ ?_ _) | (refine Below.setCell ?_ ?_ _) | (refine Below.drew ?_) | (refine below_drewN ?_ _) | (refine Below.trans ?_ (Below.mono (by assumption) ?_)) | omega | (simp only [World.size_alloc, World.size_setCell, World.size_drew, size_drewN]; omega)))
  case round =>
    obtain ⟨i, hi, rfl, ho, b0, b1, b2, b3, hB⟩ := hrel
    obtain ⟨wo, rfl⟩ : ∃ wo : World, wo = wr := ⟨_, rfl⟩
    have hB0 := hide b0
    have hB1 := hide b1
    have hB2 := hide b2
    have hB3 := hide b3
    have HO := hide ho; clear ho b2 b3
    obtain ⟨⟨a0, a1, a2⟩, _⟩ := b0
    obtain ⟨⟨d0, d1, d2⟩, _⟩ := b1
    by_cases hlt : i < R
    · go_wp2
      go_loopw [8] (fun jv wr => ∃ j : Nat, j ≤ C' ∧ jv = .int .i64 j ∧ Own wr w2.heap.size (.slice (some ⟨w2.heap.size + 1, 0, none⟩) n n) (tab n (mulTo C C' xs ys (i * C' + j))) ∧
          Box3 wr w.heap.size (.int .i64 R) (.int .i64 C) (.slice A xs.length p) ∧ Box3 wr (w.heap.size + 1) (.int .i64 C) (.int .i64 C') (.slice B ys.length q) ∧ Box3 wr (w.heap.size + 1 + 1) (.int .i64 0) (.int .i64 0) (.slice none 0 0) ∧ Box3 wr w3.heap.size (.int .i64 R) (.int .i64 C') (.slice (some ⟨w2.heap.size + 1, 0, none⟩) n n) ∧ Below w.heap.size w wr) (fun jv _ => C' - (intOf jv).toNat)
      case atStart => exact ⟨0, Nat.zero_le _, rfl, HO.out, hB0.out, hB1.out, hB2.out, hB3.out, hB⟩
      case round =>
        clear hB0 hB1 hB2 hB3 a0 a1 a2 d0 d1 d2 HO hB
        obtain ⟨j, hj, rfl, ho, b0, b1, b2, b3, hB⟩ := hrel
        obtain ⟨wo, rfl⟩ : ∃ wo : World, wo = wr := ⟨_, rfl⟩
        have hB0 := hide b0
        have hB1 := hide b1
        have hB2 := hide b2
        have hB3 := hide b3
        have HO := hide ho; clear ho b2 b3
        obtain ⟨⟨a0, a1, a2⟩, _⟩ := b0
        obtain ⟨⟨d0, d1, d2⟩, _⟩ := b1
        by_cases hlj : j < C'
        · have hst := hide (HST.out i j hlj)
          have hix := HIX.out i j hlt hlj
          have hSum : Hid (∀ k : Nat, k ≤ 24 → -((k : Int) * 160000000000000000) ≤ Det.sum k (mulAt C C' xs ys i j) ∧ Det.sum k (mulAt C C' xs ys i j) ≤ (k : Int) * 160000000000000000) := fun k hk => mulSum_in HN.out HN'.out i j k hk
          have hAt : Hid (∀ k : Nat, -160000000000000000 ≤ mulAt C C' xs ys i j k ∧ mulAt C C' xs ys i j k ≤ 160000000000000000) := fun k => mulAt_in HN.out HN'.out i j k
          have hAtV : Hid (∀ k : Nat, mulAt C C' xs ys i j k = xs.getD (i * C + k) 0 * ys.getD (k * C' + j) 0) := fun k => rfl
          obtain ⟨f, hf⟩ : ∃ f, mulAt C C' xs ys i j = f := ⟨_, rfl⟩
          rw [hf] at hst hSum hAt hAtV
          have HXi := hide (fun k (hk : k < C) => HXA.out i k hlt hk)
          have HXj := hide (fun k (hk : k < C) => HXB.out k j hk hlj)
          have HIi : Hid (∀ k : Nat, (i : Int) * C = ((i * C + k : Nat) : Int) - k) := fun k => by push_cast; omega
          have HIj : Hid (∀ k : Nat, (k : Int) * C' = ((k * C' + j : Nat) : Int) - j) := fun k => by push_cast; omega
          have HI3 : Hid ((i : Int) * C' = ((i * C' + j : Nat) : Int) - j) := by rw [Hid]; push_cast; omega
          have hi0 : 0 ≤ (i : Int) * C := Int.mul_nonneg (by omega) (by omega)
          have hi1 : (i : Int) * C ≤ 576 := by have h1 : i * C ≤ 24 * 24 := Nat.mul_le_mul (by omega) HC
                                               have : (i : Int) * C = ((i * C : Nat) : Int) := by push_cast; rfl
                                               omega
          have hi2 : 0 ≤ (i : Int) * C' := Int.mul_nonneg (by omega) (by omega)
          have hi3 : (i : Int) * C' ≤ 576 := by have := HI3.out; omega
          have hk2 : Hid (∀ k : Nat, k < C → 0 ≤ (k : Int) * C' ∧ (k : Int) * C' ≤ 576) := fun k hk => by
            have h1 : k * C' ≤ 24 * 24 := Nat.mul_le_mul (by omega) HC'
            have : (k : Int) * C' = ((k * C' : Nat) : Int) := by push_cast; rfl
            omega
          clear hf
          go_wp2
          go_loopw [9, 10] (fun sv kv wr => ∃ k : Nat, k ≤ C ∧ kv = .int .i64 k ∧ sv = .int .i64 (Det.sum k f) ∧ Own wr w2.heap.size (.slice (some ⟨w2.heap.size + 1, 0, none⟩) n n) (tab n (mulTo C C' xs ys (i * C' + j))) ∧
              Box3 wr w.heap.size (.int .i64 R) (.int .i64 C) (.slice A xs.length p) ∧ Box3 wr (w.heap.size + 1) (.int .i64 C) (.int .i64 C') (.slice B ys.length q) ∧ Box3 wr (w.heap.size + 1 + 1) (.int .i64 0) (.int .i64 0) (.slice none 0 0) ∧ Box3 wr w3.heap.size (.int .i64 R) (.int .i64 C') (.slice (some ⟨w2.heap.size + 1, 0, none⟩) n n) ∧ Below w.heap.size w wr) (fun _ kv _ => C - (intOf kv).toNat)
          case atStart => exact ⟨0, Nat.zero_le _, rfl, rfl, HO.out, hB0.out, hB1.out, hB2.out, hB3.out, hB⟩
          case round =>
            clear hB0 hB1 hB2 hB3 a0 a1 a2 d0 d1 d2 HO hB
            obtain ⟨k, hk, rfl, rfl, ho, b0, b1, b2, b3, hB⟩ := hrel
            have hB0 := hide b0
            have hB1 := hide b1
            have hB2 := hide b2
            have hB3 := hide b3
            have HO := hide ho; clear ho b2
            obtain ⟨⟨a0, a1, a2⟩, _⟩ := b0
            obtain ⟨⟨d0, d1, d2⟩, _⟩ := b1
            obtain ⟨⟨c0, c1, c2⟩, _⟩ := b3
            have hs1 := hSum.out k (by omega)
            by_cases hlk : k < C
            · have hs2 := hSum.out (k + 1) (by omega)
              rw [Det.sum] at hs2
              have hx1 := HXi.out k hlk
              have hy1 := HXj.out k hlk
              have I1 := hide (HIi.out k)
              have I2 := hide (HIj.out k)
              have hkk := hk2.out k hlk
              obtain ⟨x, hx⟩ : ∃ x, xs.getD (i * C + k) 0 = x := ⟨_, rfl⟩
              obtain ⟨y, hy⟩ : ∃ y, ys.getD (k * C' + j) 0 = y := ⟨_, rfl⟩
              have HX := hide hx
              have HY := hide hy
              have hfk : f k = x * y := by rw [hAtV.out k, hx, hy]
              have hSK : Hid (Det.sum (k + 1) f = Det.sum k f + x * y) := by rw [Hid, Det.sum, hfk]
              have hab := hAt.out k
              rw [hfk] at hs2 hab
              obtain ⟨s, hs⟩ : ∃ s, Det.sum k f = s := ⟨_, rfl⟩
              rw [hs] at hs1 hs2 hSK ⊢
              obtain ⟨d, hd⟩ : ∃ d, i * C + k = d := ⟨_, rfl⟩
              obtain ⟨e, he⟩ : ∃ e, k * C' + j = e := ⟨_, rfl⟩
              rw [hd] at hx1 I1 HX
              rw [he] at hy1 I2 HY
              have q1 : IntKind.i64.wrap (x * y) = x * y := IntWalk.i64_in _ (by omega)
              have q2 : IntKind.i64.wrap (s + x * y) = s + x * y := IntWalk.i64_in _ (by omega)
              clear hx hy hs hd he hfk
              go_wp2
              go_region_held3 (fun w' => w'.cell? ⟨w.heap.size, 0, none⟩ = some (.int .i64 R) ∧ w'.cell? ⟨w.heap.size, 1, none⟩ = some (.int .i64 C) ∧ w'.cell? ⟨w.heap.size, 2, none⟩ = some (.slice A xs.length p) ∧ w'.cell? ⟨w.heap.size + 1, 0, none⟩ = some (.int .i64 C) ∧ w'.cell? ⟨w.heap.size + 1, 1, none⟩ = some (.int .i64 C') ∧ w'.cell? ⟨w.heap.size + 1, 2, none⟩ = some (.slice B ys.length q) ∧ Below wr.heap.size wr w')
                (first
                  | exact kc6_call (by assumption) (by assumption)
                  | exact kc6_drew (by assumption)
                  | (refine ⟨?_, ?_, ?_, ?_, ?_, ?_, ?_⟩ <;> first | assumption | (go_simp; done) | exact (by repeat' (first | exact Below.refl _ _ | (refine Below.alloc ?_ ?_ _) | (refine Below.setCell ?_ ?_ _) | (refine Below.drew ?_) | (refine below_drewN ?_ _) | (refine Below.trans ?_ (Below.mono (by assumption) ?_)) | omega | (simp only [World.size_alloc, World.size_setCell, World.size_drew, size_drewN]; omega)))))
                (first
                  | (go_at_call_of 52 (Value.slice A xs.length p); refine (implAt R C i k d x A p xs _ (SlI.below HA.out.2.2.2.2 (hB.trans (Below.mono (by first | exact (Below.refl wr.heap.size wr).drew | (have hh := ‹_ ∧ _ ∧ _ ∧ _ ∧ _ ∧ _ ∧ Below wr.heap.size wr _›; exact hh.2.2.2.2.2.2)) hB.size))) (by omega) I1 hx1 HX hi0 (by omega) (by omega) (by omega)).mono ?_; rintro e wa ⟨rfl, hb⟩)
                  | (go_at_call_of 52 (Value.slice B ys.length q); refine (implAt C C' k j e y B q ys _ (SlI.below HB.out.2.2.2.2 (hB.trans (Below.mono (by first | exact (Below.refl wr.heap.size wr).drew | (have hh := ‹_ ∧ _ ∧ _ ∧ _ ∧ _ ∧ _ ∧ Below wr.heap.size wr _›; exact hh.2.2.2.2.2.2)) hB.size))) (by omega) I2 hy1 HY hkk.1 (by omega) (by omega) (by omega)).mono ?_; rintro e wb ⟨rfl, hb⟩))
              have HBW : Below wr.heap.size wr wb := ‹_ ∧ _ ∧ _ ∧ _ ∧ _ ∧ _ ∧ Below wr.heap.size wr wb›.2.2.2.2.2.2
              go_wp2
              go_roundw
              case rel => exact ⟨k + 1, by omega, by go_num, by rw [hSK.out], HO.out.below HBW, hB0.out.call HBW, hB1.out.call HBW, hB2.out.call HBW, hB3.out.call HBW, kb_call hB (Nat.le_refl _) HBW⟩
              case measure => simp [intOf]; omega
            · have hkk : k = C := by omega
              subst hkk
              have hst2 : Hid ((tab n (mulTo k C' xs ys (i * C' + j))).set (i * C' + j) (Det.sum k f) = tab n (mulTo k C' xs ys (i * C' + (j + 1)))) := hst
              obtain ⟨d, hd⟩ : ∃ d, i * C' + j = d := ⟨_, rfl⟩
              obtain ⟨s, hs⟩ : ∃ s, Det.sum k f = s := ⟨_, rfl⟩
              have hO2 : Own wr w2.heap.size (.slice (some ⟨w2.heap.size + 1, 0, none⟩) n n) (tab n (mulTo k C' xs ys d)) := by have := HO.out; rwa [hd] at this
              have hI3 : Hid ((i : Int) * C' = (d : Int) - j) := by have := HI3.out; rwa [hd] at this
              rw [hd, hs] at hst2
              rw [hd] at hix
              rw [hs] at hs1 ⊢
              have HO2 := hide hO2
              clear hO2 HO hd hs HI3
              have HO := HO2
              clear HO2
              go_wp2_with (go_at_call 55; refine (implSetTab R C' i j s d (w2.heap.size + 1) n n w2.heap.size (mulTo k C' xs ys d) (mulTo k C' xs ys (i * C' + (j + 1))) _ (Own.below HO.out (by repeat' (first | exact Below.refl _ _ | (refine Below.alloc ?_ ?_ _) | (refine Below.setCell ?_ ?_ _) | (refine Below.drew ?_) | (refine below_drewN ?_ _) | (refine Below.trans ?_ (Below.mono (by assumption) ?_)) | omega | (simp only [World.size_alloc, World.size_setCell, World.size_drew, size_drewN]; omega)))) (by omega) hI3 hix hst2 hi2 (by omega) (by omega) (by omega)).mono ?_; rintro e w4 ⟨rfl, ho, hg⟩)
              have HO2 := hide ho; clear ho
              have n0 := hide (hB0.out.grown hg (by simp; omega))
              have n1 := hide (hB1.out.grown hg (by simp; omega))
              have n2 := hide (hB2.out.grown hg (by simp; omega))
              have n3 := hide (hB3.out.grown hg (by simp; omega))
              have hB4 := hB.grown hg hB.size (fun j hj => by cases hj; omega)
              go_wp2
              go_roundw
              case rel => exact ⟨j + 1, by omega, by go_num, HO2.out, n0.out, n1.out, n2.out, n3.out, hB4⟩
              case measure => simp [intOf]; omega
        · have hjj : j = C' := by omega
          subst hjj
          have HO2 : Hid (Own wo w2.heap.size (.slice (some ⟨w2.heap.size + 1, 0, none⟩) n n) (tab n (mulTo C j xs ys ((i + 1) * j)))) := by
            have h1 := HO.out
            rwa [show i * j + j = (i + 1) * j from by rw [Nat.add_mul, Nat.one_mul]] at h1
          clear HO
          go_wp2
          go_roundw
          case rel => exact ⟨i + 1, by omega, by go_num, HO2.out, hB0.out, hB1.out, hB2.out, hB3.out, hB⟩
          case measure => simp [intOf]; omega
    · have hii : i = R := by omega
      subst hii
      have HO2 : Hid (Own wo w2.heap.size (.slice (some ⟨w2.heap.size + 1, 0, none⟩) n n) (mulL i C C' xs ys)) := by
        have h1 := HO.out
        rwa [HE.out, HSE.out] at h1
      clear HO
      have HO := HO2
      clear HO2
      have hz := hB.size
      have hin : mulIn i C xs C C' ys = true := by simp [mulIn, hm, hm']
      have hnat : mulRes (i : Int) C xs C C' ys = if (mulIn i C xs C C' ys && isMat i C' (mulL i C C' xs ys)) = true then ⟨i, C', mulL i C C' xs ys, true⟩ else .no := rfl
      obtain ⟨⟨c0, c1, c2⟩, _⟩ := hB3.out
      have hll := HLL.out
      rcases Bool.eq_false_or_eq_true (isMat i C' (mulL i C C' xs ys)) with hs | hs
      · have HR : Hid (mulRes i C xs C C' ys = ⟨i, C', mulL i C C' xs ys, true⟩) := by rw [Hid, hnat, if_pos (by simp [hin, hs])]
        have ck := fun w (h : SlI w (some ⟨w2.heap.size + 1, 0, none⟩) (mulL i C C' xs ys)) => implChecked_yes i C' (some ⟨w2.heap.size + 1, 0, none⟩) n (mulL i C C' xs ys) w h (by omega) hs
        rw [hll] at ck
        have CK := hide ck
        clear ck hs hll hin hnat
        go_wp2_with (go_at_call 68; refine (CK.out _ (Own.sl2 HO.out).2.2.2.2).mono ?_; rintro e w4 ⟨rfl, hb⟩; obtain ⟨⟨x0, x1, x2⟩, f0, f1, f2⟩ := hB2.out.call hb)
        obtain ⟨⟨m0, m1, m2⟩, _⟩ := Box3.stored (hB2.out.call hb) (.int .i64 i) (.int .i64 C') (.slice (some ⟨w2.heap.size + 1, 0, none⟩) n n)
        have ho3 := Own.below HO.out hb
        exact bodyPost_ret (v := .tuple #[mv (i) (C') (.slice (some ⟨w2.heap.size + 1, 0, none⟩) n n), .bool true]) (by first | (simp [results, Try.results27, go_sem, m0, m1, m2]; done) | (simp [results, Try.results27, go_sem]; done)) rfl (by rw [HR.out]; show RetMat w i C' (mulL i C C' xs ys) true _ _; exact ⟨_, rfl, Own.mono (lo := w2.heap.size) (by repeat' (first | with_reducible exact HO.out | with_reducible assumption | (with_reducible refine Own.set ?_ (own_ne ?_) _) | (with_reducible refine Own.set ?_ (own_nl (by assumption) (by first | omega | (dsimp only; omega))) _) | (with_reducible refine Own.alloc ?_ _) | (with_reducible refine Own.drewN ?_ _) | omega | (dsimp only; omega))) (by omega), (by repeat' (first | exact Below.refl _ _ | (refine Below.alloc ?_ ?_ _) | (refine Below.setCell ?_ ?_ _) | (refine Below.drew ?_) | (refine below_drewN ?_ _) | (refine Below.trans ?_ (Below.mono (by assumption) ?_)) | omega | (simp only [World.size_alloc, World.size_setCell, World.size_drew, size_drewN]; omega)))⟩)
      · have HR : Hid (mulRes i C xs C C' ys = .no) := by rw [Hid, hnat, if_neg (by simp [hs])]
        have ck := fun w (h : SlI w (some ⟨w2.heap.size + 1, 0, none⟩) (mulL i C C' xs ys)) => implChecked_no i C' (some ⟨w2.heap.size + 1, 0, none⟩) n (mulL i C C' xs ys) w h (by omega) hs
        rw [hll] at ck
        have CK := hide ck
        clear ck hs hll hin hnat
        go_wp2_with (go_at_call 68; refine (CK.out _ (Own.sl2 HO.out).2.2.2.2).mono ?_; rintro e w4 ⟨rfl, hb⟩; obtain ⟨⟨x0, x1, x2⟩, f0, f1, f2⟩ := hB2.out.call hb)
        obtain ⟨⟨m0, m1, m2⟩, _⟩ := Box3.stored (hB2.out.call hb) (.int .i64 0) (.int .i64 0) (.slice none 0 0)
        exact bodyPost_ret (v := .tuple #[mv (0) (0) (.slice none 0 0), .bool false]) (by first | (simp [results, Try.results27, go_sem, m0, m1, m2]; done) | (simp [results, Try.results27, go_sem]; done)) rfl (by rw [HR.out]; exact ⟨_, rfl, Own.nil _ _, (by repeat' (first | exact Below.refl _ _ | (refine Below.alloc ?_ ?_ _) | (refine Below.setCell ?_ ?_ _) | (refine Below.drew ?_) | (refine below_drewN ?_ _) | (refine Below.trans ?_ (Below.mono (by assumption) ?_)) | omega | (simp only [World.size_alloc, World.size_setCell, World.size_drew, size_drewN]; omega)))⟩)
set_option maxHeartbeats 4000000 in
theorem implMul_out (r c r' c' : Int) (A B : Option Addr) (p q : Nat) (xs ys : List Int) (w : World) (hA : Sl w A xs.length p xs) (hn : xs.length ≤ 1048576) (hB : Sl w B ys.length q ys) (hn' : ys.length ≤ 1048576) (h : mulIn r c xs r' c' ys = false) :
    Calls Try.prog 27 #[mv r c (.slice A xs.length p), mv r' c' (.slice B ys.length q)] w (RetMat w 0 0 [] false) := by
  have HA := hide hA; clear hA
  have HB := hide hB; clear hB
  rcases Bool.eq_false_or_eq_true (isMat r c xs) with hm | hm
  · rcases Bool.eq_false_or_eq_true (isMat r' c' ys) with hm' | hm'
    · have hc : ¬ c = r' := fun e => by subst e; simp [mulIn, hm, hm'] at h
      have e2 : (c != r') = true := by simpa using hc
      clear h hc
      go_enter Try.func27, Try.ntmps27
      go_wp2_with (first
        | (go_at_call_of 67 (Value.slice A xs.length p); refine (implIsMatrix r c A p xs _ (SlI.below HA.out.2.2.2.2 (by repeat' (first | exact Below.refl _ _ | (refine Below.alloc ?_ ?_ _) | (refine Below.setCell ?_ ?_ _) | (refine Below.drew ?_) | (refine below_drewN ?_ _) | (refine Below.trans ?_ (Below.mono (by assumption) ?_)) | omega | (simp only [World.size_alloc, World.size_setCell, World.size_drew, size_drewN]; omega)))) (by omega)).mono ?_; rintro e w1 ⟨rfl, hb⟩; obtain ⟨hc, hf⟩ := bcell hb; have hz := hb.size; (try simp only [World.size_alloc, World.size_setCell, World.size_drew, size_drewN] at hz); (first | have hs := up3 hz | have hs := up2 hz | have hs := up1 hz | have hs := up0 hz); (try have q10 := hs _ q9); (try have q9 := hs _ q8); (try have q8 := hs _ q7); (try have q7 := hs _ q6); (try have q6 := hs _ q5); (try have q5 := hs _ q4); (try have q4 := hs _ q3); (try have q3 := hs _ q2); (try have q2 := hs _ q1); (try have p7 := hs _ p6); (try have p6 := hs _ p5); (try have p5 := hs _ p4); (try have p4 := hs _ p3); (try have p3 := hs _ p2); (try have p2 := hs _ p1); (try have q1 := new1 hz); (try have p1 := new2 hz); (try have r1 := new3 hz); obtain ⟨⟨x0, x1, x2⟩, f0, f1, f2⟩ := show Box3 w1 (w.heap.size + 1 + 1) (.int .i64 0) (.int .i64 0) (.slice none 0 0) from (by repeat' (first | with_reducible assumption | (with_reducible refine Box3.set ?_ ?_ _) | (with_reducible refine Box3.drew ?_) | (with_reducible refine Box3.drewN ?_ _) | (with_reducible exact Box3.new _ _ _ (by first | rfl | (simp only [World.size_alloc]; done) | (simp only [World.size_alloc]; omega))) | (with_reducible refine Box3.alloc ?_ _) | (with_reducible refine Box3.call ?_ (by assumption)) | (with_reducible refine Box3.grown ?_ (by assumption) (by simp; omega)) | omega | (dsimp only; omega) | (simp only [World.size_alloc, World.size_setCell, World.size_drew, size_drewN]; omega))))
        | (go_at_call 67; refine (implIsMatrix r' c' B q ys _ (SlI.below HB.out.2.2.2.2 (by repeat' (first | exact Below.refl _ _ | (refine Below.alloc ?_ ?_ _) | (refine Below.setCell ?_ ?_ _) | (refine Below.drew ?_) | (refine below_drewN ?_ _) | (refine Below.trans ?_ (Below.mono (by assumption) ?_)) | omega | (simp only [World.size_alloc, World.size_setCell, World.size_drew, size_drewN]; omega)))) (by omega)).mono ?_; rintro e w2 ⟨rfl, hb⟩; obtain ⟨hc, hf⟩ := bcell hb; have hz := hb.size; (try simp only [World.size_alloc, World.size_setCell, World.size_drew, size_drewN] at hz); (first | have hs := up3 hz | have hs := up2 hz | have hs := up1 hz | have hs := up0 hz); (try have q10 := hs _ q9); (try have q9 := hs _ q8); (try have q8 := hs _ q7); (try have q7 := hs _ q6); (try have q6 := hs _ q5); (try have q5 := hs _ q4); (try have q4 := hs _ q3); (try have q3 := hs _ q2); (try have q2 := hs _ q1); (try have p7 := hs _ p6); (try have p6 := hs _ p5); (try have p5 := hs _ p4); (try have p4 := hs _ p3); (try have p3 := hs _ p2); (try have p2 := hs _ p1); (try have q1 := new1 hz); (try have p1 := new2 hz); (try have r1 := new3 hz); clear x0 x1 x2 f0 f1 f2; obtain ⟨⟨x0, x1, x2⟩, f0, f1, f2⟩ := show Box3 w2 (w.heap.size + 1 + 1) (.int .i64 0) (.int .i64 0) (.slice none 0 0) from (by repeat' (first | with_reducible assumption | (with_reducible refine Box3.set ?_ ?_ _) | (with_reducible refine Box3.drew ?_) | (with_reducible refine Box3.drewN ?_ _) | (with_reducible exact Box3.new _ _ _ (by first | rfl | (simp only [World.size_alloc]; done) | (simp only [World.size_alloc]; omega))) | (with_reducible refine Box3.alloc ?_ _) | (with_reducible refine Box3.call ?_ (by assumption)) | (with_reducible refine Box3.grown ?_ (by assumption) (by simp; omega)) | omega | (dsimp only; omega) | (simp only [World.size_alloc, World.size_setCell, World.size_drew, size_drewN]; omega)))))
      obtain ⟨⟨m0, m1, m2⟩, _⟩ := Box3.stored (show Box3 w2 (w.heap.size + 1 + 1) (.int .i64 0) (.int .i64 0) (.slice none 0 0) from (by repeat' (first | with_reducible assumption | (with_reducible refine Box3.set ?_ ?_ _) | (with_reducible refine Box3.drew ?_) | (with_reducible refine Box3.drewN ?_ _) | (with_reducible exact Box3.new _ _ _ (by first | rfl | (simp only [World.size_alloc]; done) | (simp only [World.size_alloc]; omega))) | (with_reducible refine Box3.alloc ?_ _) | (with_reducible refine Box3.call ?_ (by assumption)) | (with_reducible refine Box3.grown ?_ (by assumption) (by simp; omega)) | omega | (dsimp only; omega) | (simp only [World.size_alloc, World.size_setCell, World.size_drew, size_drewN]; omega)))) (.int .i64 0) (.int .i64 0) (.slice none 0 0)
      exact bodyPost_ret (v := .tuple #[mv (0) (0) (.slice none 0 0), .bool false]) (by first | (simp [results, Try.results27, go_sem, m0, m1, m2]; done) | (simp [results, Try.results27, go_sem]; done)) rfl ⟨_, rfl, Own.nil _ _, (by repeat' (first | exact Below.refl _ _ | (refine Below.alloc ?_ ?_ _) | (refine Below.setCell ?_ ?_ _) | (refine Below.drew ?_) | (refine below_drewN ?_ _) | (refine Below.trans ?_ (Below.mono (by assumption) ?_)) | omega | (simp only [World.size_alloc, World.size_setCell, World.size_drew, size_drewN]; omega)))⟩
    · clear h
      go_enter Try.func27, Try.ntmps27
      go_wp2_with (first
        | (go_at_call_of 67 (Value.slice A xs.length p); refine (implIsMatrix r c A p xs _ (SlI.below HA.out.2.2.2.2 (by repeat' (first | exact Below.refl _ _ | (refine Below.alloc ?_ ?_ _) | (refine Below.setCell ?_ ?_ _) | (refine Below.drew ?_) | (refine below_drewN ?_ _) | (refine Below.trans ?_ (Below.mono (by assumption) ?_)) | omega | (simp only [World.size_alloc, World.size_setCell, World.size_drew, size_drewN]; omega)))) (by omega)).mono ?_; rintro e w1 ⟨rfl, hb⟩; obtain ⟨hc, hf⟩ := bcell hb; have hz := hb.size; (try simp only [World.size_alloc, World.size_setCell, World.size_drew, size_drewN] at hz); (first | have hs := up3 hz | have hs := up2 hz | have hs := up1 hz | have hs := up0 hz); (try have q10 := hs _ q9); (try have q9 := hs _ q8); (try have q8 := hs _ q7); (try have q7 := hs _ q6); (try have q6 := hs _ q5); (try have q5 := hs _ q4); (try have q4 := hs _ q3); (try have q3 := hs _ q2); (try have q2 := hs _ q1); (try have p7 := hs _ p6); (try have p6 := hs _ p5); (try have p5 := hs _ p4); (try have p4 := hs _ p3); (try have p3 := hs _ p2); (try have p2 := hs _ p1); (try have q1 := new1 hz); (try have p1 := new2 hz); (try have r1 := new3 hz); obtain ⟨⟨x0, x1, x2⟩, f0, f1, f2⟩ := show Box3 w1 (w.heap.size + 1 + 1) (.int .i64 0) (.int .i64 0) (.slice none 0 0) from (by repeat' (first | with_reducible assumption | (with_reducible refine Box3.set ?_ ?_ _) | (with_reducible refine Box3.drew ?_) | (with_reducible refine Box3.drewN ?_ _) | (with_reducible exact Box3.new _ _ _ (by first | rfl | (simp only [World.size_alloc]; done) | (simp only [World.size_alloc]; omega))) | (with_reducible refine Box3.alloc ?_ _) | (with_reducible refine Box3.call ?_ (by assumption)) | (with_reducible refine Box3.grown ?_ (by assumption) (by simp; omega)) | omega | (dsimp only; omega) | (simp only [World.size_alloc, World.size_setCell, World.size_drew, size_drewN]; omega))))
        | (go_at_call 67; refine (implIsMatrix r' c' B q ys _ (SlI.below HB.out.2.2.2.2 (by repeat' (first | exact Below.refl _ _ | (refine Below.alloc ?_ ?_ _) | (refine Below.setCell ?_ ?_ _) | (refine Below.drew ?_) | (refine below_drewN ?_ _) | (refine Below.trans ?_ (Below.mono (by assumption) ?_)) | omega | (simp only [World.size_alloc, World.size_setCell, World.size_drew, size_drewN]; omega)))) (by omega)).mono ?_; rintro e w2 ⟨rfl, hb⟩; obtain ⟨hc, hf⟩ := bcell hb; have hz := hb.size; (try simp only [World.size_alloc, World.size_setCell, World.size_drew, size_drewN] at hz); (first | have hs := up3 hz | have hs := up2 hz | have hs := up1 hz | have hs := up0 hz); (try have q10 := hs _ q9); (try have q9 := hs _ q8); (try have q8 := hs _ q7); (try have q7 := hs _ q6); (try have q6 := hs _ q5); (try have q5 := hs _ q4); (try have q4 := hs _ q3); (try have q3 := hs _ q2); (try have q2 := hs _ q1); (try have p7 := hs _ p6); (try have p6 := hs _ p5); (try have p5 := hs _ p4); (try have p4 := hs _ p3); (try have p3 := hs _ p2); (try have p2 := hs _ p1); (try have q1 := new1 hz); (try have p1 := new2 hz); (try have r1 := new3 hz); clear x0 x1 x2 f0 f1 f2; obtain ⟨⟨x0, x1, x2⟩, f0, f1, f2⟩ := show Box3 w2 (w.heap.size + 1 + 1) (.int .i64 0) (.int .i64 0) (.slice none 0 0) from (by repeat' (first | with_reducible assumption | (with_reducible refine Box3.set ?_ ?_ _) | (with_reducible refine Box3.drew ?_) | (with_reducible refine Box3.drewN ?_ _) | (with_reducible exact Box3.new _ _ _ (by first | rfl | (simp only [World.size_alloc]; done) | (simp only [World.size_alloc]; omega))) | (with_reducible refine Box3.alloc ?_ _) | (with_reducible refine Box3.call ?_ (by assumption)) | (with_reducible refine Box3.grown ?_ (by assumption) (by simp; omega)) | omega | (dsimp only; omega) | (simp only [World.size_alloc, World.size_setCell, World.size_drew, size_drewN]; omega)))))
      obtain ⟨⟨m0, m1, m2⟩, _⟩ := Box3.stored (show Box3 w2 (w.heap.size + 1 + 1) (.int .i64 0) (.int .i64 0) (.slice none 0 0) from (by repeat' (first | with_reducible assumption | (with_reducible refine Box3.set ?_ ?_ _) | (with_reducible refine Box3.drew ?_) | (with_reducible refine Box3.drewN ?_ _) | (with_reducible exact Box3.new _ _ _ (by first | rfl | (simp only [World.size_alloc]; done) | (simp only [World.size_alloc]; omega))) | (with_reducible refine Box3.alloc ?_ _) | (with_reducible refine Box3.call ?_ (by assumption)) | (with_reducible refine Box3.grown ?_ (by assumption) (by simp; omega)) | omega | (dsimp only; omega) | (simp only [World.size_alloc, World.size_setCell, World.size_drew, size_drewN]; omega)))) (.int .i64 0) (.int .i64 0) (.slice none 0 0)
      exact bodyPost_ret (v := .tuple #[mv (0) (0) (.slice none 0 0), .bool false]) (by first | (simp [results, Try.results27, go_sem, m0, m1, m2]; done) | (simp [results, Try.results27, go_sem]; done)) rfl ⟨_, rfl, Own.nil _ _, (by repeat' (first | exact Below.refl _ _ | (refine Below.alloc ?_ ?_ _) | (refine Below.setCell ?_ ?_ _) | (refine Below.drew ?_) | (refine below_drewN ?_ _) | (refine Below.trans ?_ (Below.mono (by assumption) ?_)) | omega | (simp only [World.size_alloc, World.size_setCell, World.size_drew, size_drewN]; omega)))⟩
  · clear h
    go_enter Try.func27, Try.ntmps27
    go_wp2_with (first
      | (go_at_call_of 67 (Value.slice A xs.length p); refine (implIsMatrix r c A p xs _ (SlI.below HA.out.2.2.2.2 (by repeat' (first | exact Below.refl _ _ | (refine Below.alloc ?_ ?_ _) | (refine Below.setCell ?_ ?_ _) | (refine Below.drew ?_) | (refine below_drewN ?_ _) | (refine Below.trans ?_ (Below.mono (by assumption) ?_)) | omega | (simp only [World.size_alloc, World.size_setCell, World.size_drew, size_drewN]; omega)))) (by omega)).mono ?_; rintro e w1 ⟨rfl, hb⟩; obtain ⟨hc, hf⟩ := bcell hb; have hz := hb.size; (try simp only [World.size_alloc, World.size_setCell, World.size_drew, size_drewN] at hz); (first | have hs := up3 hz | have hs := up2 hz | have hs := up1 hz | have hs := up0 hz); (try have q10 := hs _ q9); (try have q9 := hs _ q8); (try have q8 := hs _ q7); (try have q7 := hs _ q6); (try have q6 := hs _ q5); (try have q5 := hs _ q4); (try have q4 := hs _ q3); (try have q3 := hs _ q2); (try have q2 := hs _ q1); (try have p7 := hs _ p6); (try have p6 := hs _ p5); (try have p5 := hs _ p4); (try have p4 := hs _ p3); (try have p3 := hs _ p2); (try have p2 := hs _ p1); (try have q1 := new1 hz); (try have p1 := new2 hz); (try have r1 := new3 hz); obtain ⟨⟨x0, x1, x2⟩, f0, f1, f2⟩ := show Box3 w1 (w.heap.size + 1 + 1) (.int .i64 0) (.int .i64 0) (.slice none 0 0) from (by repeat' (first | with_reducible assumption | (with_reducible refine Box3.set ?_ ?_ _) | (with_reducible refine Box3.drew ?_) | (with_reducible refine Box3.drewN ?_ _) | (with_reducible exact Box3.new _ _ _ (by first | rfl | (simp only [World.size_alloc]; done) | (simp only [World.size_alloc]; omega))) | (with_reducible refine Box3.alloc ?_ _) | (with_reducible refine Box3.call ?_ (by assumption)) | (with_reducible refine Box3.grown ?_ (by assumption) (by simp; omega)) | omega | (dsimp only; omega) | (simp only [World.size_alloc, World.size_setCell, World.size_drew, size_drewN]; omega)))))
    obtain ⟨⟨m0, m1, m2⟩, _⟩ := Box3.stored (show Box3 w1 (w.heap.size + 1 + 1) (.int .i64 0) (.int .i64 0) (.slice none 0 0) from (by repeat' (first | with_reducible assumption | (with_reducible refine Box3.set ?_ ?_ _) | (with_reducible refine Box3.drew ?_) | (with_reducible refine Box3.drewN ?_ _) | (with_reducible exact Box3.new _ _ _ (by first | rfl | (simp only [World.size_alloc]; done) | (simp only [World.size_alloc]; omega))) | (with_reducible refine Box3.alloc ?_ _) | (with_reducible refine Box3.call ?_ (by assumption)) | (with_reducible refine Box3.grown ?_ (by assumption) (by simp; omega)) | omega | (dsimp only; omega) | (simp only [World.size_alloc, World.size_setCell, World.size_drew, size_drewN]; omega)))) (.int .i64 0) (.int .i64 0) (.slice none 0 0)
    exact bodyPost_ret (v := .tuple #[mv (0) (0) (.slice none 0 0), .bool false]) (by first | (simp [results, Try.results27, go_sem, m0, m1, m2]; done) | (simp [results, Try.results27, go_sem]; done)) rfl ⟨_, rfl, Own.nil _ _, (by repeat' (first | exact Below.refl _ _ | (refine Below.alloc ?_ ?_ _) | (refine Below.setCell ?_ ?_ _) | (refine Below.drew ?_) | (refine below_drewN ?_ _) | (refine Below.trans ?_ (Below.mono (by assumption) ?_)) | omega | (simp only [World.size_alloc, World.size_setCell, World.size_drew, size_drewN]; omega)))⟩
theorem implMul (r c r' c' : Int) (A B : Option Addr) (p q : Nat) (xs ys : List Int) (w : World) (hA : Sl w A xs.length p xs) (hn : xs.length ≤ 1048576) (hB : Sl w B ys.length q ys) (hn' : ys.length ≤ 1048576) :
    Calls Try.prog 27 #[mv r c (.slice A xs.length p), mv r' c' (.slice B ys.length q)] w (RetM w (mulRes r c xs r' c' ys)) := by
  rcases Bool.eq_false_or_eq_true (mulIn r c xs r' c' ys) with h | h
  · simp only [mulIn, Bool.and_eq_true, decide_eq_true_eq] at h
    obtain ⟨⟨h1, h2⟩, rfl⟩ := h
    obtain ⟨R, rfl⟩ := Int.eq_ofNat_of_zero_le (isMat_t h1).1
    obtain ⟨C, rfl⟩ := Int.eq_ofNat_of_zero_le (isMat_t h1).2.2.1
    obtain ⟨C', rfl⟩ := Int.eq_ofNat_of_zero_le (isMat_t h2).2.2.1
    exact implMul_in R C C' A B p q xs ys w hA hB h1 h2
  · rw [show mulRes r c xs r' c' ys = .no from by rw [mulRes, if_neg (by simp [h])]]
    exact implMul_out r c r' c' A B p q xs ys w hA hn hB hn' h
set_option maxHeartbeats 16000000 in
theorem specL3Mul (R C C' : Nat) (A B : Option Addr) (p q : Nat) (xs ys : List Int) (w : World) (hA : Sl w A xs.length p xs) (hB : Sl w B ys.length q ys) (hm : isMat R C xs = true) (hm' : isMat C C' ys = true) :
    Calls Try.prog 70 #[mv R C (.slice A xs.length p), mv C C' (.slice B ys.length q)] w (RetM3 w R C' (mulL R C C' xs ys)) := by
  obtain ⟨_, m2, _, m4, m5, mA, m7⟩ := isMat_t hm
  obtain ⟨_, _, _, m4', m5', mB, m7'⟩ := isMat_t hm'
  have HR : R ≤ 24 := by omega
  have HC : C ≤ 24 := by omega
  have HC' : C' ≤ 24 := by omega
  have hcr : R * C' ≤ 576 := Nat.mul_le_mul HR HC'
  have hlx : xs.length = R * C := by
    have : (xs.length : Int) = ((R * C : Nat) : Int) := by rw [m5]; push_cast; rfl
    omega
  have hly : ys.length = C * C' := by
    have : (ys.length : Int) = ((C * C' : Nat) : Int) := by rw [m5']; push_cast; rfl
    omega
  have HLX := hide hlx
  have HLY := hide hly
  clear m5 m5' hlx hly
  have HA := hide hA; clear hA
  have HB := hide hB; clear hB
  have HN := hide mA; clear mA
  have HN' := hide mB; clear mB
  have HNN : Hid ((R : Int) * C' = ((R * C' : Nat) : Int)) := by simp [Hid]
  have HS0 := hide (mulTo_start R C C' xs ys)
  have HSE := hide (mulTo_end R C C' xs ys)
  have HST : Hid (∀ i j, j < C' → (tab (R * C') (mulTo C C' xs ys (i * C' + j))).set (i * C' + j) (Det.sum C (mulAt C C' xs ys i j)) = tab (R * C') (mulTo C C' xs ys (i * C' + (j + 1)))) := fun i j hj => mulTo_step hj
  have HIX : Hid (∀ i j, i < R → j < C' → i * C' + j < R * C') := fun i j hi hj => ix_lt hi hj
  have HLL : Hid ((mulL R C C' xs ys).length = R * C') := ofM_length _ _ _
  have HXA : Hid (∀ i k, i < R → k < C → i * C + k < xs.length) := fun i k hi hk => by rw [HLX.out]; exact ix_lt hi hk
  have HXB : Hid (∀ k j, k < C → j < C' → k * C' + j < ys.length) := fun k j hk hj => by rw [HLY.out]; exact ix_lt hk hj
  obtain ⟨n, hn⟩ : ∃ n, R * C' = n := ⟨_, rfl⟩
  rw [hn] at HNN hcr HS0 HSE HST HIX HLL
  have HE := hide hn; clear hn
  have e1 : ((C : Int) != (C : Int)) = false := by simp
  go_enter Try.func70, Try.ntmps70
  go_wp2_with ((go_at_call 56; refine (specL3New R C' n _ HNN (by omega)).mono ?_; rintro e w3 ⟨rfl, ho, hb⟩; obtain ⟨hc, hf⟩ := bcell hb; have hz := hb.size; (try simp only [World.size_alloc, World.size_setCell, World.size_drew, size_drewN] at hz); (first | have hs := up3 hz | have hs := up2 hz | have hs := up1 hz | have hs := up0 hz); (try have q10 := hs _ q9); (try have q9 := hs _ q8); (try have q8 := hs _ q7); (try have q7 := hs _ q6); (try have q6 := hs _ q5); (try have q5 := hs _ q4); (try have q4 := hs _ q3); (try have q3 := hs _ q2); (try have q2 := hs _ q1); (try have p7 := hs _ p6); (try have p6 := hs _ p5); (try have p5 := hs _ p4); (try have p4 := hs _ p3); (try have p3 := hs _ p2); (try have p2 := hs _ p1); (try have q1 := new1 hz); (try have p1 := new2 hz); (try have r1 := new3 hz); (try simp only [World.size_alloc, World.size_setCell, World.size_drew, size_drewN] at ho)))
  have hg1 : w.heap.size + 1 + 1 + 1 + 1 < w3.heap.size := (Own.lt ho _ rfl).2
  go_loopw [6] (fun iv wr => ∃ i : Nat, i ≤ R ∧ iv = .int .i64 i ∧ Own wr (w.heap.size + 1 + 1 + 1) (.slice (some ⟨w.heap.size + 1 + 1 + 1 + 1, 0, none⟩) n n) (tab n (mulTo C C' xs ys (i * C'))) ∧
      Box3 wr w.heap.size (.int .i64 R) (.int .i64 C) (.slice A xs.length p) ∧ Box3 wr (w.heap.size + 1) (.int .i64 C) (.int .i64 C') (.slice B ys.length q) ∧ Box3 wr (w.heap.size + 1 + 1) (.int .i64 0) (.int .i64 0) (.slice none 0 0) ∧ Box3 wr w3.heap.size (.int .i64 R) (.int .i64 C') (.slice (some ⟨w.heap.size + 1 + 1 + 1 + 1, 0, none⟩) n n) ∧ Below w.heap.size w wr) (fun iv _ => R - (intOf iv).toNat)
  case atStart =>
    refine ⟨0, Nat.zero_le _, rfl, ?_, ?_, ?_, ?_, ?_, ?_⟩
    · rw [Nat.zero_mul, ← HS0.out]
      exact (by repeat' (first | with_reducible exact HO.out | with_reducible assumption | (with_reducible refine Own.set ?_ (own_ne ?_) _) | (with_reducible refine Own.set ?_ (own_nl (by assumption) (by first | omega | (dsimp only; omega))) _) | (with_reducible refine Own.alloc ?_ _) | (with_reducible refine Own.drewN ?_ _) | omega | (dsimp only; omega)))
    · exact (by repeat' (first | with_reducible assumption | (with_reducible refine Box3.set ?_ ?_ _) | (with_reducible refine Box3.drew ?_) | (with_reducible refine Box3.drewN ?_ _) | (with_reducible exact Box3.new _ _ _ (by first | rfl | (simp only [World.size_alloc]; done) | (simp only [World.size_alloc]; omega))) | (with_reducible refine Box3.alloc ?_ _) | (with_reducible refine Box3.call ?_ (by assumption)) | (with_reducible refine Box3.grown ?_ (by assumption) (by simp; omega)) | omega | (dsimp only; omega) | (simp only [World.size_alloc, World.size_setCell, World.size_drew, size_drewN]; omega)))
    · exact (by repeat' (first | with_reducible assumption | (with_reducible refine Box3.set ?_ ?_ _) | (with_reducible refine Box3.drew ?_) | (with_reducible refine Box3.drewN ?_ _) | (with_reducible exact Box3.new _ _ _ (by first | rfl | (simp only [World.size_alloc]; done) | (simp only [World.size_alloc]; omega))) | (with_reducible refine Box3.alloc ?_ _) | (with_reducible refine Box3.call ?_ (by assumption)) | (with_reducible refine Box3.grown ?_ (by assumption) (by simp; omega)) | omega | (dsimp only; omega) | (simp only [World.size_alloc, World.size_setCell, World.size_drew, size_drewN]; omega)))
    · exact (by repeat' (first | with_reducible assumption | (with_reducible refine Box3.set ?_ ?_ _) | (with_reducible refine Box3.drew ?_) | (with_reducible refine Box3.drewN ?_ _) | (with_reducible exact Box3.new _ _ _ (by first | rfl | (simp only [World.size_alloc]; done) | (simp only [World.size_alloc]; omega))) | (with_reducible refine Box3.alloc ?_ _) | (with_reducible refine Box3.call ?_ (by assumption)) | (with_reducible refine Box3.grown ?_ (by assumption) (by simp; omega)) | omega | (dsimp only; omega) | (simp only [World.size_alloc, World.size_setCell, World.size_drew, size_drewN]; omega)))
    · exact (by repeat' (first | with_reducible assumption | (with_reducible refine Box3.set ?_ ?_ _) | (with_reducible refine Box3.drew ?_) | (with_reducible refine Box3.drewN ?_ _) | (with_reducible exact Box3.new _ _ _ (by first | rfl | (simp only [World.size_alloc]; done) | (simp only [World.size_alloc]; omega))) | (with_reducible refine Box3.alloc ?_ _) | (with_reducible refine Box3.call ?_ (by assumption)) | (with_reducible refine Box3.grown ?_ (by assumption) (by simp; omega)) | omega | (dsimp only; omega) | (simp only [World.size_alloc, World.size_setCell, World.size_drew, size_drewN]; omega)))
    · exact (by repeat' (first | exact Below.refl _ _ | (refine Below.alloc ?_ ?_ _) | (refine Below.setCell ?_ ?_ _) | (refine Below.drew ?_) | (refine below_drewN ?_ _) | (refine Below.trans ?_ (Below.mono (by assumption) ?_)) | omega | (simp only [World.size_alloc, World.size_setCell, World.size_drew, size_drewN]; omega)))
  case round =>
    obtain ⟨i, hi, rfl, ho, b0, b1, b2, b3, hB⟩ := hrel
    obtain ⟨wo, rfl⟩ : ∃ wo : World, wo = wr := ⟨_, rfl⟩
    have hB0 := hide b0
    have hB1 := hide b1
    have hB2 := hide b2
    have hB3 := hide b3
    have HO := hide ho; clear ho b2 b3
    obtain ⟨⟨a0, a1, a2⟩, _⟩ := b0
    obtain ⟨⟨d0, d1, d2⟩, _⟩ := b1
    by_cases hlt : i < R
    · go_wp2
      go_loopw [7] (fun jv wr => ∃ j : Nat, j ≤ C' ∧ jv = .int .i64 j ∧ Own wr (w.heap.size + 1 + 1 + 1) (.slice (some ⟨w.heap.size + 1 + 1 + 1 + 1, 0, none⟩) n n) (tab n (mulTo C C' xs ys (i * C' + j))) ∧
          Box3 wr w.heap.size (.int .i64 R) (.int .i64 C) (.slice A xs.length p) ∧ Box3 wr (w.heap.size + 1) (.int .i64 C) (.int .i64 C') (.slice B ys.length q) ∧ Box3 wr (w.heap.size + 1 + 1) (.int .i64 0) (.int .i64 0) (.slice none 0 0) ∧ Box3 wr w3.heap.size (.int .i64 R) (.int .i64 C') (.slice (some ⟨w.heap.size + 1 + 1 + 1 + 1, 0, none⟩) n n) ∧ Below w.heap.size w wr) (fun jv _ => C' - (intOf jv).toNat)
      case atStart => exact ⟨0, Nat.zero_le _, rfl, HO.out, hB0.out, hB1.out, hB2.out, hB3.out, hB⟩
      case round =>
        clear hB0 hB1 hB2 hB3 a0 a1 a2 d0 d1 d2 HO hB
        obtain ⟨j, hj, rfl, ho, b0, b1, b2, b3, hB⟩ := hrel
        obtain ⟨wo, rfl⟩ : ∃ wo : World, wo = wr := ⟨_, rfl⟩
        have hB0 := hide b0
        have hB1 := hide b1
        have hB2 := hide b2
        have hB3 := hide b3
        have HO := hide ho; clear ho b2 b3
        obtain ⟨⟨a0, a1, a2⟩, _⟩ := b0
        obtain ⟨⟨d0, d1, d2⟩, _⟩ := b1
        by_cases hlj : j < C'
        · have hst := hide (HST.out i j hlj)
          have hix := HIX.out i j hlt hlj
          have hSum : Hid (∀ k : Nat, k ≤ 24 → -((k : Int) * 160000000000000000) ≤ Det.sum k (mulAt C C' xs ys i j) ∧ Det.sum k (mulAt C C' xs ys i j) ≤ (k : Int) * 160000000000000000) := fun k hk => mulSum_in HN.out HN'.out i j k hk
          have hAt : Hid (∀ k : Nat, -160000000000000000 ≤ mulAt C C' xs ys i j k ∧ mulAt C C' xs ys i j k ≤ 160000000000000000) := fun k => mulAt_in HN.out HN'.out i j k
          have hAtV : Hid (∀ k : Nat, mulAt C C' xs ys i j k = xs.getD (i * C + k) 0 * ys.getD (k * C' + j) 0) := fun k => rfl
          obtain ⟨f, hf⟩ : ∃ f, mulAt C C' xs ys i j = f := ⟨_, rfl⟩
          rw [hf] at hst hSum hAt hAtV
          have HXi := hide (fun k (hk : k < C) => HXA.out i k hlt hk)
          have HXj := hide (fun k (hk : k < C) => HXB.out k j hk hlj)
          have HIi : Hid (∀ k : Nat, (i : Int) * C = ((i * C + k : Nat) : Int) - k) := fun k => by push_cast; omega
          have HIj : Hid (∀ k : Nat, (k : Int) * C' = ((k * C' + j : Nat) : Int) - j) := fun k => by push_cast; omega
          have HI3 : Hid ((i : Int) * C' = ((i * C' + j : Nat) : Int) - j) := by rw [Hid]; push_cast; omega
          have hi0 : 0 ≤ (i : Int) * C := Int.mul_nonneg (by omega) (by omega)
          have hi1 : (i : Int) * C ≤ 576 := by have h1 : i * C ≤ 24 * 24 := Nat.mul_le_mul (by omega) HC
                                               have : (i : Int) * C = ((i * C : Nat) : Int) := by push_cast; rfl
                                               omega
          have hi2 : 0 ≤ (i : Int) * C' := Int.mul_nonneg (by omega) (by omega)
          have hi3 : (i : Int) * C' ≤ 576 := by have := HI3.out; omega
          have hk2 : Hid (∀ k : Nat, k < C → 0 ≤ (k : Int) * C' ∧ (k : Int) * C' ≤ 576) := fun k hk => by
            have h1 : k * C' ≤ 24 * 24 := Nat.mul_le_mul (by omega) HC'
            have : (k : Int) * C' = ((k * C' : Nat) : Int) := by push_cast; rfl
            omega
          clear hf
          go_wp2
          go_loopw [8, 9] (fun sv kv wr => ∃ k : Nat, k ≤ C ∧ kv = .int .i64 k ∧ sv = .int .i64 (Det.sum k f) ∧ Own wr (w.heap.size + 1 + 1 + 1) (.slice (some ⟨w.heap.size + 1 + 1 + 1 + 1, 0, none⟩) n n) (tab n (mulTo C C' xs ys (i * C' + j))) ∧
              Box3 wr w.heap.size (.int .i64 R) (.int .i64 C) (.slice A xs.length p) ∧ Box3 wr (w.heap.size + 1) (.int .i64 C) (.int .i64 C') (.slice B ys.length q) ∧ Box3 wr (w.heap.size + 1 + 1) (.int .i64 0) (.int .i64 0) (.slice none 0 0) ∧ Box3 wr w3.heap.size (.int .i64 R) (.int .i64 C') (.slice (some ⟨w.heap.size + 1 + 1 + 1 + 1, 0, none⟩) n n) ∧ Below w.heap.size w wr) (fun _ kv _ => C - (intOf kv).toNat)
          case atStart => exact ⟨0, Nat.zero_le _, rfl, rfl, HO.out, hB0.out, hB1.out, hB2.out, hB3.out, hB⟩
          case round =>
            clear hB0 hB1 hB2 hB3 a0 a1 a2 d0 d1 d2 HO hB
            obtain ⟨k, hk, rfl, rfl, ho, b0, b1, b2, b3, hB⟩ := hrel
            have hB0 := hide b0
            have hB1 := hide b1
            have hB2 := hide b2
            have hB3 := hide b3
            have HO := hide ho; clear ho b2
            obtain ⟨⟨a0, a1, a2⟩, _⟩ := b0
            obtain ⟨⟨d0, d1, d2⟩, _⟩ := b1
            obtain ⟨⟨c0, c1, c2⟩, _⟩ := b3
            have hs1 := hSum.out k (by omega)
            by_cases hlk : k < C
            · have hs2 := hSum.out (k + 1) (by omega)
              rw [Det.sum] at hs2
              have hx1 := HXi.out k hlk
              have hy1 := HXj.out k hlk
              have I1 := hide (HIi.out k)
              have I2 := hide (HIj.out k)
              have hkk := hk2.out k hlk
              obtain ⟨x, hx⟩ : ∃ x, xs.getD (i * C + k) 0 = x := ⟨_, rfl⟩
              obtain ⟨y, hy⟩ : ∃ y, ys.getD (k * C' + j) 0 = y := ⟨_, rfl⟩
              have HX := hide hx
              have HY := hide hy
              have hfk : f k = x * y := by rw [hAtV.out k, hx, hy]
              have hSK : Hid (Det.sum (k + 1) f = Det.sum k f + x * y) := by rw [Hid, Det.sum, hfk]
              have hab := hAt.out k
              rw [hfk] at hs2 hab
              obtain ⟨s, hs⟩ : ∃ s, Det.sum k f = s := ⟨_, rfl⟩
              rw [hs] at hs1 hs2 hSK ⊢
              obtain ⟨d, hd⟩ : ∃ d, i * C + k = d := ⟨_, rfl⟩
              obtain ⟨e, he⟩ : ∃ e, k * C' + j = e := ⟨_, rfl⟩
              rw [hd] at hx1 I1 HX
              rw [he] at hy1 I2 HY
              have q1 : IntKind.i64.wrap (x * y) = x * y := IntWalk.i64_in _ (by omega)
              have q2 : IntKind.i64.wrap (s + x * y) = s + x * y := IntWalk.i64_in _ (by omega)
              clear hx hy hs hd he hfk
              obtain ⟨g, o, rfl, hcy⟩ := HA.out.2.2.2.2 (by omega)
              obtain ⟨g', o', rfl, hcx⟩ := HB.out.2.2.2.2 (by omega)
              have hca := kc_call (hcy d hx1) hB
              have hcb := kc_call (hcx e hy1) hB
              rw [HX.out] at hca
              rw [HY.out] at hcb
              have q3 : (i : Int) * C + k = (d : Int) := by have := I1.out; omega
              have q4 : (k : Int) * C' + j = (e : Int) := by have := I2.out; omega
              have q5 : IntKind.i64.wrap ((i : Int) * C) = (i : Int) * C := IntWalk.i64_in _ (by omega)
              have q6 : IntKind.i64.wrap ((k : Int) * C') = (k : Int) * C' := IntWalk.i64_in _ (by omega)
              have q7 : IntKind.i64.wrap (d : Int) = (d : Int) := IntWalk.i64_in _ (by omega)
              have q8 : IntKind.i64.wrap (e : Int) = (e : Int) := IntWalk.i64_in _ (by omega)
              have z1 : (0 : Int) ≤ (d : Int) := by omega
              have z2 : (0 : Int) ≤ (e : Int) := by omega
              have z3 : (d : Int) < (xs.length : Int) := by omega
              have z4 : (e : Int) < (ys.length : Int) := by omega
              clear hcx hcy hi0 hi1 hkk
              go_wp2
              go_quiet (fail)
              clear q1 q2 q3 q4 q5 q6 q7 q8
              go_wp2
              go_roundw
              case rel => exact ⟨k + 1, by omega, by go_num, by rw [hSK.out], HO.out, hB0.out, hB1.out, hB2.out, hB3.out, below_drewN hB _⟩
              case measure => simp [intOf]; omega
            · have hkk : k = C := by omega
              subst hkk
              have hst2 : Hid ((tab n (mulTo k C' xs ys (i * C' + j))).set (i * C' + j) (Det.sum k f) = tab n (mulTo k C' xs ys (i * C' + (j + 1)))) := hst
              obtain ⟨d, hd⟩ : ∃ d, i * C' + j = d := ⟨_, rfl⟩
              obtain ⟨s, hs⟩ : ∃ s, Det.sum k f = s := ⟨_, rfl⟩
              have hO2 : Own wr (w.heap.size + 1 + 1 + 1) (.slice (some ⟨w.heap.size + 1 + 1 + 1 + 1, 0, none⟩) n n) (tab n (mulTo k C' xs ys d)) := by have := HO.out; rwa [hd] at this
              have hI3 : Hid ((i : Int) * C' = (d : Int) - j) := by have := HI3.out; rwa [hd] at this
              rw [hd, hs] at hst2
              rw [hd] at hix
              rw [hs] at hs1 ⊢
              have HO2 := hide hO2
              clear hO2 HO hd hs HI3
              have HO := HO2
              clear HO2
              have hce := own_cell HO.out hix
              have hfd := own_free HO.out d
              have hck : mulTo k C' xs ys d d = 0 := by simp [mulTo]
              rw [hck] at hce
              have hso := own_store HO.out hst2.out
              have HSO := hide hso
              have q3 : (i : Int) * C' + j = (d : Int) := by have := hI3.out; omega
              clear hso hck
              go_wp2
              go_roundw
              case rel =>
                refine ⟨j + 1, by omega, by go_num, HSO.out.1, ?_, ?_, ?_, ?_, ?_⟩
                · exact hB0.out.grown HSO.out.2 (by first | (simp; done) | (simp; omega))
                · exact hB1.out.grown HSO.out.2 (by first | (simp; done) | (simp; omega))
                · exact hB2.out.grown HSO.out.2 (by first | (simp; done) | (simp; omega))
                · exact hB3.out.grown HSO.out.2 (by simp; omega)
                · exact hB.grown HSO.out.2 hB.size (fun j hj => by cases hj; omega)
              case measure => simp [intOf]; omega
        · have hjj : j = C' := by omega
          subst hjj
          have HO2 : Hid (Own wo (w.heap.size + 1 + 1 + 1) (.slice (some ⟨w.heap.size + 1 + 1 + 1 + 1, 0, none⟩) n n) (tab n (mulTo C j xs ys ((i + 1) * j)))) := by
            have h1 := HO.out
            rwa [show i * j + j = (i + 1) * j from by rw [Nat.add_mul, Nat.one_mul]] at h1
          clear HO
          go_wp2
          go_roundw
          case rel => exact ⟨i + 1, by omega, by go_num, HO2.out, hB0.out, hB1.out, hB2.out, hB3.out, hB⟩
          case measure => simp [intOf]; omega
    · have hii : i = R := by omega
      subst hii
      have HO2 : Hid (Own wo (w.heap.size + 1 + 1 + 1) (.slice (some ⟨w.heap.size + 1 + 1 + 1 + 1, 0, none⟩) n n) (mulL i C C' xs ys)) := by
        have h1 := HO.out
        rwa [HE.out, HSE.out] at h1
      clear HO
      have HO := HO2
      clear HO2
      have hz := hB.size
      obtain ⟨⟨c0, c1, c2⟩, _⟩ := hB3.out
      obtain ⟨⟨x0, x1, x2⟩, f0, f1, f2⟩ := hB2.out
      obtain ⟨⟨m0, m1, m2⟩, _⟩ := Box3.stored hB2.out (.int .i64 i) (.int .i64 C') (.slice (some ⟨w.heap.size + 1 + 1 + 1 + 1, 0, none⟩) n n)
      go_wp2
      exact bodyPost_ret (v := mv (i) (C') (.slice (some ⟨w.heap.size + 1 + 1 + 1 + 1, 0, none⟩) n n)) (by first | (simp [results, Try.results70, go_sem, m0, m1, m2]; done) | (simp [results, Try.results70, go_sem]; done)) rfl ⟨_, rfl, Own.mono (lo := w.heap.size + 1 + 1 + 1) (by repeat' (first | with_reducible exact HO.out | with_reducible assumption | (with_reducible refine Own.set ?_ (own_ne ?_) _) | (with_reducible refine Own.set ?_ (own_nl (by assumption) (by first | omega | (dsimp only; omega))) _) | (with_reducible refine Own.alloc ?_ _) | (with_reducible refine Own.drewN ?_ _) | omega | (dsimp only; omega))) (by omega), (by repeat' (first | exact Below.refl _ _ | (refine Below.alloc ?_ ?_ _) | (refine Below.setCell ?_ ?_ _) | (refine Below.drew ?_) | (refine below_drewN ?_ _) | (refine Below.trans ?_ (Below.mono (by assumption) ?_)) | omega | (simp only [World.size_alloc, World.size_setCell, World.size_drew, size_drewN]; omega)))⟩
set_option maxHeartbeats 4000000 in
theorem specMul_in (R C C' : Nat) (A B : Option Addr) (p q : Nat) (xs ys : List Int) (w : World) (hA : Sl w A xs.length p xs) (hB : Sl w B ys.length q ys) (hm : isMat R C xs = true) (hm' : isMat C C' ys = true) :
    Calls Try.prog 28 #[mv R C (.slice A xs.length p), mv C C' (.slice B ys.length q)] w (RetM w (mulRes R C xs C C' ys)) := by
  have m7 := (isMat_t hm).2.2.2.2.2.2
  have m7' := (isMat_t hm').2.2.2.2.2.2
  have m2 := (isMat_t hm).2.1
  have m4 := (isMat_t hm').2.2.2.1
  have hll : (mulL R C C' xs ys).length ≤ 1048576 := by
    have : R * C' ≤ 24 * 24 := Nat.mul_le_mul (by omega) (by omega)
    rw [mulL, ofM_length]; omega
  clear m2 m4
  have hin : mulIn R C xs C C' ys = true := by simp [mulIn, hm, hm']
  have hnat : mulRes (R : Int) C xs C C' ys = if (mulIn R C xs C C' ys && isMat R C' (mulL R C C' xs ys)) = true then ⟨R, C', mulL R C C' xs ys, true⟩ else .no := rfl
  have cl := fun A B p q w hA hB => specL3Mul R C C' A B p q xs ys w hA hB hm hm'
  have HA := hide hA; clear hA
  have HB := hide hB; clear hB
  rcases Bool.eq_false_or_eq_true (isMat R C' (mulL R C C' xs ys)) with hOK | hOK
  · have HR : Hid (mulRes R C xs C C' ys = ⟨R, C', mulL R C C' xs ys, true⟩) := by rw [Hid, hnat, if_pos (by simp [hin, hOK])]
    obtain ⟨L, hL⟩ : ∃ L, mulL R C C' xs ys = L := ⟨_, rfl⟩
    rw [hL] at cl hOK HR hll
    have CL := hide cl
    have e1 : ((C : Int) != (C : Int)) = false := by simp
    clear cl hL hin hnat
    rw [HR.out]
    go_enter Try.func28, Try.ntmps28
    go_wp2_with (first
      | (go_at_call_of 69 (Value.slice A xs.length p); refine (specIsMatrix R C A p xs _ (SlI.below HA.out.2.2.2.2 (by repeat' (first | exact Below.refl _ _ | (refine Below.alloc ?_ ?_ _) | (refine Below.setCell ?_ ?_ _) | (refine Below.drew ?_) | (refine below_drewN ?_ _) | (refine Below.trans ?_ (Below.mono (by assumption) ?_)) | omega | (simp only [World.size_alloc, World.size_setCell, World.size_drew, size_drewN]; omega)))) (by omega)).mono ?_; rintro e w1 ⟨rfl, hb⟩; obtain ⟨hc, hf⟩ := bcell hb; have hz := hb.size; (try simp only [World.size_alloc, World.size_setCell, World.size_drew, size_drewN] at hz); (first | have hs := up3 hz | have hs := up2 hz | have hs := up1 hz | have hs := up0 hz); (try have q10 := hs _ q9); (try have q9 := hs _ q8); (try have q8 := hs _ q7); (try have q7 := hs _ q6); (try have q6 := hs _ q5); (try have q5 := hs _ q4); (try have q4 := hs _ q3); (try have q3 := hs _ q2); (try have q2 := hs _ q1); (try have p7 := hs _ p6); (try have p6 := hs _ p5); (try have p5 := hs _ p4); (try have p4 := hs _ p3); (try have p3 := hs _ p2); (try have p2 := hs _ p1); (try have q1 := new1 hz); (try have p1 := new2 hz); (try have r1 := new3 hz))
      | (go_at_call 69; refine (specIsMatrix C C' B q ys _ (SlI.below HB.out.2.2.2.2 (by repeat' (first | exact Below.refl _ _ | (refine Below.alloc ?_ ?_ _) | (refine Below.setCell ?_ ?_ _) | (refine Below.drew ?_) | (refine below_drewN ?_ _) | (refine Below.trans ?_ (Below.mono (by assumption) ?_)) | omega | (simp only [World.size_alloc, World.size_setCell, World.size_drew, size_drewN]; omega)))) (by omega)).mono ?_; rintro e w2 ⟨rfl, hb⟩; obtain ⟨hc, hf⟩ := bcell hb; have hz := hb.size; (try simp only [World.size_alloc, World.size_setCell, World.size_drew, size_drewN] at hz); (first | have hs := up3 hz | have hs := up2 hz | have hs := up1 hz | have hs := up0 hz); (try have q10 := hs _ q9); (try have q9 := hs _ q8); (try have q8 := hs _ q7); (try have q7 := hs _ q6); (try have q6 := hs _ q5); (try have q5 := hs _ q4); (try have q4 := hs _ q3); (try have q3 := hs _ q2); (try have q2 := hs _ q1); (try have p7 := hs _ p6); (try have p6 := hs _ p5); (try have p5 := hs _ p4); (try have p4 := hs _ p3); (try have p3 := hs _ p2); (try have p2 := hs _ p1); (try have q1 := new1 hz); (try have p1 := new2 hz); (try have r1 := new3 hz))
      | (go_at_call 70; refine (CL.out A B p q _ (HA.out.below (by repeat' (first | exact Below.refl _ _ | (refine Below.alloc ?_ ?_ _) | (refine Below.setCell ?_ ?_ _) | (refine Below.drew ?_) | (refine below_drewN ?_ _) | (refine Below.trans ?_ (Below.mono (by assumption) ?_)) | omega | (simp only [World.size_alloc, World.size_setCell, World.size_drew, size_drewN]; omega)))) (HB.out.below (by repeat' (first | exact Below.refl _ _ | (refine Below.alloc ?_ ?_ _) | (refine Below.setCell ?_ ?_ _) | (refine Below.drew ?_) | (refine below_drewN ?_ _) | (refine Below.trans ?_ (Below.mono (by assumption) ?_)) | omega | (simp only [World.size_alloc, World.size_setCell, World.size_drew, size_drewN]; omega))))).mono ?_; rintro e w3 ⟨s, rfl, ho, hb⟩; obtain ⟨hc, hf⟩ := bcell hb; have hz := hb.size; (try simp only [World.size_alloc, World.size_setCell, World.size_drew, size_drewN] at hz); (first | have hs := up3 hz | have hs := up2 hz | have hs := up1 hz | have hs := up0 hz); (try have q10 := hs _ q9); (try have q9 := hs _ q8); (try have q8 := hs _ q7); (try have q7 := hs _ q6); (try have q6 := hs _ q5); (try have q5 := hs _ q4); (try have q4 := hs _ q3); (try have q3 := hs _ q2); (try have q2 := hs _ q1); (try have p7 := hs _ p6); (try have p6 := hs _ p5); (try have p5 := hs _ p4); (try have p4 := hs _ p3); (try have p3 := hs _ p2); (try have p2 := hs _ p1); (try have q1 := new1 hz); (try have p1 := new2 hz); (try have r1 := new3 hz); obtain ⟨A2, c2, rfl, _⟩ := Own.sl ho; have HO := hide ho; clear ho))
    refine (specDone_yes R C' A2 c2 L _ (Own.sl2 HO.out).2.2.2.2 hll hOK).mono ?_; rintro e w4 ⟨rfl, hb⟩
    have b2 : Box3 w4 (w.heap.size + 1 + 1) (.int .i64 0) (.int .i64 0) (.slice none 0 0) := (by repeat' (first | with_reducible assumption | (with_reducible refine Box3.set ?_ ?_ _) | (with_reducible refine Box3.drew ?_) | (with_reducible refine Box3.drewN ?_ _) | (with_reducible exact Box3.new _ _ _ (by first | rfl | (simp only [World.size_alloc]; done) | (simp only [World.size_alloc]; omega))) | (with_reducible refine Box3.alloc ?_ _) | (with_reducible refine Box3.call ?_ (by assumption)) | (with_reducible refine Box3.grown ?_ (by assumption) (by simp; omega)) | omega | (dsimp only; omega) | (simp only [World.size_alloc, World.size_setCell, World.size_drew, size_drewN]; omega)))
    obtain ⟨⟨x0, x1, x2⟩, f0, f1, f2⟩ := b2
    have p1 := Box3.lt (show Box3 w4 (w.heap.size + 1 + 1) (.int .i64 0) (.int .i64 0) (.slice none 0 0) from ⟨⟨x0, x1, x2⟩, f0, f1, f2⟩)
    have hz4 := hb.size
    go_wp2
    obtain ⟨⟨m0, m1, m2⟩, _⟩ := (Box3.stored (show Box3 w4 (w.heap.size + 1 + 1) (.int .i64 0) (.int .i64 0) (.slice none 0 0) from ⟨⟨x0, x1, x2⟩, f0, f1, f2⟩) (.int .i64 R) (.int .i64 C') (.slice A2 L.length c2)).alloc (.cells #[.int .i64 R, .int .i64 C', .slice A2 L.length c2] 28)
    have hl := Own.lt HO.out
    have ho3 := Own.below HO.out hb
    exact bodyPost_ret (v := .tuple #[mv (R) (C') (.slice A2 L.length c2), .bool true]) (by first | (simp [results, Try.results28, go_sem, m0, m1, m2]; done) | (simp [results, Try.results28, go_sem]; done)) rfl ⟨_, rfl, Own.mono (lo := w2.heap.size) (by repeat' (first | with_reducible exact HO.out | with_reducible assumption | (with_reducible refine Own.set ?_ (own_ne ?_) _) | (with_reducible refine Own.set ?_ (own_nl (by assumption) (by first | omega | (dsimp only; omega))) _) | (with_reducible refine Own.alloc ?_ _) | (with_reducible refine Own.drewN ?_ _) | omega | (dsimp only; omega))) (by omega), (by repeat' (first | exact Below.refl _ _ | (refine Below.alloc ?_ ?_ _) | (refine Below.setCell ?_ ?_ _) | (refine Below.drew ?_) | (refine below_drewN ?_ _) | (refine Below.trans ?_ (Below.mono (by assumption) ?_)) | omega | (simp only [World.size_alloc, World.size_setCell, World.size_drew, size_drewN]; omega)))⟩
  · have HR : Hid (mulRes R C xs C C' ys = .no) := by rw [Hid, hnat, if_neg (by simp [hOK])]
    obtain ⟨L, hL⟩ : ∃ L, mulL R C C' xs ys = L := ⟨_, rfl⟩
    rw [hL] at cl hOK hll
    have CL := hide cl
    have e1 : ((C : Int) != (C : Int)) = false := by simp
    clear cl hL hin hnat
    rw [HR.out]
    go_enter Try.func28, Try.ntmps28
    go_wp2_with (first
      | (go_at_call_of 69 (Value.slice A xs.length p); refine (specIsMatrix R C A p xs _ (SlI.below HA.out.2.2.2.2 (by repeat' (first | exact Below.refl _ _ | (refine Below.alloc ?_ ?_ _) | (refine Below.setCell ?_ ?_ _) | (refine Below.drew ?_) | (refine below_drewN ?_ _) | (refine Below.trans ?_ (Below.mono (by assumption) ?_)) | omega | (simp only [World.size_alloc, World.size_setCell, World.size_drew, size_drewN]; omega)))) (by omega)).mono ?_; rintro e w1 ⟨rfl, hb⟩; obtain ⟨hc, hf⟩ := bcell hb; have hz := hb.size; (try simp only [World.size_alloc, World.size_setCell, World.size_drew, size_drewN] at hz); (first | have hs := up3 hz | have hs := up2 hz | have hs := up1 hz | have hs := up0 hz); (try have q10 := hs _ q9); (try have q9 := hs _ q8); (try have q8 := hs _ q7); (try have q7 := hs _ q6); (try have q6 := hs _ q5); (try have q5 := hs _ q4); (try have q4 := hs _ q3); (try have q3 := hs _ q2); (try have q2 := hs _ q1); (try have p7 := hs _ p6); (try have p6 := hs _ p5); (try have p5 := hs _ p4); (try have p4 := hs _ p3); (try have p3 := hs _ p2); (try have p2 := hs _ p1); (try have q1 := new1 hz); (try have p1 := new2 hz); (try have r1 := new3 hz))
      | (go_at_call 69; refine (specIsMatrix C C' B q ys _ (SlI.below HB.out.2.2.2.2 (by repeat' (first | exact Below.refl _ _ | (refine Below.alloc ?_ ?_ _) | (refine Below.setCell ?_ ?_ _) | (refine Below.drew ?_) | (refine below_drewN ?_ _) | (refine Below.trans ?_ (Below.mono (by assumption) ?_)) | omega | (simp only [World.size_alloc, World.size_setCell, World.size_drew, size_drewN]; omega)))) (by omega)).mono ?_; rintro e w2 ⟨rfl, hb⟩; obtain ⟨hc, hf⟩ := bcell hb; have hz := hb.size; (try simp only [World.size_alloc, World.size_setCell, World.size_drew, size_drewN] at hz); (first | have hs := up3 hz | have hs := up2 hz | have hs := up1 hz | have hs := up0 hz); (try have q10 := hs _ q9); (try have q9 := hs _ q8); (try have q8 := hs _ q7); (try have q7 := hs _ q6); (try have q6 := hs _ q5); (try have q5 := hs _ q4); (try have q4 := hs _ q3); (try have q3 := hs _ q2); (try have q2 := hs _ q1); (try have p7 := hs _ p6); (try have p6 := hs _ p5); (try have p5 := hs _ p4); (try have p4 := hs _ p3); (try have p3 := hs _ p2); (try have p2 := hs _ p1); (try have q1 := new1 hz); (try have p1 := new2 hz); (try have r1 := new3 hz))
      | (go_at_call 70; refine (CL.out A B p q _ (HA.out.below (by repeat' (first | exact Below.refl _ _ | (refine Below.alloc ?_ ?_ _) | (refine Below.setCell ?_ ?_ _) | (refine Below.drew ?_) | (refine below_drewN ?_ _) | (refine Below.trans ?_ (Below.mono (by assumption) ?_)) | omega | (simp only [World.size_alloc, World.size_setCell, World.size_drew, size_drewN]; omega)))) (HB.out.below (by repeat' (first | exact Below.refl _ _ | (refine Below.alloc ?_ ?_ _) | (refine Below.setCell ?_ ?_ _) | (refine Below.drew ?_) | (refine below_drewN ?_ _) | (refine Below.trans ?_ (Below.mono (by assumption) ?_)) | omega | (simp only [World.size_alloc, World.size_setCell, World.size_drew, size_drewN]; omega))))).mono ?_; rintro e w3 ⟨s, rfl, ho, hb⟩; obtain ⟨hc, hf⟩ := bcell hb; have hz := hb.size; (try simp only [World.size_alloc, World.size_setCell, World.size_drew, size_drewN] at hz); (first | have hs := up3 hz | have hs := up2 hz | have hs := up1 hz | have hs := up0 hz); (try have q10 := hs _ q9); (try have q9 := hs _ q8); (try have q8 := hs _ q7); (try have q7 := hs _ q6); (try have q6 := hs _ q5); (try have q5 := hs _ q4); (try have q4 := hs _ q3); (try have q3 := hs _ q2); (try have q2 := hs _ q1); (try have p7 := hs _ p6); (try have p6 := hs _ p5); (try have p5 := hs _ p4); (try have p4 := hs _ p3); (try have p3 := hs _ p2); (try have p2 := hs _ p1); (try have q1 := new1 hz); (try have p1 := new2 hz); (try have r1 := new3 hz); obtain ⟨A2, c2, rfl, _⟩ := Own.sl ho; have HO := hide ho; clear ho))
    refine (specDone_no R C' A2 c2 L _ (Own.sl2 HO.out).2.2.2.2 hll hOK).mono ?_; rintro e w4 ⟨rfl, hb⟩
    have b2 : Box3 w4 (w.heap.size + 1 + 1) (.int .i64 0) (.int .i64 0) (.slice none 0 0) := (by repeat' (first | with_reducible assumption | (with_reducible refine Box3.set ?_ ?_ _) | (with_reducible refine Box3.drew ?_) | (with_reducible refine Box3.drewN ?_ _) | (with_reducible exact Box3.new _ _ _ (by first | rfl | (simp only [World.size_alloc]; done) | (simp only [World.size_alloc]; omega))) | (with_reducible refine Box3.alloc ?_ _) | (with_reducible refine Box3.call ?_ (by assumption)) | (with_reducible refine Box3.grown ?_ (by assumption) (by simp; omega)) | omega | (dsimp only; omega) | (simp only [World.size_alloc, World.size_setCell, World.size_drew, size_drewN]; omega)))
    obtain ⟨⟨x0, x1, x2⟩, f0, f1, f2⟩ := b2
    have p1 := Box3.lt (show Box3 w4 (w.heap.size + 1 + 1) (.int .i64 0) (.int .i64 0) (.slice none 0 0) from ⟨⟨x0, x1, x2⟩, f0, f1, f2⟩)
    have hz4 := hb.size
    go_wp2
    obtain ⟨⟨m0, m1, m2⟩, _⟩ := (Box3.stored (show Box3 w4 (w.heap.size + 1 + 1) (.int .i64 0) (.int .i64 0) (.slice none 0 0) from ⟨⟨x0, x1, x2⟩, f0, f1, f2⟩) (.int .i64 0) (.int .i64 0) (.slice none 0 0)).alloc (.cells #[.int .i64 0, .int .i64 0, .slice none 0 0] 28)
    exact bodyPost_ret (v := .tuple #[mv (0) (0) (.slice none 0 0), .bool false]) (by first | (simp [results, Try.results28, go_sem, m0, m1, m2]; done) | (simp [results, Try.results28, go_sem]; done)) rfl ⟨_, rfl, Own.nil _ _, (by repeat' (first | exact Below.refl _ _ | (refine Below.alloc ?_ ?_ _) | (refine Below.setCell ?_ ?_ _) | (refine Below.drew ?_) | (refine below_drewN ?_ _) | (refine Below.trans ?_ (Below.mono (by assumption) ?_)) | omega | (simp only [World.size_alloc, World.size_setCell, World.size_drew, size_drewN]; omega)))⟩
set_option maxHeartbeats 4000000 in
theorem specMul_out (r c r' c' : Int) (A B : Option Addr) (p q : Nat) (xs ys : List Int) (w : World) (hA : Sl w A xs.length p xs) (hn : xs.length ≤ 1048576) (hB : Sl w B ys.length q ys) (hn' : ys.length ≤ 1048576) (h : mulIn r c xs r' c' ys = false) :
    Calls Try.prog 28 #[mv r c (.slice A xs.length p), mv r' c' (.slice B ys.length q)] w (RetMat w 0 0 [] false) := by
  have HA := hide hA; clear hA
  have HB := hide hB; clear hB
  rcases Bool.eq_false_or_eq_true (isMat r c xs) with hm | hm
  · rcases Bool.eq_false_or_eq_true (isMat r' c' ys) with hm' | hm'
    · have hc : ¬ c = r' := fun e => by subst e; simp [mulIn, hm, hm'] at h
      have e2 : (c != r') = true := by simpa using hc
      clear h hc
      go_enter Try.func28, Try.ntmps28
      go_wp2_with (first
        | (go_at_call_of 69 (Value.slice A xs.length p); refine (specIsMatrix r c A p xs _ (SlI.below HA.out.2.2.2.2 (by repeat' (first | exact Below.refl _ _ | (refine Below.alloc ?_ ?_ _) | (refine Below.setCell ?_ ?_ _) | (refine Below.drew ?_) | (refine below_drewN ?_ _) | (refine Below.trans ?_ (Below.mono (by assumption) ?_)) | omega | (simp only [World.size_alloc, World.size_setCell, World.size_drew, size_drewN]; omega)))) (by omega)).mono ?_; rintro e w1 ⟨rfl, hb⟩; obtain ⟨hc, hf⟩ := bcell hb; have hz := hb.size; (try simp only [World.size_alloc, World.size_setCell, World.size_drew, size_drewN] at hz); (first | have hs := up3 hz | have hs := up2 hz | have hs := up1 hz | have hs := up0 hz); (try have q10 := hs _ q9); (try have q9 := hs _ q8); (try have q8 := hs _ q7); (try have q7 := hs _ q6); (try have q6 := hs _ q5); (try have q5 := hs _ q4); (try have q4 := hs _ q3); (try have q3 := hs _ q2); (try have q2 := hs _ q1); (try have p7 := hs _ p6); (try have p6 := hs _ p5); (try have p5 := hs _ p4); (try have p4 := hs _ p3); (try have p3 := hs _ p2); (try have p2 := hs _ p1); (try have q1 := new1 hz); (try have p1 := new2 hz); (try have r1 := new3 hz); obtain ⟨⟨x0, x1, x2⟩, f0, f1, f2⟩ := show Box3 w1 (w.heap.size + 1 + 1) (.int .i64 0) (.int .i64 0) (.slice none 0 0) from (by repeat' (first | with_reducible assumption | (with_reducible refine Box3.set ?_ ?_ _) | (with_reducible refine Box3.drew ?_) | (with_reducible refine Box3.drewN ?_ _) | (with_reducible exact Box3.new _ _ _ (by first | rfl | (simp only [World.size_alloc]; done) | (simp only [World.size_alloc]; omega))) | (with_reducible refine Box3.alloc ?_ _) | (with_reducible refine Box3.call ?_ (by assumption)) | (with_reducible refine Box3.grown ?_ (by assumption) (by simp; omega)) | omega | (dsimp only; omega) | (simp only [World.size_alloc, World.size_setCell, World.size_drew, size_drewN]; omega))))
        | (go_at_call 69; refine (specIsMatrix r' c' B q ys _ (SlI.below HB.out.2.2.2.2 (by repeat' (first | exact Below.refl _ _ | (refine Below.alloc ?_ ?_ _) | (refine Below.setCell ?_ ?_ _) | (refine Below.drew ?_) | (refine below_drewN ?_ _) | (refine Below.trans ?_ (Below.mono (by assumption) ?_)) | omega | (simp only [World.size_alloc, World.size_setCell, World.size_drew, size_drewN]; omega)))) (by omega)).mono ?_; rintro e w2 ⟨rfl, hb⟩; obtain ⟨hc, hf⟩ := bcell hb; have hz := hb.size; (try simp only [World.size_alloc, World.size_setCell, World.size_drew, size_drewN] at hz); (first | have hs := up3 hz | have hs := up2 hz | have hs := up1 hz | have hs := up0 hz); (try have q10 := hs _ q9); (try have q9 := hs _ q8); (try have q8 := hs _ q7); (try have q7 := hs _ q6); (try have q6 := hs _ q5); (try have q5 := hs _ q4); (try have q4 := hs _ q3); (try have q3 := hs _ q2); (try have q2 := hs _ q1); (try have p7 := hs _ p6); (try have p6 := hs _ p5); (try have p5 := hs _ p4); (try have p4 := hs _ p3); (try have p3 := hs _ p2); (try have p2 := hs _ p1); (try have q1 := new1 hz); (try have p1 := new2 hz); (try have r1 := new3 hz); clear x0 x1 x2 f0 f1 f2; obtain ⟨⟨x0, x1, x2⟩, f0, f1, f2⟩ := show Box3 w2 (w.heap.size + 1 + 1) (.int .i64 0) (.int .i64 0) (.slice none 0 0) from (by repeat' (first | with_reducible assumption | (with_reducible refine Box3.set ?_ ?_ _) | (with_reducible refine Box3.drew ?_) | (with_reducible refine Box3.drewN ?_ _) | (with_reducible exact Box3.new _ _ _ (by first | rfl | (simp only [World.size_alloc]; done) | (simp only [World.size_alloc]; omega))) | (with_reducible refine Box3.alloc ?_ _) | (with_reducible refine Box3.call ?_ (by assumption)) | (with_reducible refine Box3.grown ?_ (by assumption) (by simp; omega)) | omega | (dsimp only; omega) | (simp only [World.size_alloc, World.size_setCell, World.size_drew, size_drewN]; omega)))))
      obtain ⟨⟨m0, m1, m2⟩, _⟩ := Box3.stored (show Box3 w2 (w.heap.size + 1 + 1) (.int .i64 0) (.int .i64 0) (.slice none 0 0) from (by repeat' (first | with_reducible assumption | (with_reducible refine Box3.set ?_ ?_ _) | (with_reducible refine Box3.drew ?_) | (with_reducible refine Box3.drewN ?_ _) | (with_reducible exact Box3.new _ _ _ (by first | rfl | (simp only [World.size_alloc]; done) | (simp only [World.size_alloc]; omega))) | (with_reducible refine Box3.alloc ?_ _) | (with_reducible refine Box3.call ?_ (by assumption)) | (with_reducible refine Box3.grown ?_ (by assumption) (by simp; omega)) | omega | (dsimp only; omega) | (simp only [World.size_alloc, World.size_setCell, World.size_drew, size_drewN]; omega)))) (.int .i64 0) (.int .i64 0) (.slice none 0 0)
      exact bodyPost_ret (v := .tuple #[mv (0) (0) (.slice none 0 0), .bool false]) (by first | (simp [results, Try.results28, go_sem, m0, m1, m2]; done) | (simp [results, Try.results28, go_sem]; done)) rfl ⟨_, rfl, Own.nil _ _, (by repeat' (first | exact Below.refl _ _ | (refine Below.alloc ?_ ?_ _) | (refine Below.setCell ?_ ?_ _) | (refine Below.drew ?_) | (refine below_drewN ?_ _) | (refine Below.trans ?_ (Below.mono (by assumption) ?_)) | omega | (simp only [World.size_alloc, World.size_setCell, World.size_drew, size_drewN]; omega)))⟩
    · clear h
      go_enter Try.func28, Try.ntmps28
      go_wp2_with (first
        | (go_at_call_of 69 (Value.slice A xs.length p); refine (specIsMatrix r c A p xs _ (SlI.below HA.out.2.2.2.2 (by repeat' (first | exact Below.refl _ _ | (refine Below.alloc ?_ ?_ _) | (refine Below.setCell ?_ ?_ _) | (refine Below.drew ?_) | (refine below_drewN ?_ _) | (refine Below.trans ?_ (Below.mono (by assumption) ?_)) | omega | (simp only [World.size_alloc, World.size_setCell, World.size_drew, size_drewN]; omega)))) (by omega)).mono ?_; rintro e w1 ⟨rfl, hb⟩; obtain ⟨hc, hf⟩ := bcell hb; have hz := hb.size; (try simp only [World.size_alloc, World.size_setCell, World.size_drew, size_drewN] at hz); (first | have hs := up3 hz | have hs := up2 hz | have hs := up1 hz | have hs := up0 hz); (try have q10 := hs _ q9); (try have q9 := hs _ q8); (try have q8 := hs _ q7); (try have q7 := hs _ q6); (try have q6 := hs _ q5); (try have q5 := hs _ q4); (try have q4 := hs _ q3); (try have q3 := hs _ q2); (try have q2 := hs _ q1); (try have p7 := hs _ p6); (try have p6 := hs _ p5); (try have p5 := hs _ p4); (try have p4 := hs _ p3); (try have p3 := hs _ p2); (try have p2 := hs _ p1); (try have q1 := new1 hz); (try have p1 := new2 hz); (try have r1 := new3 hz); obtain ⟨⟨x0, x1, x2⟩, f0, f1, f2⟩ := show Box3 w1 (w.heap.size + 1 + 1) (.int .i64 0) (.int .i64 0) (.slice none 0 0) from (by repeat' (first | with_reducible assumption | (with_reducible refine Box3.set ?_ ?_ _) | (with_reducible refine Box3.drew ?_) | (with_reducible refine Box3.drewN ?_ _) | (with_reducible exact Box3.new _ _ _ (by first | rfl | (simp only [World.size_alloc]; done) | (simp only [World.size_alloc]; omega))) | (with_reducible refine Box3.alloc ?_ _) | (with_reducible refine Box3.call ?_ (by assumption)) | (with_reducible refine Box3.grown ?_ (by assumption) (by simp; omega)) | omega | (dsimp only; omega) | (simp only [World.size_alloc, World.size_setCell, World.size_drew, size_drewN]; omega))))
        | (go_at_call 69; refine (specIsMatrix r' c' B q ys _ (SlI.below HB.out.2.2.2.2 (by repeat' (first | exact Below.refl _ _ | (refine Below.alloc ?_ ?_ _) | (refine Below.setCell ?_ ?_ _) | (refine Below.drew ?_) | (refine below_drewN ?_ _) | (refine Below.trans ?_ (Below.mono (by assumption) ?_)) | omega | (simp only [World.size_alloc, World.size_setCell, World.size_drew, size_drewN]; omega)))) (by omega)).mono ?_; rintro e w2 ⟨rfl, hb⟩; obtain ⟨hc, hf⟩ := bcell hb; have hz := hb.size; (try simp only [World.size_alloc, World.size_setCell, World.size_drew, size_drewN] at hz); (first | have hs := up3 hz | have hs := up2 hz | have hs := up1 hz | have hs := up0 hz); (try have q10 := hs _ q9); (try have q9 := hs _ q8); (try have q8 := hs _ q7); (try have q7 := hs _ q6); (try have q6 := hs _ q5); (try have q5 := hs _ q4); (try have q4 := hs _ q3); (try have q3 := hs _ q2); (try have q2 := hs _ q1); (try have p7 := hs _ p6); (try have p6 := hs _ p5); (try have p5 := hs _ p4); (try have p4 := hs _ p3); (try have p3 := hs _ p2); (try have p2 := hs _ p1); (try have q1 := new1 hz); (try have p1 := new2 hz); (try have r1 := new3 hz); clear x0 x1 x2 f0 f1 f2; obtain ⟨⟨x0, x1, x2⟩, f0, f1, f2⟩ := show Box3 w2 (w.heap.size + 1 + 1) (.int .i64 0) (.int .i64 0) (.slice none 0 0) from (by repeat' (first | with_reducible assumption | (with_reducible refine Box3.set ?_ ?_ _) | (with_reducible refine Box3.drew ?_) | (with_reducible refine Box3.drewN ?_ _) | (with_reducible exact Box3.new _ _ _ (by first | rfl | (simp only [World.size_alloc]; done) | (simp only [World.size_alloc]; omega))) | (with_reducible refine Box3.alloc ?_ _) | (with_reducible refine Box3.call ?_ (by assumption)) | (with_reducible refine Box3.grown ?_ (by assumption) (by simp; omega)) | omega | (dsimp only; omega) | (simp only [World.size_alloc, World.size_setCell, World.size_drew, size_drewN]; omega)))))
      obtain ⟨⟨m0, m1, m2⟩, _⟩ := Box3.stored (show Box3 w2 (w.heap.size + 1 + 1) (.int .i64 0) (.int .i64 0) (.slice none 0 0) from (by repeat' (first | with_reducible assumption | (with_reducible refine Box3.set ?_ ?_ _) | (with_reducible refine Box3.drew ?_) | (with_reducible refine Box3.drewN ?_ _) | (with_reducible exact Box3.new _ _ _ (by first | rfl | (simp only [World.size_alloc]; done) | (simp only [World.size_alloc]; omega))) | (with_reducible refine Box3.alloc ?_ _) | (with_reducible refine Box3.call ?_ (by assumption)) | (with_reducible refine Box3.grown ?_ (by assumption) (by simp; omega)) | omega | (dsimp only; omega) | (simp only [World.size_alloc, World.size_setCell, World.size_drew, size_drewN]; omega)))) (.int .i64 0) (.int .i64 0) (.slice none 0 0)
      exact bodyPost_ret (v := .tuple #[mv (0) (0) (.slice none 0 0), .bool false]) (by first | (simp [results, Try.results28, go_sem, m0, m1, m2]; done) | (simp [results, Try.results28, go_sem]; done)) rfl ⟨_, rfl, Own.nil _ _, (by repeat' (first | exact Below.refl _ _ | (refine Below.alloc ?_ ?_ _) | (refine Below.setCell ?_ ?_ _) | (refine Below.drew ?_) | (refine below_drewN ?_ _) | (refine Below.trans ?_ (Below.mono (by assumption) ?_)) | omega | (simp only [World.size_alloc, World.size_setCell, World.size_drew, size_drewN]; omega)))⟩
  · clear h
    go_enter Try.func28, Try.ntmps28
    go_wp2_with (first
      | (go_at_call_of 69 (Value.slice A xs.length p); refine (specIsMatrix r c A p xs _ (SlI.below HA.out.2.2.2.2 (by repeat' (first | exact Below.refl _ _ | (refine Below.alloc ?_ ?_ _) | (refine Below.setCell ?_ ?_ _) | (refine Below.drew ?_) | (refine below_drewN ?_ _) | (refine Below.trans ?_ (Below.mono (by assumption) ?_)) | omega | (simp only [World.size_alloc, World.size_setCell, World.size_drew, size_drewN]; omega)))) (by omega)).mono ?_; rintro e w1 ⟨rfl, hb⟩; obtain ⟨hc, hf⟩ := bcell hb; have hz := hb.size; (try simp only [World.size_alloc, World.size_setCell, World.size_drew, size_drewN] at hz); (first | have hs := up3 hz | have hs := up2 hz | have hs := up1 hz | have hs := up0 hz); (try have q10 := hs _ q9); (try have q9 := hs _ q8); (try have q8 := hs _ q7); (try have q7 := hs _ q6); (try have q6 := hs _ q5); (try have q5 := hs _ q4); (try have q4 := hs _ q3); (try have q3 := hs _ q2); (try have q2 := hs _ q1); (try have p7 := hs _ p6); (try have p6 := hs _ p5); (try have p5 := hs _ p4); (try have p4 := hs _ p3); (try have p3 := hs _ p2); (try have p2 := hs _ p1); (try have q1 := new1 hz); (try have p1 := new2 hz); (try have r1 := new3 hz); obtain ⟨⟨x0, x1, x2⟩, f0, f1, f2⟩ := show Box3 w1 (w.heap.size + 1 + 1) (.int .i64 0) (.int .i64 0) (.slice none 0 0) from (by repeat' (first | with_reducible assumption | (with_reducible refine Box3.set ?_ ?_ _) | (with_reducible refine Box3.drew ?_) | (with_reducible refine Box3.drewN ?_ _) | (with_reducible exact Box3.new _ _ _ (by first | rfl | (simp only [World.size_alloc]; done) | (simp only [World.size_alloc]; omega))) | (with_reducible refine Box3.alloc ?_ _) | (with_reducible refine Box3.call ?_ (by assumption)) | (with_reducible refine Box3.grown ?_ (by assumption) (by simp; omega)) | omega | (dsimp only; omega) | (simp only [World.size_alloc, World.size_setCell, World.size_drew, size_drewN]; omega)))))
    obtain ⟨⟨m0, m1, m2⟩, _⟩ := Box3.stored (show Box3 w1 (w.heap.size + 1 + 1) (.int .i64 0) (.int .i64 0) (.slice none 0 0) from (by repeat' (first | with_reducible assumption | (with_reducible refine Box3.set ?_ ?_ _) | (with_reducible refine Box3.drew ?_) | (with_reducible refine Box3.drewN ?_ _) | (with_reducible exact Box3.new _ _ _ (by first | rfl | (simp only [World.size_alloc]; done) | (simp only [World.size_alloc]; omega))) | (with_reducible refine Box3.alloc ?_ _) | (with_reducible refine Box3.call ?_ (by assumption)) | (with_reducible refine Box3.grown ?_ (by assumption) (by simp; omega)) | omega | (dsimp only; omega) | (simp only [World.size_alloc, World.size_setCell, World.size_drew, size_drewN]; omega)))) (.int .i64 0) (.int .i64 0) (.slice none 0 0)
    exact bodyPost_ret (v := .tuple #[mv (0) (0) (.slice none 0 0), .bool false]) (by first | (simp [results, Try.results28, go_sem, m0, m1, m2]; done) | (simp [results, Try.results28, go_sem]; done)) rfl ⟨_, rfl, Own.nil _ _, (by repeat' (first | exact Below.refl _ _ | (refine Below.alloc ?_ ?_ _) | (refine Below.setCell ?_ ?_ _) | (refine Below.drew ?_) | (refine below_drewN ?_ _) | (refine Below.trans ?_ (Below.mono (by assumption) ?_)) | omega | (simp only [World.size_alloc, World.size_setCell, World.size_drew, size_drewN]; omega)))⟩
theorem specMul (r c r' c' : Int) (A B : Option Addr) (p q : Nat) (xs ys : List Int) (w : World) (hA : Sl w A xs.length p xs) (hn : xs.length ≤ 1048576) (hB : Sl w B ys.length q ys) (hn' : ys.length ≤ 1048576) :
    Calls Try.prog 28 #[mv r c (.slice A xs.length p), mv r' c' (.slice B ys.length q)] w (RetM w (mulRes r c xs r' c' ys)) := by
  rcases Bool.eq_false_or_eq_true (mulIn r c xs r' c' ys) with h | h
  · simp only [mulIn, Bool.and_eq_true, decide_eq_true_eq] at h
    obtain ⟨⟨h1, h2⟩, rfl⟩ := h
    obtain ⟨R, rfl⟩ := Int.eq_ofNat_of_zero_le (isMat_t h1).1
    obtain ⟨C, rfl⟩ := Int.eq_ofNat_of_zero_le (isMat_t h1).2.2.1
    obtain ⟨C', rfl⟩ := Int.eq_ofNat_of_zero_le (isMat_t h2).2.2.1
    exact specMul_in R C C' A B p q xs ys w hA hB h1 h2
  · rw [show mulRes r c xs r' c' ys = .no from by rw [mulRes, if_neg (by simp [h])]]
    exact specMul_out r c r' c' A B p q xs ys w hA hn hB hn' h
end Go.Proofs.Ytchlaebkigmfgaa
