/- The walks of TransposeOf. -/
import Derived.Test.YtchlaebkigmfgaaIsMatW
import Derived.Test.YtchlaebkigmfgaaNewW
import Derived.Test.YtchlaebkigmfgaaAppS
import Derived.Test.YtchlaebkigmfgaaCellW
import Derived.Test.YtchlaebkigmfgaaBox
import Derived.Test.YtchlaebkigmfgaaKeepB
import Derived.Test.YtchlaebkigmfgaaKeepG
import Derived.Test.YtchlaebkigmfgaaTab
import Derived.Test.YtchlaebkigmfgaaRes
import Derived.Deep.RegionHeld3
import Derived.Deep.DeepCutAuto
import Derived.IntWalk
namespace Go.Proofs.Ytchlaebkigmfgaa
open Go.RowKit
set_option linter.unusedSimpArgs false
set_option linter.unusedVariables false

def turnedAt (C : Nat) (xs : List Int) (k j i q : Nat) : Int := if i < k ∨ (i = k ∧ q < j) then xs.getD (i * C + q) 0 else 0
def turned (R C : Nat) (xs : List Int) (k j : Nat) : Nat → Int := fun p => turnedAt C xs k j (p % R) (p / R)
theorem turned_start (R C : Nat) (xs : List Int) : List.replicate (C * R) 0 = tab (C * R) (turned R C xs 0 0) := by
  rw [tab_zeros]
  exact tab_congr fun p hp => by simp [turned, turnedAt]
theorem turned_step {R C : Nat} {xs : List Int} {k j : Nat} (hk : k < R) (hj : j < C) : (tab (C * R) (turned R C xs k j)).set (j * R + k) (xs.getD (k * C + j) 0) = tab (C * R) (turned R C xs k (j + 1)) := by
  refine tab_set (fun _ => ?_) (fun p hp hne => ?_)
  · simp only [turned, ix_div hk, ix_mod hk, turnedAt]
    exact if_pos (.inr ⟨trivial, by omega⟩)
  · have h := ix_of hp
    have hne2 : ¬ (p % R = k ∧ p / R = j) := fun e => hne (by rw [← h.2.2, e.1, e.2])
    simp only [turned]
    generalize p % R = i at *
    generalize p / R = q at *
    simp only [turnedAt]
    by_cases h1 : i < k ∨ (i = k ∧ q < j)
    · rw [if_pos h1, if_pos (by omega)]
    · rw [if_neg h1, if_neg (by omega)]
theorem turned_row {R C : Nat} {xs : List Int} {k : Nat} : tab (C * R) (turned R C xs k C) = tab (C * R) (turned R C xs (k + 1) 0) := by
  refine tab_congr fun p hp => ?_
  have h := (ix_of hp).1
  simp only [turned]
  generalize p % R = i at *
  generalize p / R = q at *
  simp only [turnedAt]
  by_cases h1 : i < k + 1
  · rw [if_pos (by omega), if_pos (by omega)]
  · rw [if_neg (by omega), if_neg (by omega)]
theorem turned_end {R C : Nat} {xs : List Int} : tab (C * R) (turned R C xs R 0) = ofM C R (Det.tr (toM C xs)) := by
  refine tab_congr fun p hp => ?_
  have h := ix_of hp
  simp only [turned, turnedAt, Det.tr, toM]
  rw [if_pos (.inl h.2.1)]
def trRes (r c : Int) (xs : List Int) : MRes := if isMat r c xs = true then ⟨c, r, ofM c.toNat r.toNat (Det.tr (toM c.toNat xs)), true⟩ else .no
theorem trRes_yes {R C : Nat} {xs : List Int} (h : isMat R C xs = true) : trRes R C xs = ⟨C, R, tab (C * R) (turned R C xs R 0), true⟩ := by
  rw [trRes, if_pos h, turned_end]; rfl
theorem trRes_no {r c : Int} {xs : List Int} (h : isMat r c xs = false) : trRes r c xs = .no := by rw [trRes, if_neg (by simp [h])]

theorem TransposeOf_len {r c : Int} {xs : List Int} : (trRes r c xs).L.length ≤ 1048576 := by
  unfold trRes
  split
  · rename_i h
    obtain ⟨h1, h2, h3, h4, _⟩ := isMat_t h
    have : c.toNat * r.toNat ≤ 24 * 24 := Nat.mul_le_mul (by omega) (by omega)
    rw [ofM_length]; omega
  · exact Nat.zero_le _
set_option maxHeartbeats 4000000 in
theorem implTurn_yes (R C : Nat) (A : Option Addr) (cap : Nat) (xs : List Int) (w : World) (hA : Sl w A xs.length cap xs) (hm : isMat R C xs = true) :
    Calls Try.prog 32 #[mv R C (.slice A xs.length cap)] w (RetMat w C R (tab (C * R) (turned R C xs R 0)) true) := by
  obtain ⟨m1, m2, m3, m4, m5, _, m7⟩ := isMat_t hm
  have HA := hide hA; clear hA
  have HR : R ≤ 24 := by omega
  have HC : C ≤ 24 := by omega
  have hcr : C * R ≤ 576 := Nat.mul_le_mul HC HR
  have hlx : xs.length = R * C := by have : (xs.length : Int) = ((R * C : Nat) : Int) := by rw [m5]; push_cast; rfl
                                     omega
  have HL := hide hlx
  have HN : Hid ((C : Int) * R = ((C * R : Nat) : Int)) := by simp [Hid]
  clear m5 hlx
  obtain ⟨n, hn⟩ : ∃ n, C * R = n := ⟨_, rfl⟩
  rw [hn] at HN hcr
  have HE := hide hn; clear hn
  have hS0 := hide (turned_start R C xs)
  have hEnd : Hid (tab (C * R) (turned R C xs R 0) = tab n (turned R C xs R 0)) := by rw [Hid, HE.out]
  rw [hEnd.out]
  go_enter Try.func32, Try.ntmps32
  go_wp2_with (first
    | (go_at_call 67; refine (implIsMatrix R C A cap xs _ (SlI.below HA.out.2.2.2.2 (by repeat' (first | exact Below.refl _ _ | (refine Below.alloc ?_ ?_ _) | (refine Below.setCell ?_ ?_ _) | (refine Below.drew ?_) | (refine below_drewN ?_ _) | (refine Below.trans ?_ (Below.mono (by assumption) ?_)) | omega | (simp only [World.size_alloc, World.size_setCell, World.size_drew, size_drewN]; omega)))) (by omega)).mono ?_; rintro e w1 ⟨rfl, hb⟩; obtain ⟨hc, hf⟩ := bcell hb; have hz := hb.size; (try simp only [World.size_alloc, World.size_setCell, World.size_drew, size_drewN] at hz); (first | have hs := up3 hz | have hs := up2 hz | have hs := up1 hz | have hs := up0 hz); (try have q10 := hs _ q9); (try have q9 := hs _ q8); (try have q8 := hs _ q7); (try have q7 := hs _ q6); (try have q6 := hs _ q5); (try have q5 := hs _ q4); (try have q4 := hs _ q3); (try have q3 := hs _ q2); (try have q2 := hs _ q1); (try have p7 := hs _ p6); (try have p6 := hs _ p5); (try have p5 := hs _ p4); (try have p4 := hs _ p3); (try have p3 := hs _ p2); (try have p2 := hs _ p1); (try have q1 := new1 hz); (try have p1 := new2 hz); (try have r1 := new3 hz))
    | (go_at_call 60; refine (implNewMatrix C R n _ HN (by omega)).mono ?_; rintro e w2 ⟨rfl, ho, hb⟩; obtain ⟨hc, hf⟩ := bcell hb; have hz := hb.size; (try simp only [World.size_alloc, World.size_setCell, World.size_drew, size_drewN] at hz); (first | have hs := up3 hz | have hs := up2 hz | have hs := up1 hz | have hs := up0 hz); (try have q10 := hs _ q9); (try have q9 := hs _ q8); (try have q8 := hs _ q7); (try have q7 := hs _ q6); (try have q6 := hs _ q5); (try have q5 := hs _ q4); (try have q4 := hs _ q3); (try have q3 := hs _ q2); (try have q2 := hs _ q1); (try have p7 := hs _ p6); (try have p6 := hs _ p5); (try have p5 := hs _ p4); (try have p4 := hs _ p3); (try have p3 := hs _ p2); (try have p2 := hs _ p1); (try have q1 := new1 hz); (try have p1 := new2 hz); (try have r1 := new3 hz); (try simp only [World.size_alloc, World.size_setCell, World.size_drew, size_drewN] at ho)))
  have hg0 : w1.heap.size + 1 < w2.heap.size := (Own.lt ho _ rfl).2
  have hs1 : w.heap.size + 1 < w1.heap.size := by omega
  go_loopw [5] (fun i wr => ∃ k : Nat, k ≤ R ∧ i = .int .i64 k ∧ Own wr w1.heap.size (.slice (some ⟨w1.heap.size + 1, 0, none⟩) n n) (tab n (turned R C xs k 0)) ∧
      Box3 wr w.heap.size (.int .i64 R) (.int .i64 C) (.slice A xs.length cap) ∧ Box3 wr (w.heap.size + 1) (.int .i64 0) (.int .i64 0) (.slice none 0 0) ∧
      Box3 wr w2.heap.size (.int .i64 C) (.int .i64 R) (.slice (some ⟨w1.heap.size + 1, 0, none⟩) n n) ∧ Below w.heap.size w wr) (fun i _ => R - (intOf i).toNat)
  case atStart =>
    refine ⟨0, Nat.zero_le _, rfl, ?_, ?_, ?_, ?_, ?_⟩
    · rw [← HE.out, ← hS0.out, HE.out]
      exact (by repeat' (first | with_reducible exact HO.out | with_reducible assumption | (with_reducible refine Own.set ?_ (own_ne ?_) _) | (with_reducible refine Own.set ?_ (own_nl (by assumption) (by first | omega | (dsimp only; omega))) _) | (with_reducible refine Own.alloc ?_ _) | (with_reducible refine Own.drewN ?_ _) | omega | (dsimp only; omega)))
    · exact (by repeat' (first | with_reducible assumption | (with_reducible refine Box3.set ?_ ?_ _) | (with_reducible refine Box3.drew ?_) | (with_reducible refine Box3.drewN ?_ _) | (with_reducible exact Box3.new _ _ _ (by first | rfl | (simp only [World.size_alloc]; done) | (simp only [World.size_alloc]; omega))) | (with_reducible refine Box3.alloc ?_ _) | (with_reducible refine Box3.call ?_ (by assumption)) | (with_reducible refine Box3.grown ?_ (by assumption) (by simp; omega)) | omega | (dsimp only; omega) | (simp only [World.size_alloc, World.size_setCell, World.size_drew, size_drewN]; omega)))
    · exact (by repeat' (first | with_reducible assumption | (with_reducible refine Box3.set ?_ ?_ _) | (with_reducible refine Box3.drew ?_) | (with_reducible refine Box3.drewN ?_ _) | (with_reducible exact Box3.new _ _ _ (by first | rfl | (simp only [World.size_alloc]; done) | (simp only [World.size_alloc]; omega))) | (with_reducible refine Box3.alloc ?_ _) | (with_reducible refine Box3.call ?_ (by assumption)) | (with_reducible refine Box3.grown ?_ (by assumption) (by simp; omega)) | omega | (dsimp only; omega) | (simp only [World.size_alloc, World.size_setCell, World.size_drew, size_drewN]; omega)))
    · exact (by repeat' (first | with_reducible assumption | (with_reducible refine Box3.set ?_ ?_ _) | (with_reducible refine Box3.drew ?_) | (with_reducible refine Box3.drewN ?_ _) | (with_reducible exact Box3.new _ _ _ (by first | rfl | (simp only [World.size_alloc]; done) | (simp only [World.size_alloc]; omega))) | (with_reducible refine Box3.alloc ?_ _) | (with_reducible refine Box3.call ?_ (by assumption)) | (with_reducible refine Box3.grown ?_ (by assumption) (by simp; omega)) | omega | (dsimp only; omega) | (simp only [World.size_alloc, World.size_setCell, World.size_drew, size_drewN]; omega)))
    · exact (by repeat' (first | exact Below.refl _ _ | (refine Below.alloc ?_ ?_ _) | (refine Below.setCell ?_ ?_ _) | (refine Below.drew ?_) | (refine below_drewN ?_ _) | (refine Below.trans ?_ (Below.mono (by assumption) ?_)) | omega | (simp only [World.size_alloc, World.size_setCell, World.size_drew, size_drewN]; omega)))
  case round =>
    obtain ⟨k, hk, rfl, ho, b1, b2, b3, hB⟩ := hrel
    obtain ⟨wo, rfl⟩ : ∃ wo : World, wo = wr := ⟨_, rfl⟩
    have hB1 := hide b1
    have hB2 := hide b2
    have hB3 := hide b3
    obtain ⟨⟨a0, a1, a2⟩, _⟩ := b1
    have HO := hide ho; clear ho b2 b3
    by_cases hlt : k < R
    · go_wp2
      go_loopw [6] (fun j wr => ∃ q : Nat, q ≤ C ∧ j = .int .i64 q ∧ Own wr w1.heap.size (.slice (some ⟨w1.heap.size + 1, 0, none⟩) n n) (tab n (turned R C xs k q)) ∧
          Box3 wr w.heap.size (.int .i64 R) (.int .i64 C) (.slice A xs.length cap) ∧ Box3 wr (w.heap.size + 1) (.int .i64 0) (.int .i64 0) (.slice none 0 0) ∧
          Box3 wr w2.heap.size (.int .i64 C) (.int .i64 R) (.slice (some ⟨w1.heap.size + 1, 0, none⟩) n n) ∧ Below w.heap.size w wr) (fun j _ => C - (intOf j).toNat)
      case atStart => exact ⟨0, Nat.zero_le _, rfl, HO.out, hB1.out, hB2.out, hB3.out, hB⟩
      case round =>
        clear hB1 hB2 hB3 a0 a1 a2 HO hB
        obtain ⟨q, hq, rfl, ho, b1, b2, b3, hB⟩ := hrel
        have hB1 := hide b1
        have hB2 := hide b2
        have hB3 := hide b3
        obtain ⟨⟨a0, a1, a2⟩, _⟩ := b1
        obtain ⟨⟨d0, d1, d2⟩, _⟩ := b3
        have HO := hide ho; clear ho b2
        by_cases hlq : q < C
        · have hd : q * R + k < n := by rw [← HE.out]; exact ix_lt hlq hlt
          have he : k * C + q < xs.length := by rw [HL.out]; exact ix_lt hlt hlq
          have hst := hide (turned_step (xs := xs) hlt hlq)
          obtain ⟨x, hx⟩ : ∃ x, xs.getD (k * C + q) 0 = x := ⟨_, rfl⟩
          have HX := hide hx
          have HST : Hid ((tab n (turned R C xs k q)).set (q * R + k) x = tab n (turned R C xs k (q + 1))) := by have := hst.out; rw [HE.out, hx] at this; exact this
          clear hst hx
          have hI1 : Hid ((k : Int) * C = ((k * C + q : Nat) : Int) - q) := by rw [Hid]; push_cast; omega
          have hI2 : Hid ((q : Int) * R = ((q * R + k : Nat) : Int) - k) := by rw [Hid]; push_cast; omega
          have h10 : 0 ≤ (k : Int) * C := Int.mul_nonneg (by omega) (by omega)
          have h11 : (k : Int) * C ≤ 1048576 := by have := hI1.out; omega
          have h20 : 0 ≤ (q : Int) * R := Int.mul_nonneg (by omega) (by omega)
          have h21 : (q : Int) * R ≤ 1048576 := by have := hI2.out; omega
          obtain ⟨d, hdd⟩ : ∃ d, q * R + k = d := ⟨_, rfl⟩
          obtain ⟨e, hee⟩ : ∃ e, k * C + q = e := ⟨_, rfl⟩
          rw [hdd] at hd hI2 HST
          rw [hee] at he hI1 HX
          clear hdd hee
          go_wp2
          go_region_held3 (fun w' => w'.cell? ⟨w.heap.size, 0, none⟩ = some (.int .i64 R) ∧ w'.cell? ⟨w.heap.size, 1, none⟩ = some (.int .i64 C) ∧ w'.cell? ⟨w.heap.size, 2, none⟩ = some (.slice A xs.length cap) ∧ w'.cell? ⟨w2.heap.size, 0, none⟩ = some (.int .i64 C) ∧ w'.cell? ⟨w2.heap.size, 1, none⟩ = some (.int .i64 R) ∧ w'.cell? ⟨w2.heap.size, 2, none⟩ = some (.slice (some ⟨w1.heap.size + 1, 0, none⟩) n n) ∧ Below w.heap.size w w')
            (first
              | exact kc6_drew (by assumption)
              | exact kc6_call (by assumption) (by assumption)
              | exact kc6_grown (by assumption) (by omega) (by refine ⟨?_, ?_, ?_, ?_, ?_, ?_⟩ <;> (dsimp only; omega)) (by assumption)
              | (refine ⟨?_, ?_, ?_, ?_, ?_, ?_, ?_⟩ <;> first | assumption | (go_simp; done) | exact (by repeat' (first | exact Below.refl _ _ | (refine Below.alloc ?_ ?_ _) | (refine Below.setCell ?_ ?_ _) | (refine Below.drew ?_) | (refine below_drewN ?_ _) | (refine Below.trans ?_ (Below.mono (by assumption) ?_)) | omega | (simp only [World.size_alloc, World.size_setCell, World.size_drew, size_drewN]; omega)))))
            (first
              | (go_at_call 52; refine (implAt R C k q e x A cap xs _ (SlI.below HA.out.2.2.2.2 (by repeat' (first | exact Below.refl _ _ | (refine Below.alloc ?_ ?_ _) | (refine Below.setCell ?_ ?_ _) | (refine Below.drew ?_) | (refine below_drewN ?_ _) | (refine Below.trans ?_ (Below.mono (by assumption) ?_)) | omega | (simp only [World.size_alloc, World.size_setCell, World.size_drew, size_drewN]; omega)))) (by omega) hI1 he HX h10 h11 (by omega) (by omega)).mono ?_; rintro e w3 ⟨rfl, hb⟩)
              | (go_at_call 55; refine (implSetTab C R q k x d (w1.heap.size + 1) n n w1.heap.size (turned R C xs k q) (turned R C xs k (q + 1)) _ (Own.below HO.out (by repeat' (first | exact Below.refl _ _ | (refine Below.alloc ?_ ?_ _) | (refine Below.setCell ?_ ?_ _) | (refine Below.drew ?_) | (refine below_drewN ?_ _) | (refine Below.trans ?_ (Below.mono (by assumption) ?_)) | omega | (simp only [World.size_alloc, World.size_setCell, World.size_drew, size_drewN]; omega)))) (by omega) hI2 hd HST h20 h21 (by omega) (by omega)).mono ?_; rintro e w4 ⟨rfl, ho, hg⟩))
          have HO2 := hide ho; clear ho
          have k1 := hB1.out
          have k2 := hB2.out
          have k3 := hB3.out
          have n1 : Box3 w4 w.heap.size (.int .i64 R) (.int .i64 C) (.slice A xs.length cap) := (by repeat' (first | with_reducible assumption | (with_reducible refine Box3.set ?_ ?_ _) | (with_reducible refine Box3.drew ?_) | (with_reducible refine Box3.drewN ?_ _) | (with_reducible exact Box3.new _ _ _ (by first | rfl | (simp only [World.size_alloc]; done) | (simp only [World.size_alloc]; omega))) | (with_reducible refine Box3.alloc ?_ _) | (with_reducible refine Box3.call ?_ (by assumption)) | (with_reducible refine Box3.grown ?_ (by assumption) (by simp; omega)) | omega | (dsimp only; omega) | (simp only [World.size_alloc, World.size_setCell, World.size_drew, size_drewN]; omega)))
          have n2 : Box3 w4 (w.heap.size + 1) (.int .i64 0) (.int .i64 0) (.slice none 0 0) := (by repeat' (first | with_reducible assumption | (with_reducible refine Box3.set ?_ ?_ _) | (with_reducible refine Box3.drew ?_) | (with_reducible refine Box3.drewN ?_ _) | (with_reducible exact Box3.new _ _ _ (by first | rfl | (simp only [World.size_alloc]; done) | (simp only [World.size_alloc]; omega))) | (with_reducible refine Box3.alloc ?_ _) | (with_reducible refine Box3.call ?_ (by assumption)) | (with_reducible refine Box3.grown ?_ (by assumption) (by simp; omega)) | omega | (dsimp only; omega) | (simp only [World.size_alloc, World.size_setCell, World.size_drew, size_drewN]; omega)))
          have n3 : Box3 w4 w2.heap.size (.int .i64 C) (.int .i64 R) (.slice (some ⟨w1.heap.size + 1, 0, none⟩) n n) := (by repeat' (first | with_reducible assumption | (with_reducible refine Box3.set ?_ ?_ _) | (with_reducible refine Box3.drew ?_) | (with_reducible refine Box3.drewN ?_ _) | (with_reducible exact Box3.new _ _ _ (by first | rfl | (simp only [World.size_alloc]; done) | (simp only [World.size_alloc]; omega))) | (with_reducible refine Box3.alloc ?_ _) | (with_reducible refine Box3.call ?_ (by assumption)) | (with_reducible refine Box3.grown ?_ (by assumption) (by simp; omega)) | omega | (dsimp only; omega) | (simp only [World.size_alloc, World.size_setCell, World.size_drew, size_drewN]; omega)))
          have hB4 : Below w.heap.size w w4 := ‹_ ∧ _ ∧ _ ∧ _ ∧ _ ∧ _ ∧ Below w.heap.size w w4›.2.2.2.2.2.2
          clear k1 k2 k3
          go_wp2
          go_roundw
          case rel => exact ⟨q + 1, by omega, by go_num, HO2.out, n1, n2, n3, hB4⟩
          case measure => simp [intOf]; omega
        · have hqq : q = C := by omega
          subst hqq
          have HO2 : Hid (Own wr w1.heap.size (.slice (some ⟨w1.heap.size + 1, 0, none⟩) n n) (tab n (turned R q xs (k + 1) 0))) := by
            have h1 := HO.out
            have h2 := turned_row (R := R) (C := q) (xs := xs) (k := k)
            rw [HE.out] at h2
            rw [h2] at h1
            exact h1
          clear HO
          go_wp2
          go_roundw
          case rel => exact ⟨k + 1, by omega, by go_num, HO2.out, hB1.out, hB2.out, hB3.out, hB⟩
          case measure => simp [intOf]; omega
    · have hkk : k = R := by omega
      subst hkk
      obtain ⟨⟨r0, r1, r2⟩, f0, f1, f2⟩ := hB2.out
      obtain ⟨⟨d0, d1, d2⟩, _⟩ := hB3.out
      obtain ⟨⟨m0, m1, m2⟩, _⟩ := Box3.stored hB2.out (.int .i64 C) (.int .i64 k) (.slice (some ⟨w1.heap.size + 1, 0, none⟩) n n)
      go_wp2
      exact bodyPost_ret (v := .tuple #[mv (C) (k) (.slice (some ⟨w1.heap.size + 1, 0, none⟩) n n), .bool true]) (by first | (simp [results, Try.results32, go_sem, m0, m1, m2]; done) | (simp [results, Try.results32, go_sem]; done)) rfl ⟨_, rfl, Own.mono (lo := w1.heap.size) (by repeat' (first | with_reducible exact HO.out | with_reducible assumption | (with_reducible refine Own.set ?_ (own_ne ?_) _) | (with_reducible refine Own.set ?_ (own_nl (by assumption) (by first | omega | (dsimp only; omega))) _) | (with_reducible refine Own.alloc ?_ _) | (with_reducible refine Own.drewN ?_ _) | omega | (dsimp only; omega))) (by omega), (by repeat' (first | exact Below.refl _ _ | (refine Below.alloc ?_ ?_ _) | (refine Below.setCell ?_ ?_ _) | (refine Below.drew ?_) | (refine below_drewN ?_ _) | (refine Below.trans ?_ (Below.mono (by assumption) ?_)) | omega | (simp only [World.size_alloc, World.size_setCell, World.size_drew, size_drewN]; omega)))⟩
theorem implTurn_no (r c : Int) (A : Option Addr) (cap : Nat) (xs : List Int) (w : World) (hA : Sl w A xs.length cap xs) (hn : xs.length ≤ 1048576) (hm : isMat r c xs = false) :
    Calls Try.prog 32 #[mv r c (.slice A xs.length cap)] w (RetMat w 0 0 [] false) := by
  have HA := hide hA; clear hA
  go_enter Try.func32, Try.ntmps32
  go_wp2_with ((go_at_call 67; refine (implIsMatrix r c A cap xs _ (SlI.below HA.out.2.2.2.2 (by repeat' (first | exact Below.refl _ _ | (refine Below.alloc ?_ ?_ _) | (refine Below.setCell ?_ ?_ _) | (refine Below.drew ?_) | (refine below_drewN ?_ _) | (refine Below.trans ?_ (Below.mono (by assumption) ?_)) | omega | (simp only [World.size_alloc, World.size_setCell, World.size_drew, size_drewN]; omega)))) (by omega)).mono ?_; rintro e w1 ⟨rfl, hb⟩; obtain ⟨hc, hf⟩ := bcell hb; have hz := hb.size; (try simp only [World.size_alloc, World.size_setCell, World.size_drew, size_drewN] at hz); (first | have hs := up3 hz | have hs := up2 hz | have hs := up1 hz | have hs := up0 hz); (try have q10 := hs _ q9); (try have q9 := hs _ q8); (try have q8 := hs _ q7); (try have q7 := hs _ q6); (try have q6 := hs _ q5); (try have q5 := hs _ q4); (try have q4 := hs _ q3); (try have q3 := hs _ q2); (try have q2 := hs _ q1); (try have p7 := hs _ p6); (try have p6 := hs _ p5); (try have p5 := hs _ p4); (try have p4 := hs _ p3); (try have p3 := hs _ p2); (try have p2 := hs _ p1); (try have q1 := new1 hz); (try have p1 := new2 hz); (try have r1 := new3 hz)))
  have bx : Box3 w1 (w.heap.size + 1) (.int .i64 0) (.int .i64 0) (.slice none 0 0) := (by repeat' (first | with_reducible assumption | (with_reducible refine Box3.set ?_ ?_ _) | (with_reducible refine Box3.drew ?_) | (with_reducible refine Box3.drewN ?_ _) | (with_reducible exact Box3.new _ _ _ (by first | rfl | (simp only [World.size_alloc]; done) | (simp only [World.size_alloc]; omega))) | (with_reducible refine Box3.alloc ?_ _) | (with_reducible refine Box3.call ?_ (by assumption)) | (with_reducible refine Box3.grown ?_ (by assumption) (by simp; omega)) | omega | (dsimp only; omega) | (simp only [World.size_alloc, World.size_setCell, World.size_drew, size_drewN]; omega)))
  obtain ⟨⟨m0, m1, m2⟩, _⟩ := Box3.stored bx (.int .i64 0) (.int .i64 0) (.slice none 0 0)
  exact bodyPost_ret (v := .tuple #[mv (0) (0) (.slice none 0 0), .bool false]) (by first | (simp [results, Try.results32, go_sem, m0, m1, m2]; done) | (simp [results, Try.results32, go_sem]; done)) rfl ⟨_, rfl, Own.nil _ _, (by repeat' (first | exact Below.refl _ _ | (refine Below.alloc ?_ ?_ _) | (refine Below.setCell ?_ ?_ _) | (refine Below.drew ?_) | (refine below_drewN ?_ _) | (refine Below.trans ?_ (Below.mono (by assumption) ?_)) | omega | (simp only [World.size_alloc, World.size_setCell, World.size_drew, size_drewN]; omega)))⟩
theorem implTurn (r c : Int) (A : Option Addr) (cap : Nat) (xs : List Int) (w : World) (hA : Sl w A xs.length cap xs) (hn : xs.length ≤ 1048576) :
    Calls Try.prog 32 #[mv r c (.slice A xs.length cap)] w (RetM w (trRes r c xs)) := by
  rcases Bool.eq_false_or_eq_true (isMat r c xs) with hm | hm
  · obtain ⟨h1, _, h3, _⟩ := isMat_t hm
    obtain ⟨R, rfl⟩ := Int.eq_ofNat_of_zero_le h1
    obtain ⟨C, rfl⟩ := Int.eq_ofNat_of_zero_le h3
    rw [trRes_yes hm]
    exact implTurn_yes R C A cap xs w hA hm
  · rw [trRes_no hm]
    exact implTurn_no r c A cap xs w hA hn hm
end Go.Proofs.Ytchlaebkigmfgaa
