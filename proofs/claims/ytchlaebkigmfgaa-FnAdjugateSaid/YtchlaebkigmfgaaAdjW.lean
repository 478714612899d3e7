/- The walks of AdjugateOf. -/
import Derived.Test.YtchlaebkigmfgaaDetF
import Derived.Test.YtchlaebkigmfgaaTurnW
import Derived.Test.YtchlaebkigmfgaaCopyW
namespace Go.Proofs.Ytchlaebkigmfgaa
open Go.RowKit
set_option linter.unusedSimpArgs false
set_option linter.unusedVariables false

/-- The determinant without row i and column j. -/
def mdet (n : Nat) (xs : List Int) (i j : Nat) : Option Int := detL (n - 1) (crossL n n i j xs)
def adjB (n : Nat) (xs : List Int) : Bool := decide (∀ i, i < n → ∀ j, j < n → (mdet n xs i j).isSome = true)
/-- The cells, one by one, as the program and as the reference store them. -/
def adjV (n : Nat) (xs : List Int) : List Int := ofM n n fun i j => Det.sgn (i + j) * (mdet n xs i j).getD 0
def adjS (n : Nat) (xs : List Int) : List Int := ofM n n fun i j => match mdet n xs i j with
  | none => badN
  | some d => Det.sgn (i + j) * d
def adjL (n : Nat) (xs : List Int) : List Int := ofM n n (Det.tr (toM n (adjV n xs)))
def adjRes (r c : Int) (xs : List Int) : MRes := if (isSq r c xs && adjB r.toNat xs) = true then ⟨r, c, adjL r.toNat xs, true⟩ else .no
theorem adjB_t {n : Nat} {xs : List Int} (h : adjB n xs = true) {i j : Nat} (hi : i < n) (hj : j < n) : ∃ d, mdet n xs i j = some d := by
  simp only [adjB, decide_eq_true_eq] at h
  exact Option.isSome_iff_exists.1 (h i hi j hj)
theorem adjB_mk {n : Nat} {xs : List Int} (h : ∀ i j, i < n → j < n → mdet n xs i j ≠ none) : adjB n xs = true := by
  simp only [adjB, decide_eq_true_eq]
  intro i hi j hj
  exact Option.isSome_iff_ne_none.2 (h i j hi hj)
theorem adjB_no {n : Nat} {xs : List Int} {i j : Nat} (hi : i < n) (hj : j < n) (h : mdet n xs i j = none) : adjB n xs = false := by
  rcases Bool.eq_false_or_eq_true (adjB n xs) with e | e
  · obtain ⟨d, hd⟩ := adjB_t e hi hj
    rw [h] at hd; cases hd
  · exact e
theorem adjS_eq {n : Nat} {xs : List Int} (h : adjB n xs = true) : adjS n xs = adjV n xs :=
  ofM_congr fun i j hi hj => by
    obtain ⟨d, hd⟩ := adjB_t h hi hj
    rw [hd]; rfl
theorem sgn_num {k : Nat} {d : Int} (h : isNum d = true) : isNum (Det.sgn k * d) = true := by
  have := isNum_t h
  unfold Det.sgn
  split
  · rw [Int.one_mul]; exact h
  · rw [Int.neg_mul, Int.one_mul]; exact isNum_mk (by omega)
theorem adjV_num {n : Nat} {xs : List Int} {i j : Nat} (hi : i < n) (hj : j < n) : isNum (toM n (adjV n xs) i j) = true := by
  rw [adjV, toM_ofM _ hi hj]
  cases h : mdet n xs i j with
  | none => simp [isNum]
  | some d => exact sgn_num (detO_num h)
theorem adjL_num (n : Nat) (xs : List Int) : (adjL n xs).all isNum = true := by
  rw [adjL, ofM, tab_all]
  intro p hp
  have h := ix_of hp
  exact adjV_num h.2.1 h.1
theorem adjS_bad {n : Nat} {xs : List Int} (h : adjB n xs = false) : (ofM n n (Det.tr (toM n (adjS n xs)))).all isNum = false := by
  rcases Bool.eq_false_or_eq_true ((ofM n n (Det.tr (toM n (adjS n xs)))).all isNum) with e | e
  · exfalso
    have : adjB n xs = true := adjB_mk fun i j hi hj hn => by
      rw [ofM, tab_all] at e
      have h1 := e (j * n + i) (ix_lt hj hi)
      rw [ix_div hi, ix_mod hi, Det.tr, adjS, toM_ofM _ hi hj, hn, badN_no] at h1
      cases h1
    rw [this] at h; cases h
  · exact e
theorem adj_at {n : Nat} {xs : List Int} {i j : Nat} (hi : i < n) (hj : j < n) {d : Int} (h : mdet n xs i j = some d) : (adjV n xs).getD (i * n + j) 0 = Det.sgn (i + j) * d := by
  have := toM_ofM (r := n) (c := n) (fun i j => Det.sgn (i + j) * (mdet n xs i j).getD 0) hi hj
  rw [toM] at this
  rw [adjV, this, h]; rfl
theorem adjS_at {n : Nat} {xs : List Int} {i j : Nat} (hi : i < n) (hj : j < n) : (adjS n xs).getD (i * n + j) 0 = match mdet n xs i j with
  | none => badN
  | some d => Det.sgn (i + j) * d := by
  have := toM_ofM (r := n) (c := n) (fun i j => match mdet n xs i j with
    | none => badN
    | some d => Det.sgn (i + j) * d) hi hj
  rw [toM] at this
  rw [adjS, this]
theorem isMat_sq {n : Nat} {L : List Int} (hn : n ≤ 6) (hl : L.length = n * n) : isMat n n L = L.all isNum := by
  rw [← isMat_in]
  refine ⟨by omega, by omega, by omega, by omega, ?_⟩
  rw [hl]; push_cast; rfl
theorem AdjugateOf_len {r c : Int} {xs : List Int} : (adjRes r c xs).L.length ≤ 1048576 := by
  unfold adjRes
  split
  · rename_i h
    simp only [Bool.and_eq_true] at h
    obtain ⟨n, rfl, rfl, h6, _⟩ := isSq_t h.1
    show (adjL n xs).length ≤ 1048576
    rw [adjL, ofM_length]
    have : n * n ≤ 6 * 6 := Nat.mul_le_mul h6 h6
    omega
  · exact Nat.zero_le _
theorem mdet_len {n i j : Nat} {xs : List Int} : (crossL n n i j xs).length = (n - 1) * (n - 1) := by rw [crossL, ofM_length]
theorem mdet_num {n i j : Nat} {xs : List Int} (hx : xs.all isNum = true) (hl : xs.length = n * n) (hi : i < n) (hj : j < n) : (crossL n n i j xs).all isNum = true := by
  cases n with
  | zero => omega
  | succ n => exact crossL_num hx hl hi hj
theorem implCrossAt (n i j : Nat) (A : Option Addr) (cap : Nat) (xs : List Int) (w : World) (hA : Sl w A xs.length cap xs) (hlx : xs.length = n * n) (hn : n ≤ 6) (hi : i < n) (hj : j < n) :
    Calls Try.prog 61 #[mv (n : Int) (n : Int) (.slice A xs.length cap), .int .i64 (i : Int), .int .i64 (j : Int)] w (RetM3 w ((n - 1 : Nat) : Int) ((n - 1 : Nat) : Int) (crossL n n i j xs)) := by
  have h := implCrossIn n n i j A cap xs w hA hlx (by omega) (by omega) hi hj
  rwa [show (n : Int) - 1 = ((n - 1 : Nat) : Int) from by omega] at h
set_option maxHeartbeats 8000000 in
theorem implAdj_yes (n : Nat) (A : Option Addr) (cap : Nat) (xs : List Int) (w : World) (hA : Sl w A xs.length cap xs) (h6 : n ≤ 6) (hl : xs.length = n * n) (hx : xs.all isNum = true) (hn : xs.length ≤ 1048576) (hq : isSq n n xs = true) :
    Calls Try.prog 21 #[mv n n (.slice A xs.length cap)] w (RetM w (adjRes n n xs)) := by
  have HA := hide hA; clear hA
  have CT := hide (fun i j A cap w (h : Sl w A xs.length cap xs) hi hj => implCrossAt n i j A cap xs w h hl h6 hi hj)
  have CN := hide (fun i j (hi : i < n) (hj : j < n) => mdet_num hx hl hi hj)
  have HN : Hid ((n : Int) * n = ((n * n : Nat) : Int)) := by simp [Hid]
  have hcr : n * n ≤ 36 := Nat.mul_le_mul h6 h6
  have HR1 : Hid (adjB n xs = true → adjRes n n xs = ⟨n, n, tab (n * n) (turned n n (adjV n xs) n 0), true⟩) := fun h => by
    rw [adjRes, if_pos (by rw [hq]; simpa using h), turned_end]; rfl
  have HR0 : Hid (adjB n xs = false → adjRes n n xs = .no) := fun h => by
    rw [adjRes, if_neg (by simpa using fun _ => h)]
  have HS0 := hide (turned_start n n (adjV n xs))
  have HST : Hid (∀ i j, i < n → j < n → ∀ d, mdet n xs i j = some d → (tab (n * n) (turned n n (adjV n xs) i j)).set (j * n + i) (Det.sgn (i + j) * d) = tab (n * n) (turned n n (adjV n xs) i (j + 1))) := fun i j hi hj d hd => by
    rw [← adj_at hi hj hd]; exact turned_step hi hj
  have HTR : Hid (∀ i, tab (n * n) (turned n n (adjV n xs) i n) = tab (n * n) (turned n n (adjV n xs) (i + 1) 0)) := fun i => turned_row
  have HIX : Hid (∀ i j, i < n → j < n → j * n + i < n * n) := fun i j hi hj => ix_lt hj hi
  obtain ⟨V, hV⟩ : ∃ V, adjV n xs = V := ⟨_, rfl⟩
  rw [hV] at HR1 HS0 HST HTR
  obtain ⟨N, hNN⟩ : ∃ N, n * n = N := ⟨_, rfl⟩
  rw [hNN] at HN hcr HR1 HS0 HST HTR HIX
  have HL := hide hl
  have HQ := hide hq
  clear hV hNN hl hx hq
  generalize adjRes n n xs = M at *
  go_enter Try.func21, Try.ntmps21
  have eq1 := HQ.out
  go_wp2_with (first
    | (go_at_call 43; refine (implIsSquare n n A cap xs _ (SlI.below HA.out.2.2.2.2 (by repeat' (first | exact Below.refl _ _ | (refine Below.alloc ?_ ?_ _) | (refine Below.setCell ?_ ?_ _) | (refine Below.drew ?_) | (refine below_drewN ?_ _) | (refine Below.trans ?_ (Below.mono (by assumption) ?_)) | omega | (simp only [World.size_alloc, World.size_setCell, World.size_drew, size_drewN]; omega)))) (by omega)).mono ?_; rintro e w1 ⟨rfl, hb⟩; obtain ⟨hc, hf⟩ := bcell hb; have hz := hb.size; (try simp only [World.size_alloc, World.size_setCell, World.size_drew, size_drewN] at hz); (first | have hs := up3 hz | have hs := up2 hz | have hs := up1 hz | have hs := up0 hz); (try have q10 := hs _ q9); (try have q9 := hs _ q8); (try have q8 := hs _ q7); (try have q7 := hs _ q6); (try have q6 := hs _ q5); (try have q5 := hs _ q4); (try have q4 := hs _ q3); (try have q3 := hs _ q2); (try have q2 := hs _ q1); (try have p7 := hs _ p6); (try have p6 := hs _ p5); (try have p5 := hs _ p4); (try have p4 := hs _ p3); (try have p3 := hs _ p2); (try have p2 := hs _ p1); (try have q1 := new1 hz); (try have p1 := new2 hz); (try have r1 := new3 hz))
    | (go_at_call 60; refine (implNewMatrix n n N _ HN (by omega)).mono ?_; rintro e w2 ⟨rfl, ho, hb⟩; obtain ⟨hc, hf⟩ := bcell hb; have hz := hb.size; (try simp only [World.size_alloc, World.size_setCell, World.size_drew, size_drewN] at hz); (first | have hs := up3 hz | have hs := up2 hz | have hs := up1 hz | have hs := up0 hz); (try have q10 := hs _ q9); (try have q9 := hs _ q8); (try have q8 := hs _ q7); (try have q7 := hs _ q6); (try have q6 := hs _ q5); (try have q5 := hs _ q4); (try have q4 := hs _ q3); (try have q3 := hs _ q2); (try have q2 := hs _ q1); (try have p7 := hs _ p6); (try have p6 := hs _ p5); (try have p5 := hs _ p4); (try have p4 := hs _ p3); (try have p3 := hs _ p2); (try have p2 := hs _ p1); (try have q1 := new1 hz); (try have p1 := new2 hz); (try have r1 := new3 hz); (try simp only [World.size_alloc, World.size_setCell, World.size_drew, size_drewN] at ho)))
  have hg0 : w1.heap.size + 1 < w2.heap.size := (Own.lt ho _ rfl).2
  have hs1 : w.heap.size + 1 < w1.heap.size := by omega
  clear eq1
  go_loopw [5] (fun i wr => ∃ k : Nat, k ≤ n ∧ i = .int .i64 k ∧ Hid (∀ i j, i < n → j < n → i < k → mdet n xs i j ≠ none) ∧ Own wr w1.heap.size (.slice (some ⟨w1.heap.size + 1, 0, none⟩) N N) (tab N (turned n n V k 0)) ∧
      Box3 wr w.heap.size (.int .i64 n) (.int .i64 n) (.slice A xs.length cap) ∧ Box3 wr (w.heap.size + 1) (.int .i64 0) (.int .i64 0) (.slice none 0 0) ∧
      Box3 wr w2.heap.size (.int .i64 n) (.int .i64 n) (.slice (some ⟨w1.heap.size + 1, 0, none⟩) N N) ∧ Below w.heap.size w wr) (fun i _ => n - (intOf i).toNat)
  case atStart =>
    refine ⟨0, Nat.zero_le _, rfl, fun i j _ _ h => by omega, ?_, ?_, ?_, ?_, ?_⟩
    · rw [← HS0.out]
      exact (by repeat' (first | with_reducible exact HO.out | with_reducible assumption | (with_reducible refine Own.set ?_ (own_ne ?_) _) | (with_reducible refine Own.set ?_ (own_nl (by assumption) (by first | omega | (dsimp only; omega))) _) | (with_reducible refine Own.alloc ?_ _) | (with_reducible refine Own.drewN ?_ _) | omega | (dsimp only; omega)))
    · exact (by repeat' (first | with_reducible assumption | (with_reducible refine Box3.set ?_ ?_ _) | (with_reducible refine Box3.drew ?_) | (with_reducible refine Box3.drewN ?_ _) | (with_reducible exact Box3.new _ _ _ (by first | rfl | (simp only [World.size_alloc]; done) | (simp only [World.size_alloc]; omega))) | (with_reducible refine Box3.alloc ?_ _) | (with_reducible refine Box3.call ?_ (by assumption)) | (with_reducible refine Box3.grown ?_ (by assumption) (by simp; omega)) | omega | (dsimp only; omega) | (simp only [World.size_alloc, World.size_setCell, World.size_drew, size_drewN]; omega)))
    · exact (by repeat' (first | with_reducible assumption | (with_reducible refine Box3.set ?_ ?_ _) | (with_reducible refine Box3.drew ?_) | (with_reducible refine Box3.drewN ?_ _) | (with_reducible exact Box3.new _ _ _ (by first | rfl | (simp only [World.size_alloc]; done) | (simp only [World.size_alloc]; omega))) | (with_reducible refine Box3.alloc ?_ _) | (with_reducible refine Box3.call ?_ (by assumption)) | (with_reducible refine Box3.grown ?_ (by assumption) (by simp; omega)) | omega | (dsimp only; omega) | (simp only [World.size_alloc, World.size_setCell, World.size_drew, size_drewN]; omega)))
    · exact (by repeat' (first | with_reducible assumption | (with_reducible refine Box3.set ?_ ?_ _) | (with_reducible refine Box3.drew ?_) | (with_reducible refine Box3.drewN ?_ _) | (with_reducible exact Box3.new _ _ _ (by first | rfl | (simp only [World.size_alloc]; done) | (simp only [World.size_alloc]; omega))) | (with_reducible refine Box3.alloc ?_ _) | (with_reducible refine Box3.call ?_ (by assumption)) | (with_reducible refine Box3.grown ?_ (by assumption) (by simp; omega)) | omega | (dsimp only; omega) | (simp only [World.size_alloc, World.size_setCell, World.size_drew, size_drewN]; omega)))
    · exact (by repeat' (first | exact Below.refl _ _ | (refine Below.alloc ?_ ?_ _) | (refine Below.setCell ?_ ?_ _) | (refine Below.drew ?_) | (refine below_drewN ?_ _) | (refine Below.trans ?_ (Below.mono (by assumption) ?_)) | omega | (simp only [World.size_alloc, World.size_setCell, World.size_drew, size_drewN]; omega)))
  case round =>
    obtain ⟨k, hk, rfl, hall, ho, b1, b2, b3, hB⟩ := hrel
    obtain ⟨wo, rfl⟩ : ∃ wo : World, wo = wr := ⟨_, rfl⟩
    have hB1 := hide b1
    have hB2 := hide b2
    have hB3 := hide b3
    obtain ⟨⟨a0, a1, a2⟩, _⟩ := b1
    have HO := hide ho; clear ho b2 b3
    by_cases hlt : k < n
    · go_wp2
      go_loopw [6] (fun j wr => ∃ q : Nat, q ≤ n ∧ j = .int .i64 q ∧ Hid (∀ j, j < q → mdet n xs k j ≠ none) ∧ Own wr w1.heap.size (.slice (some ⟨w1.heap.size + 1, 0, none⟩) N N) (tab N (turned n n V k q)) ∧
          Box3 wr w.heap.size (.int .i64 n) (.int .i64 n) (.slice A xs.length cap) ∧ Box3 wr (w.heap.size + 1) (.int .i64 0) (.int .i64 0) (.slice none 0 0) ∧
          Box3 wr w2.heap.size (.int .i64 n) (.int .i64 n) (.slice (some ⟨w1.heap.size + 1, 0, none⟩) N N) ∧ Below w.heap.size w wr) (fun j _ => n - (intOf j).toNat)
      case atStart => exact ⟨0, Nat.zero_le _, rfl, fun j h => by omega, HO.out, hB1.out, hB2.out, hB3.out, hB⟩
      case round =>
        clear hB1 hB2 hB3 a0 a1 a2 HO hB
        obtain ⟨q, hq, rfl, hrow, ho, b1, b2, b3, hB⟩ := hrel
        obtain ⟨wo, rfl⟩ : ∃ wo : World, wo = wr := ⟨_, rfl⟩
        have hB1 := hide b1
        have hB2 := hide b2
        have hB3 := hide b3
        have HB := hide hB
        obtain ⟨⟨a0, a1, a2⟩, _⟩ := b1
        have HO := hide ho; clear ho b2 b3 hB
        by_cases hlq : q < n
        · have HA1 := hide (HA.out.below HB.out)
          have hlen := hide (@mdet_len n k q xs)
          have hnum := hide (CN.out k q hlt hlq)
          obtain ⟨L, hL⟩ : ∃ L, crossL n n k q xs = L := ⟨_, rfl⟩
          have CTk := hide (CT.out k q A cap wo HA1.out hlt hlq)
          have hmd : mdet n xs k q = detL (n - 1) L := by rw [mdet, hL]
          rw [hL] at hlen hnum CTk
          have HMD := hide hmd
          clear hL hmd
          go_wp2_with fail
          refine CTk.out.mono ?_; rintro e w3 ⟨s2, rfl, ho2, hb⟩
          obtain ⟨A2, z2, rfl, hs2⟩ := Own.full ho2
          have ihd := implDet (n - 1) A2 z2 L w3 hs2 hlen.out (by omega) hnum.out
          have k1 := hide (hB1.out.call hb)
          have k2 := hide (hB2.out.call hb)
          have k3 := hide (hB3.out.call hb)
          have kO := hide (HO.out.below hb)
          have HB3 := hide (kb_call HB.out (Nat.le_refl _) hb)
          clear hb ho2 hs2 hB1 hB2 hB3 HO HB HA1 CTk a0 a1 a2
          cases hd : detL (n - 1) L with
          | none =>
            rw [hd] at ihd
            have IHD := hide ihd
            have HF : Hid (M = .no) := HR0.out (adjB_no hlt hlq (HMD.out.trans hd))
            clear ihd hd
            go_wp2_with fail
            refine IHD.out.mono ?_; rintro e w4 hr; obtain ⟨⟨v, rfl⟩, hb⟩ := retDet_no hr; clear hr
            have g2 := hide (k2.out.call hb)
            have HB4 := hide (kb_call HB3.out (Nat.le_refl _) hb)
            clear hb
            obtain ⟨⟨r0, r1, r2⟩, f0, f1, f2⟩ := g2.out
            obtain ⟨⟨m0, m1, m2⟩, _⟩ := Box3.stored g2.out (.int .i64 0) (.int .i64 0) (.slice none 0 0)
            go_wp2
            exact bodyPost_ret (v := .tuple #[mv (0) (0) (.slice none 0 0), .bool false]) (by first | (simp [results, Try.results21, go_sem, m0, m1, m2]; done) | (simp [results, Try.results21, go_sem]; done)) rfl (by rw [HF.out]; exact ⟨_, rfl, Own.nil _ _, ((HB4.out.setCell (by dsimp only; omega) _).setCell (by dsimp only; omega) _).setCell (by dsimp only; omega) _⟩)
          | some d =>
            rw [hd] at ihd
            have IHD := hide ihd
            have hdn := isNum_t (detO_num hd)
            have hst := hide (HST.out k q hlt hlq d (HMD.out.trans hd))
            have HSM : Hid (mdet n xs k q ≠ none) := by rw [Hid, HMD.out, hd]; simp
            clear ihd hd
            go_wp2_with fail
            refine IHD.out.mono ?_; rintro e w4 hr; obtain ⟨rfl, hb⟩ := retDet_yes hr; clear hr
            have g1 := hide (k1.out.call hb)
            have g2 := hide (k2.out.call hb)
            have g3 := hide (k3.out.call hb)
            have gO := hide (kO.out.below hb)
            have HB4 := hide (kb_call HB3.out (Nat.le_refl _) hb)
            clear hb k1 k2 k3 kO HB3
            obtain ⟨⟨d0, d1, d2⟩, _⟩ := g3.out
            have hdx := HIX.out k q hlt hlq
            have hI2 : Hid ((q : Int) * n = ((q * n + k : Nat) : Int) - k) := by rw [Hid]; push_cast; omega
            have h20 : 0 ≤ (q : Int) * n := Int.mul_nonneg (by omega) (by omega)
            have h21 : (q : Int) * n ≤ 1048576 := by have := hI2.out; omega
            obtain ⟨dd, hdd⟩ : ∃ dd, q * n + k = dd := ⟨_, rfl⟩
            rw [hdd] at hdx hI2 hst
            clear hdd
            have hrow' : Hid (∀ j, j < q + 1 → mdet n xs k j ≠ none) := fun j hj => by
              by_cases e : j = q
              · subst e; exact HSM.out
              · exact hrow.out j (by omega)
            by_cases hp : (k + q) % 2 = 1
            · have hpb : (((k : Int) + (q : Int)) % 2 == 1) = true := by simp; omega
              have hsg : Det.sgn (k + q) * d = -d := by rw [Det.sgn, if_neg (by omega), Int.neg_mul, Int.one_mul]
              rw [hsg] at hst
              clear hp hsg
              go_wp2_with (go_at_call 55; refine (implSetTab n n q k (-d) dd (w1.heap.size + 1) N N w1.heap.size (turned n n V k q) (turned n n V k (q + 1)) _ gO.out (by omega) hI2 hdx hst h20 h21 (by omega) (by omega)).mono ?_; rintro e w5 ⟨rfl, ho, hg⟩)
              have n1 := hide (g1.out.grown hg (by simp; omega))
              have n2 := hide (g2.out.grown hg (by simp; omega))
              have n3 := hide (g3.out.grown hg (by simp; omega))
              have nO := hide ho
              have HB5 := hide (HB4.out.grown hg HB4.out.size (fun j hj => by cases hj; omega))
              clear ho hg
              go_wp2
              go_roundw
              case rel => exact ⟨q + 1, by omega, by go_num, hrow', nO.out, n1.out, n2.out, n3.out, HB5.out⟩
              case measure => simp [intOf]; omega
            · have hpb : (((k : Int) + (q : Int)) % 2 == 1) = false := by simp; omega
              have hsg : Det.sgn (k + q) * d = d := by rw [Det.sgn, if_pos (by omega), Int.one_mul]
              rw [hsg] at hst
              clear hp hsg
              go_wp2_with (go_at_call 55; refine (implSetTab n n q k d dd (w1.heap.size + 1) N N w1.heap.size (turned n n V k q) (turned n n V k (q + 1)) _ gO.out (by omega) hI2 hdx hst h20 h21 (by omega) (by omega)).mono ?_; rintro e w5 ⟨rfl, ho, hg⟩)
              have n1 := hide (g1.out.grown hg (by simp; omega))
              have n2 := hide (g2.out.grown hg (by simp; omega))
              have n3 := hide (g3.out.grown hg (by simp; omega))
              have nO := hide ho
              have HB5 := hide (HB4.out.grown hg HB4.out.size (fun j hj => by cases hj; omega))
              clear ho hg
              go_wp2
              go_roundw
              case rel => exact ⟨q + 1, by omega, by go_num, hrow', nO.out, n1.out, n2.out, n3.out, HB5.out⟩
              case measure => simp [intOf]; omega
        · have hqq : q = n := by omega
          have HO2 : Hid (Own wo w1.heap.size (.slice (some ⟨w1.heap.size + 1, 0, none⟩) N N) (tab N (turned n n V (k + 1) 0))) := by
            have h1 := HO.out
            rw [hqq, HTR.out k] at h1
            exact h1
          have hall' : Hid (∀ i j, i < n → j < n → i < k + 1 → mdet n xs i j ≠ none) := fun i j hi hj h => by
            by_cases e : i = k
            · subst e; exact hrow.out j (by omega)
            · exact hall.out i j hi hj (by omega)
          subst hqq
          clear HO
          go_wp2
          go_roundw
          case rel => exact ⟨k + 1, by omega, by go_num, hall', HO2.out, hB1.out, hB2.out, hB3.out, HB.out⟩
          case measure => simp [intOf]; omega
    · have hkk : k = n := by omega
      have HF : Hid (M = ⟨n, n, tab N (turned n n V n 0), true⟩) := HR1.out (adjB_mk fun i j hi hj => hall.out i j hi hj (by omega))
      subst hkk
      obtain ⟨⟨r0, r1, r2⟩, f0, f1, f2⟩ := hB2.out
      obtain ⟨⟨d0, d1, d2⟩, _⟩ := hB3.out
      obtain ⟨⟨m0, m1, m2⟩, _⟩ := Box3.stored hB2.out (.int .i64 k) (.int .i64 k) (.slice (some ⟨w1.heap.size + 1, 0, none⟩) N N)
      go_wp2
      exact bodyPost_ret (v := .tuple #[mv (k) (k) (.slice (some ⟨w1.heap.size + 1, 0, none⟩) N N), .bool true]) (by first | (simp [results, Try.results21, go_sem, m0, m1, m2]; done) | (simp [results, Try.results21, go_sem]; done)) rfl (by rw [HF.out]; show RetMat w k k (tab N (turned k k V k 0)) true _ _; exact ⟨_, rfl, Own.mono (lo := w1.heap.size) (by repeat' (first | with_reducible exact HO.out | with_reducible assumption | (with_reducible refine Own.set ?_ (own_ne ?_) _) | (with_reducible refine Own.set ?_ (own_nl (by assumption) (by first | omega | (dsimp only; omega))) _) | (with_reducible refine Own.alloc ?_ _) | (with_reducible refine Own.drewN ?_ _) | omega | (dsimp only; omega))) (by omega), (by repeat' (first | exact Below.refl _ _ | (refine Below.alloc ?_ ?_ _) | (refine Below.setCell ?_ ?_ _) | (refine Below.drew ?_) | (refine below_drewN ?_ _) | (refine Below.trans ?_ (Below.mono (by assumption) ?_)) | omega | (simp only [World.size_alloc, World.size_setCell, World.size_drew, size_drewN]; omega)))⟩)
theorem implAdj (r c : Int) (A : Option Addr) (cap : Nat) (xs : List Int) (w : World) (hA : Sl w A xs.length cap xs) (hn : xs.length ≤ 1048576) :
    Calls Try.prog 21 #[mv r c (.slice A xs.length cap)] w (RetM w (adjRes r c xs)) := by
  rcases Bool.eq_false_or_eq_true (isSq r c xs) with hq | hq
  · have hq0 := hq
    obtain ⟨n, rfl, rfl, h6, hl, hx, _⟩ := isSq_t hq
    exact implAdj_yes n A cap xs w hA h6 hl hx hn hq0
  · have HR : Hid (adjRes r c xs = .no) := by rw [Hid, adjRes, if_neg (by simp [hq])]
    rw [HR.out]
    have HA := hide hA; clear hA
    go_enter Try.func21, Try.ntmps21
    go_wp2_with (go_at_call 43; refine (implIsSquare r c A cap xs _ (SlI.below HA.out.2.2.2.2 (by repeat' (first | exact Below.refl _ _ | (refine Below.alloc ?_ ?_ _) | (refine Below.setCell ?_ ?_ _) | (refine Below.drew ?_) | (refine below_drewN ?_ _) | (refine Below.trans ?_ (Below.mono (by assumption) ?_)) | omega | (simp only [World.size_alloc, World.size_setCell, World.size_drew, size_drewN]; omega)))) (by omega)).mono ?_; rintro e w1 ⟨rfl, hb⟩; obtain ⟨hc, hf⟩ := bcell hb; have hz := hb.size; (try simp only [World.size_alloc, World.size_setCell, World.size_drew, size_drewN] at hz); (first | have hs := up3 hz | have hs := up2 hz | have hs := up1 hz | have hs := up0 hz); (try have q10 := hs _ q9); (try have q9 := hs _ q8); (try have q8 := hs _ q7); (try have q7 := hs _ q6); (try have q6 := hs _ q5); (try have q5 := hs _ q4); (try have q4 := hs _ q3); (try have q3 := hs _ q2); (try have q2 := hs _ q1); (try have p7 := hs _ p6); (try have p6 := hs _ p5); (try have p5 := hs _ p4); (try have p4 := hs _ p3); (try have p3 := hs _ p2); (try have p2 := hs _ p1); (try have q1 := new1 hz); (try have p1 := new2 hz); (try have r1 := new3 hz))
    have bx : Box3 w1 (w.heap.size + 1) (.int .i64 0) (.int .i64 0) (.slice none 0 0) := (by repeat' (first | with_reducible assumption | (with_reducible refine Box3.set ?_ ?_ _) | (with_reducible refine Box3.drew ?_) | (with_reducible refine Box3.drewN ?_ _) | (with_reducible exact Box3.new _ _ _ (by first | rfl | (simp only [World.size_alloc]; done) | (simp only [World.size_alloc]; omega))) | (with_reducible refine Box3.alloc ?_ _) | (with_reducible refine Box3.call ?_ (by assumption)) | (with_reducible refine Box3.grown ?_ (by assumption) (by simp; omega)) | omega | (dsimp only; omega) | (simp only [World.size_alloc, World.size_setCell, World.size_drew, size_drewN]; omega)))
    obtain ⟨⟨m0, m1, m2⟩, _⟩ := Box3.stored bx (.int .i64 0) (.int .i64 0) (.slice none 0 0)
    exact bodyPost_ret (v := .tuple #[mv (0) (0) (.slice none 0 0), .bool false]) (by first | (simp [results, Try.results21, go_sem, m0, m1, m2]; done) | (simp [results, Try.results21, go_sem]; done)) rfl (show RetMat w 0 0 [] false _ _ from ⟨_, rfl, Own.nil _ _, (by repeat' (first | exact Below.refl _ _ | (refine Below.alloc ?_ ?_ _) | (refine Below.setCell ?_ ?_ _) | (refine Below.drew ?_) | (refine below_drewN ?_ _) | (refine Below.trans ?_ (Below.mono (by assumption) ?_)) | omega | (simp only [World.size_alloc, World.size_setCell, World.size_drew, size_drewN]; omega)))⟩)
end Go.Proofs.Ytchlaebkigmfgaa
