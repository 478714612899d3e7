/- The walks of the reference's AdjugateOf, and of InverseOf. -/
import Derived.Test.YtchlaebkigmfgaaAdjW
import Derived.Test.YtchlaebkigmfgaaScaleW
namespace Go.Proofs.Ytchlaebkigmfgaa
open Go.RowKit
set_option linter.unusedSimpArgs false
set_option linter.unusedVariables false

theorem specMulNeg (a x : Int) (w : World) (ha : a = badN ∨ isNum a = true) (hx : mulN a (-1) = x) :
    Calls Try.prog 58 #[.int .i64 a, .int .i64 (-1)] w fun e w' => e = .returned (.int .i64 x) ∧ w = w' := by
  rcases ha with rfl | ha
  · have hb : x = -4611686018427387904 := by rw [← hx]; rfl
    subst hb
    clear hx
    unfold badN
    go_enter Try.func58, Try.ntmps58
    go_wp2
    go_ret
    exact ⟨rfl, rfl⟩
  · have h := isNum_t ha
    have := specMul_num a (-1) w (num_ne ha) (by decide) (by omega)
    rwa [← hx, mulN, if_neg (fun e => e.elim (num_ne ha) (by decide))]
theorem adj_mark {n : Nat} {xs : List Int} {i j : Nat} (hi : i < n) (hj : j < n) : (adjS n xs).getD (i * n + j) 0 = if (i + j) % 2 = 1 then mulN (markO (mdet n xs i j)) (-1) else markO (mdet n xs i j) := by
  rw [adjS_at hi hj]
  cases h : mdet n xs i j with
  | none => simp [markO, mulN]
  | some d =>
    have hd := detO_num h
    have := isNum_t hd
    simp only [markO, Det.sgn]
    by_cases hp : (i + j) % 2 = 1
    · rw [if_pos hp, if_neg (by omega), mulN, if_neg (fun e => e.elim (num_ne hd) (by decide)), fitN, if_pos (isNum_mk (by omega))]
      omega
    · rw [if_neg hp, if_pos (by omega), Int.one_mul]
theorem mark_num {n : Nat} {xs : List Int} {i j : Nat} : markO (mdet n xs i j) = badN ∨ isNum (markO (mdet n xs i j)) = true := by
  cases h : mdet n xs i j with
  | none => exact .inl rfl
  | some d => exact .inr (detO_num h)
theorem specCrossAt (n i j : Nat) (A : Option Addr) (cap : Nat) (xs : List Int) (w : World) (hA : Sl w A xs.length cap xs) (hlx : xs.length = n * n) (hn : n ≤ 6) (hi : i < n) (hj : j < n) :
    Calls Try.prog 57 #[mv (n : Int) (n : Int) (.slice A xs.length cap), .int .i64 (i : Int), .int .i64 (j : Int)] w (RetM3 w ((n - 1 : Nat) : Int) ((n - 1 : Nat) : Int) (crossL n n i j xs)) := by
  have h := specCrossIn n n i j A cap xs w hA hlx (by omega) (by omega) hi hj
  rwa [show (n : Int) - 1 = ((n - 1 : Nat) : Int) from by omega] at h
set_option maxHeartbeats 8000000 in
theorem specAdj_yes (n : Nat) (A : Option Addr) (cap : Nat) (xs : List Int) (w : World) (hA : Sl w A xs.length cap xs) (h6 : n ≤ 6) (hl : xs.length = n * n) (hx : xs.all isNum = true) (hn : xs.length ≤ 1048576) (hq : isSq n n xs = true) :
    Calls Try.prog 20 #[mv n n (.slice A xs.length cap)] w (RetM w (adjRes n n xs)) := by
  have HA := hide hA; clear hA
  have CT := hide (fun i j A cap w (h : Sl w A xs.length cap xs) hi hj => specCrossAt n i j A cap xs w h hl h6 hi hj)
  have CN := hide (fun i j (hi : i < n) (hj : j < n) => mdet_num hx hl hi hj)
  have HN : Hid ((n : Int) * n = ((n * n : Nat) : Int)) := by simp [Hid]
  have hcr : n * n ≤ 36 := Nat.mul_le_mul h6 h6
  have HLN : (tab (n * n) (turned n n (adjS n xs) n 0)).length = n * n := tab_length _ _
  have HR1 : Hid (adjB n xs = true → isMat n n (tab (n * n) (turned n n (adjS n xs) n 0)) = true ∧ adjRes n n xs = ⟨n, n, tab (n * n) (turned n n (adjS n xs) n 0), true⟩) := fun h => by
    refine ⟨?_, ?_⟩
    · rw [isMat_sq h6 HLN, turned_end, adjS_eq h]; exact adjL_num n xs
    · rw [adjRes, if_pos (by rw [hq]; simpa using h), adjS_eq h, turned_end]; rfl
  have HR0 : Hid (adjB n xs = false → isMat n n (tab (n * n) (turned n n (adjS n xs) n 0)) = false ∧ adjRes n n xs = .no) := fun h => by
    refine ⟨?_, ?_⟩
    · rw [isMat_sq h6 HLN, turned_end]; exact adjS_bad h
    · rw [adjRes, if_neg (by simpa using fun _ => h)]
  have HS0 := hide (turned_start n n (adjS n xs))
  have HST : Hid (∀ i j, i < n → j < n → (tab (n * n) (turned n n (adjS n xs) i j)).set (j * n + i) (if (i + j) % 2 = 1 then mulN (markO (mdet n xs i j)) (-1) else markO (mdet n xs i j)) = tab (n * n) (turned n n (adjS n xs) i (j + 1))) := fun i j hi hj => by
    rw [← adj_mark hi hj]; exact turned_step hi hj
  have HTR : Hid (∀ i, tab (n * n) (turned n n (adjS n xs) i n) = tab (n * n) (turned n n (adjS n xs) (i + 1) 0)) := fun i => turned_row
  have HIX : Hid (∀ i j, i < n → j < n → j * n + i < n * n) := fun i j hi hj => ix_lt hj hi
  obtain ⟨V, hV⟩ : ∃ V, adjS n xs = V := ⟨_, rfl⟩
  rw [hV] at HR1 HR0 HS0 HST HTR HLN
  obtain ⟨N, hNN⟩ : ∃ N, n * n = N := ⟨_, rfl⟩
  rw [hNN] at HN hcr HR1 HR0 HS0 HST HTR HIX HLN
  have HL := hide hl
  have HQ := hide hq
  have HLN' := hide HLN
  clear hV hNN hl hx hq HLN
  generalize adjRes n n xs = M at *
  go_enter Try.func20, Try.ntmps20
  have eq1 := HQ.out
  go_wp2_with (first
    | (go_at_call 31; refine (specIsSquare n n A cap xs _ (SlI.below HA.out.2.2.2.2 (by repeat' (first | exact Below.refl _ _ | (refine Below.alloc ?_ ?_ _) | (refine Below.setCell ?_ ?_ _) | (refine Below.drew ?_) | (refine below_drewN ?_ _) | (refine Below.trans ?_ (Below.mono (by assumption) ?_)) | omega | (simp only [World.size_alloc, World.size_setCell, World.size_drew, size_drewN]; omega)))) (by omega)).mono ?_; rintro e w1 ⟨rfl, hb⟩; obtain ⟨hc, hf⟩ := bcell hb; have hz := hb.size; (try simp only [World.size_alloc, World.size_setCell, World.size_drew, size_drewN] at hz); (first | have hs := up3 hz | have hs := up2 hz | have hs := up1 hz | have hs := up0 hz); (try have q10 := hs _ q9); (try have q9 := hs _ q8); (try have q8 := hs _ q7); (try have q7 := hs _ q6); (try have q6 := hs _ q5); (try have q5 := hs _ q4); (try have q4 := hs _ q3); (try have q3 := hs _ q2); (try have q2 := hs _ q1); (try have p7 := hs _ p6); (try have p6 := hs _ p5); (try have p5 := hs _ p4); (try have p4 := hs _ p3); (try have p3 := hs _ p2); (try have p2 := hs _ p1); (try have q1 := new1 hz); (try have p1 := new2 hz); (try have r1 := new3 hz))
    | (go_at_call 56; refine (specL3New n n N _ HN (by omega)).mono ?_; rintro e w2 ⟨rfl, ho, hb⟩; obtain ⟨hc, hf⟩ := bcell hb; have hz := hb.size; (try simp only [World.size_alloc, World.size_setCell, World.size_drew, size_drewN] at hz); (first | have hs := up3 hz | have hs := up2 hz | have hs := up1 hz | have hs := up0 hz); (try have q10 := hs _ q9); (try have q9 := hs _ q8); (try have q8 := hs _ q7); (try have q7 := hs _ q6); (try have q6 := hs _ q5); (try have q5 := hs _ q4); (try have q4 := hs _ q3); (try have q3 := hs _ q2); (try have q2 := hs _ q1); (try have p7 := hs _ p6); (try have p6 := hs _ p5); (try have p5 := hs _ p4); (try have p4 := hs _ p3); (try have p3 := hs _ p2); (try have p2 := hs _ p1); (try have q1 := new1 hz); (try have p1 := new2 hz); (try have r1 := new3 hz); (try simp only [World.size_alloc, World.size_setCell, World.size_drew, size_drewN] at ho)))
  have hg0 : w1.heap.size + 1 < w2.heap.size := (Own.lt ho _ rfl).2
  have hs1 : w.heap.size + 1 < w1.heap.size := by omega
  clear eq1
  go_loopw [5] (fun i wr => ∃ k : Nat, k ≤ n ∧ i = .int .i64 k ∧ Own wr w1.heap.size (.slice (some ⟨w1.heap.size + 1, 0, none⟩) N N) (tab N (turned n n V k 0)) ∧
      Box3 wr w.heap.size (.int .i64 n) (.int .i64 n) (.slice A xs.length cap) ∧ Box3 wr (w.heap.size + 1) (.int .i64 0) (.int .i64 0) (.slice none 0 0) ∧
      Box3 wr w2.heap.size (.int .i64 n) (.int .i64 n) (.slice (some ⟨w1.heap.size + 1, 0, none⟩) N N) ∧ Below w.heap.size w wr) (fun i _ => n - (intOf i).toNat)
  case atStart =>
    refine ⟨0, Nat.zero_le _, rfl, ?_, ?_, ?_, ?_, ?_⟩
    · rw [← HS0.out]
      exact (by repeat' (first | with_reducible exact HO.out | with_reducible assumption | (with_reducible refine Own.set ?_ (own_ne ?_) _) | (with_reducible refine Own.set ?_ (own_nl (by assumption) (by first | omega | (dsimp only; omega))) _) | (with_reducible refine Own.alloc ?_ _) | (with_reducible refine Own.drewN ?_ _) | omega | (dsimp only; omega)))
    · exact (by repeat' (first | with_reducible assumption | (with_reducible refine Box3.set ?_ ?_ _) | (with_reducible refine Box3.drew ?_) | (with_reducible refine Box3.drewN ?_ _) | (with_reducible exact Box3.new _ _ _ (by first | rfl | (simp only [World.size_alloc]; done) | (simp only [World.size_alloc]; omega))) | (with_reducible refine Box3.alloc ?_ _) | (with_reducible refine Box3.call ?_ (by assumption)) | (with_reducible refine Box3.grown ?_ (by assumption) (by simp; omega)) | omega | (dsimp only; omega) | (simp only [World.size_alloc, World.size_setCell, World.size_drew, size_drewN]; omega)))
    · exact (by repeat' (first | with_reducible assumption | (with_reducible refine Box3.set ?_ ?_ _) | (with_reducible refine Box3.drew ?_) | (with_reducible refine Box3.drewN ?_ _) | (with_reducible exact Box3.new _ _ _ (by first | rfl | (simp only [World.size_alloc]; done) | (simp only [World.size_alloc]; omega))) | (with_reducible refine Box3.alloc ?_ _) | (with_reducible refine Box3.call ?_ (by assumption)) | (with_reducible refine Box3.grown ?_ (by assumption) (by simp; omega)) | omega | (dsimp only; omega) | (simp only [World.size_alloc, World.size_setCell, World.size_drew, size_drewN]; omega)))
    · exact (by repeat' (first | with_reducible assumption | (with_reducible refine Box3.set ?_ ?_ _) | (with_reducible refine Box3.drew ?_) | (with_reducible refine Box3.drewN ?_ _) | (with_reducible exact Box3.new _ _ _ (by first | rfl | (simp only [World.size_alloc]; done) | (simp only [World.size_alloc]; omega))) | (with_reducible refine Box3.alloc ?_ _) | (with_reducible refine Box3.call ?_ (by assumption)) | (with_reducible refine Box3.grown ?_ (by assumption) (by simp; omega)) | omega | (dsimp only; omega) | (simp only [World.size_alloc, World.size_setCell, World.size_drew, size_drewN]; omega)))
    · exact (by repeat' (first | exact Below.refl _ _ | (refine Below.alloc ?_ ?_ _) | (refine Below.setCell ?_ ?_ _) | (refine Below.drew ?_) | (refine below_drewN ?_ _) | (refine Below.trans ?_ (Below.mono (by assumption) ?_)) | omega | (simp only [World.size_alloc, World.size_setCell, World.size_drew, size_drewN]; omega)))
  case round =>
    obtain ⟨k, hk, rfl, ho, b1, b2, b3, hB⟩ := hrel
    obtain ⟨wo, rfl⟩ : ∃ wo : World, wo = wr := ⟨_, rfl⟩
    have hB1 := hide b1
    have hB2 := hide b2
    have hB3 := hide b3
    obtain ⟨⟨a0, a1, a2⟩, _⟩ := b1
    have HO := hide ho; clear ho b2 b3
    by_cases hlt : k < n
    · go_wp2
      go_loopw [6] (fun j wr => ∃ q : Nat, q ≤ n ∧ j = .int .i64 q ∧ Own wr w1.heap.size (.slice (some ⟨w1.heap.size + 1, 0, none⟩) N N) (tab N (turned n n V k q)) ∧
          Box3 wr w.heap.size (.int .i64 n) (.int .i64 n) (.slice A xs.length cap) ∧ Box3 wr (w.heap.size + 1) (.int .i64 0) (.int .i64 0) (.slice none 0 0) ∧
          Box3 wr w2.heap.size (.int .i64 n) (.int .i64 n) (.slice (some ⟨w1.heap.size + 1, 0, none⟩) N N) ∧ Below w.heap.size w wr) (fun j _ => n - (intOf j).toNat)
      case atStart => exact ⟨0, Nat.zero_le _, rfl, HO.out, hB1.out, hB2.out, hB3.out, hB⟩
      case round =>
        clear hB1 hB2 hB3 a0 a1 a2 HO hB
        obtain ⟨q, hq, rfl, ho, b1, b2, b3, hB⟩ := hrel
        obtain ⟨wo, rfl⟩ : ∃ wo : World, wo = wr := ⟨_, rfl⟩
        have hB1 := hide b1
        have hB2 := hide b2
        have hB3 := hide b3
        have HB := hide hB
        obtain ⟨⟨a0, a1, a2⟩, _⟩ := b1
        have HO := hide ho; clear ho b2 b3 hB
        by_cases hlq : q < n
        · have HA1 := hide (HA.out.below HB.out)
          have hlen := hide (@mdet_len n k q xs)
          have hnum := hide (CN.out k q hlt hlq)
          have hst := hide (HST.out k q hlt hlq)
          have hmk := @mark_num n xs k q
          obtain ⟨L, hL⟩ : ∃ L, crossL n n k q xs = L := ⟨_, rfl⟩
          have CTk := hide (CT.out k q A cap wo HA1.out hlt hlq)
          have hmd : mdet n xs k q = detL (n - 1) L := by rw [mdet, hL]
          rw [hL] at hlen hnum CTk
          rw [hmd] at hst hmk
          clear hL hmd
          go_wp2_with fail
          refine CTk.out.mono ?_; rintro e w3 ⟨s2, rfl, ho2, hb⟩
          obtain ⟨A2, z2, rfl, hs2⟩ := Own.full ho2
          have ihd := specDet (n - 1) A2 z2 L w3 hs2 hlen.out (by omega) hnum.out
          have k1 := hide (hB1.out.call hb)
          have k2 := hide (hB2.out.call hb)
          have k3 := hide (hB3.out.call hb)
          have kO := hide (HO.out.below hb)
          have HB3 := hide (kb_call HB.out (Nat.le_refl _) hb)
          clear hb ho2 hs2 hB1 hB2 hB3 HO HB HA1 CTk a0 a1 a2
          obtain ⟨d, hd⟩ : ∃ d, markO (detL (n - 1) L) = d := ⟨_, rfl⟩
          rw [hd] at hst hmk
          have IHD : Hid (Calls Try.prog 41 #[mv ((n - 1 : Nat) : Int) ((n - 1 : Nat) : Int) (.slice A2 L.length z2)] w3 fun e w' => e = .returned (.int .i64 d) ∧ Below w3.heap.size w3 w') := by
            have h := ihd
            unfold RetMark at h
            rwa [hd] at h
          have HMK := hide hmk
          clear ihd hd hmk
          go_wp2_with fail
          refine IHD.out.mono ?_; rintro e w4 ⟨rfl, hb⟩
          have g1 := hide (k1.out.call hb)
          have g2 := hide (k2.out.call hb)
          have g3 := hide (k3.out.call hb)
          have gO := hide (kO.out.below hb)
          have HB4 := hide (kb_call HB3.out (Nat.le_refl _) hb)
          clear hb k1 k2 k3 kO HB3
          obtain ⟨⟨a0, a1, a2⟩, _⟩ := g1.out
          obtain ⟨⟨d0, d1, d2⟩, _⟩ := g3.out
          have hdx := HIX.out k q hlt hlq
          have hI2 : Hid ((q : Int) * n = ((q * n + k : Nat) : Int) - k) := by rw [Hid]; push_cast; omega
          have h20 : 0 ≤ (q : Int) * n := Int.mul_nonneg (by omega) (by omega)
          have h21 : (q : Int) * n ≤ 1048576 := by have := hI2.out; omega
          obtain ⟨dd, hdd⟩ : ∃ dd, q * n + k = dd := ⟨_, rfl⟩
          rw [hdd] at hdx hI2 hst
          have hcd := own_cell gO.out hdx
          have hfd := own_free gO.out dd
          obtain ⟨y, hy⟩ : ∃ y, turned n n V k q dd = y := ⟨_, rfl⟩
          rw [hy] at hcd
          have q2 : IntKind.i64.wrap ((q : Int) * n) = (q : Int) * n := IntWalk.i64_in _ (by omega)
          have q4 : (q : Int) * n + k = (dd : Int) := by have := hI2.out; omega
          have q6 : IntKind.i64.wrap (dd : Int) = (dd : Int) := IntWalk.i64_in _ (by omega)
          have z2' : (0 : Int) ≤ (dd : Int) := by omega
          have z4 : (dd : Int) < (N : Int) := by omega
          clear hdd hy hI2 h20 h21
          by_cases hp : (k + q) % 2 = 1
          · have hpb : (((k : Int) + (q : Int)) % 2 == 1) = true := by simp; omega
            rw [if_pos hp] at hst
            obtain ⟨x, hxx⟩ : ∃ x, mulN d (-1) = x := ⟨_, rfl⟩
            rw [hxx] at hst
            have CX := hide (fun w => specMulNeg d x w HMK.out hxx)
            have hso := hide (own_store gO.out hst.out)
            clear hp hxx
            go_wp2_with (go_at_call 58; refine (CX.out _).mono ?_; rintro e w' ⟨rfl, rfl⟩)
            go_roundw
            case rel => exact ⟨q + 1, by omega, by go_num, hso.out.1, g1.out.grown hso.out.2 (by simp; omega), g2.out.grown hso.out.2 (by simp; omega), g3.out.grown hso.out.2 (by simp; omega), HB4.out.grown hso.out.2 HB4.out.size (fun j hj => by cases hj; omega)⟩
            case measure => simp [intOf]; omega
          · have hpb : (((k : Int) + (q : Int)) % 2 == 1) = false := by simp; omega
            rw [if_neg hp] at hst
            have hso := hide (own_store gO.out hst.out)
            clear hp
            go_wp2_with fail
            go_roundw
            case rel => exact ⟨q + 1, by omega, by go_num, hso.out.1, g1.out.grown hso.out.2 (by simp; omega), g2.out.grown hso.out.2 (by simp; omega), g3.out.grown hso.out.2 (by simp; omega), HB4.out.grown hso.out.2 HB4.out.size (fun j hj => by cases hj; omega)⟩
            case measure => simp [intOf]; omega
        · have hqq : q = n := by omega
          have HO2 : Hid (Own wo w1.heap.size (.slice (some ⟨w1.heap.size + 1, 0, none⟩) N N) (tab N (turned n n V (k + 1) 0))) := by
            have h1 := HO.out
            rw [hqq, HTR.out k] at h1
            exact h1
          subst hqq
          clear HO
          go_wp2
          go_roundw
          case rel => exact ⟨k + 1, by omega, by go_num, HO2.out, hB1.out, hB2.out, hB3.out, HB.out⟩
          case measure => simp [intOf]; omega
    · have hkk : k = n := by omega
      subst hkk
      obtain ⟨⟨d0, d1, d2⟩, _⟩ := hB3.out
      have HB := hide hB
      clear hB
      rcases Bool.eq_false_or_eq_true (adjB k xs) with hadj | hadj
      · obtain ⟨hm, hF⟩ := HR1.out hadj
        have HF := hide hF
        have ck := fun w (h : SlI w (some ⟨w1.heap.size + 1, 0, none⟩) (tab N (turned k k V k 0))) => specDone_yes k k (some ⟨w1.heap.size + 1, 0, none⟩) N (tab N (turned k k V k 0)) w h (by rw [HLN'.out]; omega) hm
        rw [HLN'.out] at ck
        have CK := hide ck
        clear ck hm hF hadj
        go_wp2_with fail
        refine (CK.out _ (Own.sl2 HO.out).2.2.2.2).mono ?_; rintro e w4 ⟨rfl, hb⟩
        have g2 := hide (hB2.out.call hb)
        have gO := hide (HO.out.below hb)
        have HB4 := hide (kb_call HB.out (Nat.le_refl _) hb)
        clear hb
        have hz4 := g2.out.lt
        obtain ⟨⟨r0, r1, r2⟩, f0, f1, f2⟩ := g2.out
        obtain ⟨⟨m0, m1, m2⟩, _⟩ := (Box3.stored g2.out (.int .i64 k) (.int .i64 k) (.slice (some ⟨w1.heap.size + 1, 0, none⟩) N N)).alloc (.cells #[.int .i64 k, .int .i64 k, .slice (some ⟨w1.heap.size + 1, 0, none⟩) N N] 28)
        go_wp2
        exact bodyPost_ret (v := .tuple #[mv (k) (k) (.slice (some ⟨w1.heap.size + 1, 0, none⟩) N N), .bool true]) (by first | (simp [results, Try.results20, go_sem, m0, m1, m2]; done) | (simp [results, Try.results20, go_sem]; done)) rfl (by rw [HF.out]; show RetMat w k k (tab N (turned k k V k 0)) true _ _; exact ⟨_, rfl, Own.mono (lo := w1.heap.size) ((((gO.out.set (own_ne (by dsimp only; omega)) _).set (own_ne (by dsimp only; omega)) _).set (own_ne (by dsimp only; omega)) _).alloc _) (by omega), (((HB4.out.setCell (by dsimp only; omega) _).setCell (by dsimp only; omega) _).setCell (by dsimp only; omega) _).alloc (by simp; omega) _⟩)
      · obtain ⟨hm, hF⟩ := HR0.out hadj
        have HF := hide hF
        have ck := fun w (h : SlI w (some ⟨w1.heap.size + 1, 0, none⟩) (tab N (turned k k V k 0))) => specDone_no k k (some ⟨w1.heap.size + 1, 0, none⟩) N (tab N (turned k k V k 0)) w h (by rw [HLN'.out]; omega) hm
        rw [HLN'.out] at ck
        have CK := hide ck
        clear ck hm hF hadj
        go_wp2_with fail
        refine (CK.out _ (Own.sl2 HO.out).2.2.2.2).mono ?_; rintro e w4 ⟨rfl, hb⟩
        have g2 := hide (hB2.out.call hb)
        have HB4 := hide (kb_call HB.out (Nat.le_refl _) hb)
        clear hb
        have hz4 := g2.out.lt
        obtain ⟨⟨r0, r1, r2⟩, f0, f1, f2⟩ := g2.out
        obtain ⟨⟨m0, m1, m2⟩, _⟩ := (Box3.stored g2.out (.int .i64 0) (.int .i64 0) (.slice none 0 0)).alloc (.cells #[.int .i64 0, .int .i64 0, .slice none 0 0] 28)
        go_wp2
        exact bodyPost_ret (v := .tuple #[mv (0) (0) (.slice none 0 0), .bool false]) (by first | (simp [results, Try.results20, go_sem, m0, m1, m2]; done) | (simp [results, Try.results20, go_sem]; done)) rfl (by rw [HF.out]; show RetMat w 0 0 [] false _ _; exact ⟨_, rfl, Own.nil _ _, (((HB4.out.setCell (by dsimp only; omega) _).setCell (by dsimp only; omega) _).setCell (by dsimp only; omega) _).alloc (by simp; omega) _⟩)
theorem specAdj (r c : Int) (A : Option Addr) (cap : Nat) (xs : List Int) (w : World) (hA : Sl w A xs.length cap xs) (hn : xs.length ≤ 1048576) :
    Calls Try.prog 20 #[mv r c (.slice A xs.length cap)] w (RetM w (adjRes r c xs)) := by
  rcases Bool.eq_false_or_eq_true (isSq r c xs) with hq | hq
  · have hq0 := hq
    obtain ⟨n, rfl, rfl, h6, hl, hx, _⟩ := isSq_t hq
    exact specAdj_yes n A cap xs w hA h6 hl hx hn hq0
  · have HR : Hid (adjRes r c xs = .no) := by rw [Hid, adjRes, if_neg (by simp [hq])]
    rw [HR.out]
    have HA := hide hA; clear hA
    go_enter Try.func20, Try.ntmps20
    go_wp2_with (go_at_call 31; refine (specIsSquare r c A cap xs _ (SlI.below HA.out.2.2.2.2 (by repeat' (first | exact Below.refl _ _ | (refine Below.alloc ?_ ?_ _) | (refine Below.setCell ?_ ?_ _) | (refine Below.drew ?_) | (refine below_drewN ?_ _) | (refine Below.trans ?_ (Below.mono (by assumption) ?_)) | omega | (simp only [World.size_alloc, World.size_setCell, World.size_drew, size_drewN]; omega)))) (by omega)).mono ?_; rintro e w1 ⟨rfl, hb⟩; obtain ⟨hc, hf⟩ := bcell hb; have hz := hb.size; (try simp only [World.size_alloc, World.size_setCell, World.size_drew, size_drewN] at hz); (first | have hs := up3 hz | have hs := up2 hz | have hs := up1 hz | have hs := up0 hz); (try have q10 := hs _ q9); (try have q9 := hs _ q8); (try have q8 := hs _ q7); (try have q7 := hs _ q6); (try have q6 := hs _ q5); (try have q5 := hs _ q4); (try have q4 := hs _ q3); (try have q3 := hs _ q2); (try have q2 := hs _ q1); (try have p7 := hs _ p6); (try have p6 := hs _ p5); (try have p5 := hs _ p4); (try have p4 := hs _ p3); (try have p3 := hs _ p2); (try have p2 := hs _ p1); (try have q1 := new1 hz); (try have p1 := new2 hz); (try have r1 := new3 hz))
    have bx : Box3 w1 (w.heap.size + 1) (.int .i64 0) (.int .i64 0) (.slice none 0 0) := (by repeat' (first | with_reducible assumption | (with_reducible refine Box3.set ?_ ?_ _) | (with_reducible refine Box3.drew ?_) | (with_reducible refine Box3.drewN ?_ _) | (with_reducible exact Box3.new _ _ _ (by first | rfl | (simp only [World.size_alloc]; done) | (simp only [World.size_alloc]; omega))) | (with_reducible refine Box3.alloc ?_ _) | (with_reducible refine Box3.call ?_ (by assumption)) | (with_reducible refine Box3.grown ?_ (by assumption) (by simp; omega)) | omega | (dsimp only; omega) | (simp only [World.size_alloc, World.size_setCell, World.size_drew, size_drewN]; omega)))
    obtain ⟨⟨m0, m1, m2⟩, _⟩ := Box3.stored bx (.int .i64 0) (.int .i64 0) (.slice none 0 0)
    exact bodyPost_ret (v := .tuple #[mv (0) (0) (.slice none 0 0), .bool false]) (by first | (simp [results, Try.results20, go_sem, m0, m1, m2]; done) | (simp [results, Try.results20, go_sem]; done)) rfl (show RetMat w 0 0 [] false _ _ from ⟨_, rfl, Own.nil _ _, (by repeat' (first | exact Below.refl _ _ | (refine Below.alloc ?_ ?_ _) | (refine Below.setCell ?_ ?_ _) | (refine Below.drew ?_) | (refine below_drewN ?_ _) | (refine Below.trans ?_ (Below.mono (by assumption) ?_)) | omega | (simp only [World.size_alloc, World.size_setCell, World.size_drew, size_drewN]; omega)))⟩)
end Go.Proofs.Ytchlaebkigmfgaa
