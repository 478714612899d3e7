/- The walks of unit and mix. -/
import Derived.Test.YtjopanbccfebnaaMixL
import Derived.Test.YtjopanbccfebnaaDoSp
import Derived.Test.YtjopanbccfebnaaCur
import Derived.Deep.RegionHeld3
import Derived.Deep.DeepCutAuto
namespace Go.Proofs.Ytjopanbccfebnaa
open Go.RowKit
set_option linter.unusedSimpArgs false
set_option linter.unusedVariables false
set_option maxHeartbeats 2000000 in
theorem lawUnit (n : Nat) (hn : n ≤ 24) (w : World) : Calls Try.prog 58 #[.int .i64 (n : Int)] w (RetM3 w n n (idTo n n)) := by
  have si := specIdentity_yes n hn
  generalize idTo n n = L0 at *
  have SI := hide si
  clear si
  have b0 := hide (Box3.new (x := .int .i64 0) (y := .int .i64 0) (z := .slice none 0 0) w w.heap.size 26 rfl)
  have HBx : Hid (Below w.heap.size w (w.alloc (.cells #[.int .i64 0, .int .i64 0, .slice none 0 0] 26))) := (Below.refl _ _).alloc (Nat.le_refl _) _
  go_enter Try.func58, Try.ntmps58
  go_wp2_with fail
  refine (SI.out _).mono ?_; rintro e w1 ⟨s, rfl, ho, hb⟩
  obtain ⟨A, cap, rfl, _⟩ := Own.sl ho
  have k := hide (b0.out.call hb)
  have HB := hide (kb_call HBx.out (Nat.le_refl _) hb)
  have HO := hide ho
  have hl := own_nm ho
  have z := hb.size
  simp only [World.size_alloc] at z hl
  clear ho hb b0 HBx
  obtain ⟨⟨x0, x1, x2⟩, f0, f1, f2⟩ := k.out
  have p := k.out.lt
  obtain ⟨⟨m0, m1, m2⟩, _⟩ := (Box3.stored k.out (.int .i64 n) (.int .i64 n) (.slice A L0.length cap)).alloc (.cells #[.int .i64 n, .int .i64 n, .slice A L0.length cap] 26)
  go_wp2
  exact bodyPost_ret (v := mv (n) (n) (.slice A L0.length cap)) (by first | (simp [results, Try.results58, go_sem, m0, m1, m2]; done) | (simp [results, Try.results58, go_sem]; done)) rfl ⟨_, rfl, Own.mono (lo := (w.alloc (.cells #[.int .i64 0, .int .i64 0, .slice none 0 0] 26)).heap.size) (Own.alloc (Own.set (Own.set (Own.set HO.out (fun e => by have := hl _ e; (try dsimp only at this); omega) _) (fun e => by have := hl _ e; (try dsimp only at this); omega) _) (fun e => by have := hl _ e; (try dsimp only at this); omega) _) _) (by simp), (((HB.out.setCell (by dsimp only; omega) _).setCell (by dsimp only; omega) _).setCell (by dsimp only; omega) _).alloc (by have := HB.out.size; simp; omega) _⟩
/-- A matrix that mix draws. -/
def RetMix (n : Nat) (w : World) (e : Ending) (w' : World) : Prop := ∃ (r c : Int) (zs : List Int) (s : Value), e = .returned (mv r c s) ∧ MixP n r c zs ∧ Own w' w.heap.size s zs ∧ Below w.heap.size w w'
set_option maxRecDepth 100000 in
set_option maxHeartbeats 8000000 in
theorem lawMix (cA : Option Addr) (cn ccap n : Nat) (w : World) (hs : SlB w w.heap.size cA cn) (hcn : cn ≤ 1048576) (hn : n ≤ 6) :
    Calls Try.prog 28 #[.slice cA cn ccap, .int .i64 (n : Int)] w (RetMix n w) := by
  have HS := hide hs; clear hs
  have hms := mix_start (n := n) (by omega)
  have hsz0 : (idTo n n).length ≤ 576 := by have := idTo_length n n; have := nn_le (n := n) (by omega); omega
  have un := lawUnit n (by omega)
  generalize idTo n n = L0 at *
  have UN := hide un
  have HMS := hide hms
  clear un hms
  have b0 := hide (Box3.new (x := .int .i64 0) (y := .int .i64 0) (z := .slice none 0 0) w w.heap.size 26 rfl)
  have HBx : Hid (Below w.heap.size w (w.alloc (.cells #[.int .i64 0, .int .i64 0, .slice none 0 0] 26))) := (Below.refl _ _).alloc (Nat.le_refl _) _
  go_enter Try.func28, Try.ntmps28
  go_wp2_with fail
  refine (UN.out _).mono ?_; rintro e w1 ⟨s, rfl, ho, hb⟩
  obtain ⟨A, cap, rfl, _⟩ := Own.sl ho
  have k1 := hide ((b0.out.call hb).alloc (.cells #[.int .i64 n, .int .i64 n, .slice A L0.length cap] 26))
  have kb1 := hide (Box3.new (x := .int .i64 n) (y := .int .i64 n) (z := .slice A L0.length cap) w1 w1.heap.size 26 rfl)
  have HB1 := hide ((kb_call HBx.out (Nat.le_refl _) hb).alloc (kb_call HBx.out (Nat.le_refl _) hb).size (.cells #[.int .i64 n, .int .i64 n, .slice A L0.length cap] 26))
  have z := hb.size
  simp only [World.size_alloc] at z ho
  have HO1 := hide (ho.alloc (.cells #[.int .i64 n, .int .i64 n, .slice A L0.length cap] 26))
  have hne1 : Hid (∀ q, (Value.slice A L0.length cap).ownBlock = some q → q ≠ w1.heap.size) := fun q e => by have := Own.lt ho q e; omega
  clear ho hb b0 HBx
  go_wp2_with fail
  go_loopw [6] (fun iv wr => ∃ (q : Nat) (r c : Int) (zs : List Int) (A : Option Addr) (cap : Nat), iv = .int .i64 q ∧ q ≤ 6 ∧ MixP n r c zs ∧ Box3 wr w.heap.size (.int .i64 0) (.int .i64 0) (.slice none 0 0) ∧
      Box3 wr w1.heap.size (.int .i64 r) (.int .i64 c) (.slice A zs.length cap) ∧ Own wr (w.heap.size + 1) (.slice A zs.length cap) zs ∧ (∀ q, (Value.slice A zs.length cap).ownBlock = some q → q ≠ w1.heap.size) ∧ Below w.heap.size w wr) (fun iv _ => 6 - (intOf iv).toNat)
  case atStart => exact ⟨0, n, n, L0, A, cap, rfl, by omega, HMS.out, k1.out, kb1.out, HO1.out, hne1.out, HB1.out⟩
  case round =>
    clear HMS k1 kb1 HO1 hne1 HB1 UN hsz0
    obtain ⟨q, r, c, zs, A, cap, rfl, hq6, hmx, hb0, hbm, ho, hne, hB⟩ := hrel
    obtain ⟨wo, rfl⟩ : ∃ wo : World, wo = wr := ⟨_, rfl⟩
    have HMX := hide hmx
    have B0 := hide hb0
    have BM := hide hbm
    have HO := hide ho
    have HNE := hide hne
    have HBw := hide hB
    have hzs := mixP_len hmx
    have zr := hbm.lt
    clear hmx hb0 hbm ho hne hB
    by_cases hgo : q < cn ∧ q < 6 ∧ 1 < n
    · obtain ⟨hg1, hg2, hg3⟩ := hgo
      obtain ⟨g, off, rfl, hgB, hcc⟩ := (HS.out.below HBw.out) (by omega)
      obtain ⟨y, hy, y0, y1⟩ := hcc q hg1
      clear hcc
      obtain ⟨Y, rfl⟩ := Int.eq_ofNat_of_zero_le y0
      have d1 : decide ((q : Int) < (cn : Int)) = true := decide_eq_true (by omega)
      have d2 : decide ((q : Int) < 6) = true := decide_eq_true (by omega)
      have d3 : decide ((1 : Int) < (n : Int)) = true := decide_eq_true (by omega)
      -- the numbers of the row operation
      obtain ⟨K, hK⟩ : ∃ K : Nat, Y % n = K := ⟨_, rfl⟩
      obtain ⟨Q, hQ⟩ : ∃ Q : Nat, Y / 8 = Q := ⟨_, rfl⟩
      obtain ⟨Z, hZ⟩ : ∃ Z : Nat, Q % (n - 1) = Z := ⟨_, rfl⟩
      obtain ⟨J, hJ⟩ : ∃ J : Nat, (K + 1 + Z) % n = J := ⟨_, rfl⟩
      obtain ⟨V, hV⟩ : ∃ V : Nat, Y / 32 = V := ⟨_, rfl⟩
      obtain ⟨T, hT⟩ : ∃ T : Nat, V % 3 = T := ⟨_, rfl⟩
      have b1 : K < n := by rw [← hK]; exact Nat.mod_lt _ (by omega)
      have b2 : Z < n - 1 := by rw [← hZ]; exact Nat.mod_lt _ (by omega)
      have b3 : J < n := by rw [← hJ]; exact Nat.mod_lt _ (by omega)
      have b4 : K ≠ J := by
        intro e
        rw [← e] at hJ
        by_cases h : K + 1 + Z < n
        · rw [Nat.mod_eq_of_lt h] at hJ; omega
        · rw [Nat.mod_eq_sub_mod (by omega), Nat.mod_eq_of_lt (by omega)] at hJ; omega
      have hY : Y ≤ 255 := by omega
      have b5 : Q ≤ 31 := by omega
      have b6 : V ≤ 7 := by omega
      have b7 : T ≤ 2 := by omega
      have e0 : (Y : Int) % (n : Int) = (K : Int) := by rw [← hK]; push_cast; rfl
      have e1 : (Y : Int).tdiv 8 = (Q : Int) := by rw [Int.tdiv_eq_ediv_of_nonneg (by omega)]; omega
      have e2 : (Y : Int).tdiv 32 = (V : Int) := by rw [Int.tdiv_eq_ediv_of_nonneg (by omega)]; omega
      have e3 : (Q : Int).tmod ((n : Int) - 1) = (Z : Int) := by rw [Int.tmod_eq_emod_of_nonneg (by omega), ← hZ, show (n : Int) - 1 = ((n - 1 : Nat) : Int) from by omega]; push_cast; rfl
      have e4 : ((K : Int) + 1 + Z).tmod (n : Int) = (J : Int) := by rw [Int.tmod_eq_emod_of_nonneg (by omega), ← hJ]; push_cast; rfl
      have e4' : ((K : Int) + 1 + Z) % (n : Int) = (J : Int) := by rw [← hJ]; push_cast; rfl
      have e5 : (V : Int).tmod 3 = (T : Int) := by rw [Int.tmod_eq_emod_of_nonneg (by omega)]; omega
      have q1 : IntKind.i64.wrap ((K : Int) + 1) = (K : Int) + 1 := IntWalk.i64_in _ (by omega)
      have q2 : IntKind.i64.wrap ((n : Int) - 1) = (n : Int) - 1 := IntWalk.i64_in _ (by omega)
      have q3 : IntKind.i64.wrap (Q : Int) = (Q : Int) := IntWalk.i64_in _ (by omega)
      have q4 : IntKind.i64.wrap (V : Int) = (V : Int) := IntWalk.i64_in _ (by omega)
      have q5 : IntKind.i64.wrap ((K : Int) + 1 + Z) = (K : Int) + 1 + Z := IntWalk.i64_in _ (by omega)
      have q6 : IntKind.i64.wrap ((T : Int) - 1) = (T : Int) - 1 := IntWalk.i64_in _ (by omega)
      have q7 : IntKind.u8.wrap (Q : Int) = (Q : Int) := IntWalk.u8_in _ (by omega)
      have q8 : IntKind.u8.wrap (V : Int) = (V : Int) := IntWalk.u8_in _ (by omega)
      have m1 : ¬ ((n : Int) - 1 = 0) := by omega
      have m2 : ¬ ((n : Int) = 0) := by omega
      have m3 : ¬ (n = 0) := by omega
      have p1 : (0 : Int) ≤ (q : Int) := by omega
      have p2 : (q : Int) < (cn : Int) := by omega
      have HBJ := hide (And.intro b1 (And.intro b3 b4))
      clear hK hQ hZ hJ hV hT b4
      have hrb := mixP_r HMX.out
      have cr := fun A p w (h : Sl w A zs.length p zs) => specDoOp r c 2 K J ((T : Int) - 1) (by omega) (by omega) A p zs w h (by omega)
      have hmx := mix_step HMX.out hg3 b1 b3 HBJ.out.2.2 ((T : Int) - 1)
      have hrl := mixP_len hmx
      obtain ⟨⟨R', C', XS, ok⟩, hM⟩ : ∃ m, opRes r c zs 2 K J ((T : Int) - 1) = m := ⟨_, rfl⟩
      rw [hM] at cr hmx hrl
      have CR : Hid (∀ A p w, Sl w A zs.length p zs → Calls Try.prog 59 #[mv r c (.slice A zs.length p), opv 2 K J ((T : Int) - 1)] w (RetMat w R' C' XS ok)) := cr
      have HMX' : Hid (MixP n R' C' XS) := hmx
      clear cr hmx hM hrl hrb
      go_wp2_with fail
      rw [e0]
      clear e0
      go_cut [8] (fun s8 wx => ∃ (gx : Nat) (A0 : Option Addr) (z0 : Nat), s8 = .pointer (some ⟨gx, 0, none⟩) ∧ wo.heap.size ≤ gx ∧ Box3 wx gx (.int .i64 R') (.int .i64 C') (.slice A0 XS.length z0) ∧ Own wx wo.heap.size (.slice A0 XS.length z0) XS ∧ Below wo.heap.size wo wx)
      case first =>
        rename_i K0 hK0 J0 K1 hJ0 hM0
        clear hK0 K0
        have KS : Hid (∀ w', Below wo.heap.size wo w' → w'.cell? ⟨w1.heap.size, 0, none⟩ = some (.int .i64 r) ∧ w'.cell? ⟨w1.heap.size, 1, none⟩ = some (.int .i64 c) ∧ w'.cell? ⟨w1.heap.size, 2, none⟩ = some (.slice A zs.length cap) ∧ w'.cell? ⟨g, off + q, none⟩ = some (.int .u8 (Y : Int)) ∧ Below wo.heap.size wo w') := fun w' h => by
          obtain ⟨⟨x0, x1, x2⟩, _⟩ := BM.out.call h
          exact ⟨x0, x1, x2, kc_call hy h, h⟩
        go_region_held3 (fun w' => w'.cell? ⟨w1.heap.size, 0, none⟩ = some (.int .i64 r) ∧ w'.cell? ⟨w1.heap.size, 1, none⟩ = some (.int .i64 c) ∧ w'.cell? ⟨w1.heap.size, 2, none⟩ = some (.slice A zs.length cap) ∧ w'.cell? ⟨g, off + q, none⟩ = some (.int .u8 (Y : Int)) ∧ Below wo.heap.size wo w')
          (first
            | (with_reducible exact KS.out _ (Below.drew (Below.refl _ _)))
            | (with_reducible exact KS.out _ (Below.drew (Below.alloc (Below.refl _ _) (Nat.le_refl _) _)))
            | (have hh := (‹_ ∧ _ ∧ _ ∧ _ ∧ Below wo.heap.size wo _›).2.2.2.2
               first
               | (with_reducible exact KS.out _ (kb_call hh (Nat.le_refl _) hb))
               | (with_reducible exact KS.out _ (Below.alloc hh hh.size _))
               | exact KS.out _ (kb_swap hh (by omega))
               | exact KS.out _ (((hh.setCell (by dsimp only; omega) _).setCell (by dsimp only; omega) _).setCell (by dsimp only; omega) _)))
          (first
            | (go_at_call 59; have hh := (‹_ ∧ _ ∧ _ ∧ _ ∧ Below wo.heap.size wo _›).2.2.2.2; (with_reducible refine (CR.out _ _ _ (Own.sl2 (Own.below HO.out hh))).mono ?_); rintro e w2 ⟨s0, rfl, ho, hb⟩; have hz := hb.size; (try simp only [World.size_alloc, World.size_setCell, World.size_drew, size_drewN] at hz ho); obtain ⟨A0, z0, rfl, _⟩ := Own.sl ho; have hlo := Own.lt ho; have HO2 := hide ho; (first | have GB := hide (Box3.call (Box3.new (x := .int .i64 0) (y := .int .i64 0) (z := .slice none 0 0) _ _ _ rfl) hb) | have GB := hide (Box3.call (Box3.drew (Box3.new (x := .int .i64 0) (y := .int .i64 0) (z := .slice none 0 0) _ _ _ rfl)) hb) | have GB := hide (Box3.call GB.out hb) | skip); (try obtain ⟨⟨g0, g1, g2⟩, f0, f1, f2⟩ := GB.out); clear ho hh))
        all_goals (have hh := (‹_ ∧ _ ∧ _ ∧ _ ∧ Below wo.heap.size wo _›).2.2.2.2; have HH := hide hh; clear hh KS)
        all_goals go_wp2_with fail
        all_goals go_meet
        all_goals (refine ⟨_, A0, z0, rfl, by omega, ?_, ?_, HH.out⟩)
        all_goals first
          | (with_reducible exact Box3.stored GB.out _ _ _)
          | (with_reducible exact Box3.new _ _ _ rfl)
          | (with_reducible refine Own.mono (Own.alloc HO2.out _) ?_; omega)
          | (with_reducible refine Own.mono (Own.set (Own.set (Own.set HO2.out (own_nl hlo ?_) _) (own_nl hlo ?_) _) (own_nl hlo ?_) _) ?_ <;> first | omega | (dsimp only; omega))
      case rest =>
        obtain ⟨gx, A0, z0, rfl, hgx, kx, ho2, hBx⟩ := hcut
        have zx := kx.lt
        have zc := hBx.size
        have hl2 := Own.lt ho2
        have BM2 := hide (BM.out.call hBx)
        have B02 := hide (B0.out.call hBx)
        have KX := hide kx
        have HO2 := hide ho2
        have HB2 := hide (kb_call HBw.out (Nat.le_refl _) hBx)
        have zb0 := B0.out.lt
        clear kx ho2 hBx e1 e2 e3 e4 e4' e5 q1 q2 q3 q4 q5 q6 q7 q8 hy
        obtain ⟨⟨c0, c1, c2⟩, _⟩ := KX.out
        obtain ⟨⟨x0, x1, x2⟩, f0, f1, f2⟩ := BM2.out
        go_wp2_with fail
        go_roundw
        case rel => exact ⟨q + 1, R', C', XS, A0, z0, by go_num, by omega, HMX'.out, ((B02.out.set (by dsimp only; omega) _).set (by dsimp only; omega) _).set (by dsimp only; omega) _, Box3.stored BM2.out _ _ _, Own.mono (Own.set (Own.set (Own.set HO2.out (own_nl hl2 (.inl (by dsimp only; omega))) _) (own_nl hl2 (.inl (by dsimp only; omega))) _) (own_nl hl2 (.inl (by dsimp only; omega))) _) (by omega), fun j e => by have := hl2 j e; omega, ((HB2.out.setCell (by dsimp only; omega) _).setCell (by dsimp only; omega) _).setCell (by dsimp only; omega) _⟩
        case measure => simp [intOf]; omega
    · obtain ⟨⟨c0, c1, c2⟩, _⟩ := BM.out
      obtain ⟨⟨x0, x1, x2⟩, f0, f1, f2⟩ := B0.out
      have hl2 := Own.lt HO.out
      obtain ⟨⟨m0, m1, m2⟩, _⟩ := Box3.stored B0.out (.int .i64 r) (.int .i64 c) (.slice A zs.length cap)
      have RT : Hid (RetMix n w (.returned (mv r c (.slice A zs.length cap))) (((wo.setCell ⟨w.heap.size, 0, none⟩ (.int .i64 r)).setCell ⟨w.heap.size, 1, none⟩ (.int .i64 c)).setCell ⟨w.heap.size, 2, none⟩ (.slice A zs.length cap))) :=
        ⟨r, c, zs, _, rfl, HMX.out, Own.mono (Own.set (Own.set (Own.set HO.out (own_nl hl2 (.inl (by dsimp only; omega))) _) (own_nl hl2 (.inl (by dsimp only; omega))) _) (own_nl hl2 (.inl (by dsimp only; omega))) _) (by omega), ((HBw.out.setCell (by dsimp only; omega) _).setCell (by dsimp only; omega) _).setCell (by dsimp only; omega) _⟩
      by_cases h1 : q < cn
      · have d1 : decide ((q : Int) < (cn : Int)) = true := decide_eq_true (by omega)
        by_cases h2 : q < 6
        · have d2 : decide ((q : Int) < 6) = true := decide_eq_true (by omega)
          have d3 : decide ((1 : Int) < (n : Int)) = false := decide_eq_false (by omega)
          clear hgo
          go_wp2
          exact bodyPost_ret (v := mv (r) (c) (.slice A zs.length cap)) (by first | (simp [results, Try.results28, go_sem, m0, m1, m2]; done) | (simp [results, Try.results28, go_sem]; done)) rfl RT.out
        · have d2 : decide ((q : Int) < 6) = false := decide_eq_false (by omega)
          clear hgo
          go_wp2
          exact bodyPost_ret (v := mv (r) (c) (.slice A zs.length cap)) (by first | (simp [results, Try.results28, go_sem, m0, m1, m2]; done) | (simp [results, Try.results28, go_sem]; done)) rfl RT.out
      · have d1 : decide ((q : Int) < (cn : Int)) = false := decide_eq_false (by omega)
        clear hgo
        go_wp2
        exact bodyPost_ret (v := mv (r) (c) (.slice A zs.length cap)) (by first | (simp [results, Try.results28, go_sem, m0, m1, m2]; done) | (simp [results, Try.results28, go_sem]; done)) rfl RT.out
end Go.Proofs.Ytjopanbccfebnaa
