/- The walks of the determinant along the first row. -/
import Derived.Test.YtchlaebkigmfgaaCrossW
import Derived.Test.YtchlaebkigmfgaaCellW
import Derived.Test.YtchlaebkigmfgaaDetO
import Derived.Test.YtchlaebkigmfgaaRowLib
import Derived.Test.YtchlaebkigmfgaaScaleL
import Derived.IntWalk
namespace Go.Proofs.Ytchlaebkigmfgaa
open Go.RowKit
set_option linter.unusedSimpArgs false
set_option linter.unusedVariables false

/-- What the program's inner determinant gives. -/
def RetDet (w : World) (o : Option Int) (e : Ending) (w' : World) : Prop := (∃ v : Int, e = .returned (.tuple #[.int .i64 v, .bool o.isSome]) ∧ ∀ d, o = some d → d = v) ∧ Below w.heap.size w w'
def RetMark (w : World) (o : Option Int) (e : Ending) (w' : World) : Prop := e = .returned (.int .i64 (markO o)) ∧ Below w.heap.size w w'
theorem retDet_some {w w' : World} {d : Int} {o : Option Int} (h : o = some d) (hb : Below w.heap.size w w') : RetDet w o (.returned (.tuple #[.int .i64 d, .bool true])) w' := by
  subst h
  exact ⟨⟨d, rfl, fun _ e => by simpa using e.symm⟩, hb⟩
theorem retDet_none {w w' : World} {v : Int} {o : Option Int} (h : o = none) (hb : Below w.heap.size w w') : RetDet w o (.returned (.tuple #[.int .i64 v, .bool false])) w' := by
  subst h
  exact ⟨⟨v, rfl, fun _ e => by cases e⟩, hb⟩
theorem retDet_fit {w w' : World} {s : Int} {o : Option Int} (h : o = fitO (some s)) (hb : Below w.heap.size w w') : RetDet w o (.returned (.tuple #[.int .i64 s, .bool (isNum s)])) w' := by
  subst h
  rcases Bool.eq_false_or_eq_true (isNum s) with h | h
  · rw [h]; exact retDet_some (by simp [fitO, h]) hb
  · rw [h]; exact retDet_none (by simp [fitO, h]) hb
theorem retDet_no {w w' : World} {e : Ending} (h : RetDet w none e w') : (∃ v : Int, e = .returned (.tuple #[.int .i64 v, .bool false])) ∧ Below w.heap.size w w' := by
  obtain ⟨⟨v, e, _⟩, hb⟩ := h
  exact ⟨⟨v, e⟩, hb⟩
theorem retDet_yes {w w' : World} {d : Int} {e : Ending} (h : RetDet w (some d) e w') : e = .returned (.tuple #[.int .i64 d, .bool true]) ∧ Below w.heap.size w w' := by
  obtain ⟨⟨v, e, hv⟩, hb⟩ := h
  have := hv d rfl
  subst this
  exact ⟨e, hb⟩
theorem detL_zero (xs : List Int) : detL 0 xs = some 1 := rfl
theorem detL_succ (n : Nat) (xs : List Int) : detL (n + 1) xs = fitO (accO (detO n) (toM (n + 1) xs) (n + 1)) := rfl
theorem toM_top {n j : Nat} {xs : List Int} : toM n xs 0 j = xs.getD j 0 := by simp [toM]
theorem accO_next0 {n j : Nat} {xs : List Int} (h : xs.getD j 0 = 0) : accO (detO n) (toM (n + 1) xs) (j + 1) = accO (detO n) (toM (n + 1) xs) j := accO_zero (by rw [toM_top]; exact h)
theorem accO_next {n j : Nat} {xs : List Int} {s d c : Int} (hs : accO (detO n) (toM (n + 1) xs) j = some s) (hc : xs.getD j 0 = c) (h : c ≠ 0) (hd : detL n (crossL (n + 1) (n + 1) 0 j xs) = some d) : accO (detO n) (toM (n + 1) xs) (j + 1) = some (s + Det.sgn j * c * d) := by
  rw [accO_some hs (by rw [toM_top, hc]; exact h) (by rw [← detL_cross]; exact hd), toM_top, hc]
theorem detL_bad {n j : Nat} {xs : List Int} (hj : j < n + 1) (h : xs.getD j 0 ≠ 0) (hd : detL n (crossL (n + 1) (n + 1) 0 j xs) = none) : detL (n + 1) xs = none := by
  rw [detL_succ, accO_bad (k := j) (by rw [toM_top]; exact h) (by rw [← detL_cross]; exact hd) hj]; rfl
theorem accO_bd {n j : Nat} {xs : List Int} {s : Int} (hx : xs.all isNum = true) (hl : xs.length = (n + 1) * (n + 1)) (hn : n + 1 ≤ 6) (hj : j ≤ n + 1) (h : accO (detO n) (toM (n + 1) xs) j = some s) : -960000000000000000 ≤ s ∧ s ≤ 960000000000000000 := by
  have h1 := accO_in (fun i hi => by rw [toM_top]; exact all_getD hx (by rw [hl, Nat.add_mul]; omega)) h
  have h2 : (j : Int) * 160000000000000000 ≤ 6 * 160000000000000000 := by omega
  omega

theorem implCrossTop (n j : Nat) (A : Option Addr) (cap : Nat) (xs : List Int) (w : World) (hA : Sl w A xs.length cap xs) (hlx : xs.length = (n + 1) * (n + 1)) (hn : n + 1 ≤ 6) (hj : j < n + 1) :
    Calls Try.prog 61 #[mv ((n + 1 : Nat) : Int) ((n + 1 : Nat) : Int) (.slice A xs.length cap), .int .i64 0, .int .i64 (j : Int)] w (RetM3 w (n : Int) (n : Int) (crossL (n + 1) (n + 1) 0 j xs)) := by
  have h := implCrossIn (n + 1) (n + 1) 0 j A cap xs w hA hlx (by omega) (by omega) (by omega) hj
  rwa [show ((n + 1 : Nat) : Int) - 1 = (n : Int) from by omega] at h
theorem specCrossTop (n j : Nat) (A : Option Addr) (cap : Nat) (xs : List Int) (w : World) (hA : Sl w A xs.length cap xs) (hlx : xs.length = (n + 1) * (n + 1)) (hn : n + 1 ≤ 6) (hj : j < n + 1) :
    Calls Try.prog 57 #[mv ((n + 1 : Nat) : Int) ((n + 1 : Nat) : Int) (.slice A xs.length cap), .int .i64 0, .int .i64 (j : Int)] w (RetM3 w (n : Int) (n : Int) (crossL (n + 1) (n + 1) 0 j xs)) := by
  have h := specCrossIn (n + 1) (n + 1) 0 j A cap xs w hA hlx (by omega) (by omega) (by omega) hj
  rwa [show ((n + 1 : Nat) : Int) - 1 = (n : Int) from by omega] at h
set_option maxHeartbeats 8000000 in
theorem implDet (n : Nat) : ∀ (A : Option Addr) (cap : Nat) (xs : List Int) (w : World), Sl w A xs.length cap xs → xs.length = n * n → n ≤ 6 → xs.all isNum = true →
    Calls Try.prog 44 #[mv (n : Int) (n : Int) (.slice A xs.length cap)] w (RetDet w (detL n xs)) := by
  induction n with
  | zero =>
    intro A cap xs w hA hl hn hx
    clear hl hx
    go_enter Try.func44, Try.ntmps44
    go_wp2_with fail
    go_returns
    exact retDet_some (detL_zero xs) (by repeat' (first | exact Below.refl _ _ | (refine Below.alloc ?_ ?_ _) | (refine Below.setCell ?_ ?_ _) | (refine Below.drew ?_) | (refine below_drewN ?_ _) | (refine Below.trans ?_ (Below.mono (by assumption) ?_)) | omega | (simp only [World.size_alloc, World.size_setCell, World.size_drew, size_drewN]; omega)))
  | succ n ih =>
    intro A cap xs w hA hl hn hx
    have HA := hide hA; clear hA
    have HL := hide hl
    have hxl : xs.length ≤ 36 := by rw [hl]; exact Nat.mul_le_mul hn hn
    have hlt : ∀ j, j < n + 1 → j < xs.length := fun j hj => by rw [hl, Nat.add_mul]; omega
    have HLT := hide hlt; clear hlt hl
    have HX := hide hx; clear hx
    have IH := hide ih; clear ih
    have HN : Hid ((n : Int) + 1 = ((n + 1 : Nat) : Int)) := by rw [Hid]; push_cast; rfl
    obtain ⟨N, hN⟩ : ∃ N, n + 1 = N := ⟨_, rfl⟩
    have e0 : ((N : Int) == 0) = false := by simp; omega
    have CT := hide (fun j A cap w (h : Sl w A xs.length cap xs) hj => implCrossTop n j A cap xs w h HL.out hn hj)
    have DB := hide (fun j (hj : j < n + 1) (h : xs.getD j 0 ≠ 0) => @detL_bad n j xs hj h)
    have DS := hide (detL_succ n xs)
    have BD := hide (fun j s (hj : j ≤ n + 1) => @accO_bd n j xs s HX.out HL.out hn hj)
    have NX0 := hide (fun j => @accO_next0 n j xs)
    have NX := hide (fun j s d c => @accO_next n j xs s d c)
    have CN := hide (fun j (hj : j < n + 1) => crossL_num (i := 0) HX.out HL.out (by omega) hj)
    have CL := hide (fun j => show (crossL (n + 1) (n + 1) 0 j xs).length = n * n by rw [crossL, ofM_length]; rfl)
    have hn' : n ≤ 6 := by omega
    rw [hN] at CT DB DS BD HLT NX0 NX CN CL hn ⊢
    have HNN := hide hN; clear hN HN
    go_enter Try.func44, Try.ntmps44
    go_wp2_with fail
    go_loopw [4, 5] (fun sv jv wr => ∃ (j : Nat) (s : Int), j ≤ N ∧ jv = .int .i64 j ∧ sv = .int .i64 s ∧ Hid (accO (detO n) (toM N xs) j = some s) ∧ Box3 wr w.heap.size (.int .i64 N) (.int .i64 N) (.slice A xs.length cap) ∧ Below w.heap.size w wr) (fun _ jv _ => N - (intOf jv).toNat)
    case atStart => exact ⟨0, 0, Nat.zero_le _, rfl, rfl, rfl, (by repeat' (first | with_reducible assumption | (with_reducible refine Box3.set ?_ ?_ _) | (with_reducible refine Box3.drew ?_) | (with_reducible refine Box3.drewN ?_ _) | (with_reducible exact Box3.new _ _ _ (by first | rfl | (simp only [World.size_alloc]; done) | (simp only [World.size_alloc]; omega))) | (with_reducible refine Box3.alloc ?_ _) | (with_reducible refine Box3.call ?_ (by assumption)) | (with_reducible refine Box3.grown ?_ (by assumption) (by simp; omega)) | omega | (dsimp only; omega) | (simp only [World.size_alloc, World.size_setCell, World.size_drew, size_drewN]; omega))), (by repeat' (first | exact Below.refl _ _ | (refine Below.alloc ?_ ?_ _) | (refine Below.setCell ?_ ?_ _) | (refine Below.drew ?_) | (refine below_drewN ?_ _) | (refine Below.trans ?_ (Below.mono (by assumption) ?_)) | omega | (simp only [World.size_alloc, World.size_setCell, World.size_drew, size_drewN]; omega)))⟩
    case round =>
      obtain ⟨j, s, hj, rfl, rfl, hs, b0, hB⟩ := hrel
      obtain ⟨wo, rfl⟩ : ∃ wo : World, wo = wr := ⟨_, rfl⟩
      have hs1 := BD.out j s hj hs.out
      have B0 := hide b0
      have HB := hide hB
      obtain ⟨⟨a0, a1, a2⟩, _⟩ := b0
      clear hB
      by_cases hlt : j < N
      · have hjx := HLT.out j hlt
        obtain ⟨c, hc⟩ : ∃ c, xs.getD j 0 = c := ⟨_, rfl⟩
        have HC := hide hc
        have hcn := isNum_t (hc ▸ all_getD HX.out hjx)
        have HA1 := hide (HA.out.below HB.out)
        have h0N : (0 : Int) * N = 0 := Int.zero_mul _
        have H0 : Hid ((0 : Int) * N = (j : Int) - j) := by rw [Hid, h0N]; omega
        clear hc
        go_wp2_with fail
        refine (implAt N N 0 j j c A cap xs _ HA1.out.2.2.2.2 (by omega) H0 hjx HC (by omega) (by omega) (by omega) (by omega)).mono ?_; rintro e w1 ⟨rfl, hb⟩
        have B1 := hide (B0.out.call hb)
        have HB1 := hide (kb_call HB.out (Nat.le_refl _) hb)
        have HA2 := hide (HA1.out.below hb)
        clear hb a0 a1 a2 B0 HB HA1 h0N
        obtain ⟨⟨a0, a1, a2⟩, _⟩ := B1.out
        by_cases hc0 : c = 0
        · have hcz : (c == 0) = true := by simpa using hc0
          have HN1 : Hid (accO (detO n) (toM N xs) (j + 1) = some s) := (NX0.out j (by rw [HC.out]; exact hc0)).trans hs.out
          clear hc0
          go_wp2_with fail
          go_roundw
          case rel => exact ⟨j + 1, s, by omega, by go_num, rfl, HN1, B1.out, HB1.out⟩
          case measure => simp [intOf]; omega
        · have hcz : (c == 0) = false := by simpa using hc0
          have HC0 := hide hc0
          clear hc0
          go_wp2_with fail
          refine (CT.out j A cap _ HA2.out hlt).mono ?_; rintro e w2 ⟨s2, rfl, ho, hb⟩
          have B2 := hide (B1.out.call hb)
          have HB2 := hide (kb_call HB1.out (Nat.le_refl _) hb)
          obtain ⟨A2, z2, rfl, hs2⟩ := Own.full ho
          have ihd := IH.out A2 z2 _ w2 hs2 (CL.out j) hn' (CN.out j hlt)
          have DBj := hide (DB.out j hlt (by rw [HC.out]; exact HC0.out))
          have NXj := hide (fun d => NX.out j s d c hs.out HC.out HC0.out)
          obtain ⟨L, hL⟩ : ∃ L, crossL N N 0 j xs = L := ⟨_, rfl⟩
          rw [hL] at ihd DBj NXj ⊢
          clear hb ho hs2 a0 a1 a2 B1 HB1 HA2 hL
          cases hd : detL n L with
          | none =>
            rw [hd] at ihd DBj
            have HD : Hid (detL N xs = none) := DBj.out rfl
            have IHD := hide ihd
            clear ihd DBj NXj hd
            go_wp2_with fail
            refine IHD.out.mono ?_; rintro e w3 hr; obtain ⟨⟨v, rfl⟩, hb⟩ := retDet_no hr
            clear hr
            have HB3 := hide (kb_call HB2.out (Nat.le_refl _) hb); clear hb
            go_wp2_with fail
            go_returns
            exact retDet_none HD.out HB3.out
          | some d =>
            have hdn := isNum_t (detO_num hd)
            have NXd := hide (NXj.out d hd)
            rw [hd] at ihd
            have IHD := hide ihd
            clear ihd DBj NXj hd
            go_wp2_with fail
            refine IHD.out.mono ?_; rintro e w3 hr; obtain ⟨rfl, hb⟩ := retDet_yes hr
            clear hr
            have B3 := hide (B2.out.call hb)
            have HB3 := hide (kb_call HB2.out (Nat.le_refl _) hb); clear hb
            have hcd := mul_in hcn hdn
            by_cases hp : j % 2 = 1
            · have hpb : ((j : Int) % 2 == 1) = true := by simp; omega
              have hsg : Hid (Det.sgn j * c * d = -c * d) := by rw [Hid, Det.sgn, if_neg (by omega), Int.neg_mul, Int.one_mul]
              have hcd2 : -c * d = -(c * d) := Int.neg_mul _ _
              have k1 : IntKind.i64.wrap (-c * d) = -c * d := IntWalk.i64_in _ (by omega)
              have k2 : IntKind.i64.wrap (s + -c * d) = s + -c * d := IntWalk.i64_in _ (by omega)
              clear hcd2 hp
              go_wp2_with fail
              go_roundw
              case rel => exact ⟨j + 1, s + -c * d, by omega, by go_num, rfl, by rw [Hid, NXd.out, hsg.out], B3.out, HB3.out⟩
              case measure => simp [intOf]; omega
            · have hpb : ((j : Int) % 2 == 1) = false := by simp; omega
              have hsg : Hid (Det.sgn j * c * d = c * d) := by rw [Hid, Det.sgn, if_pos (by omega), Int.one_mul]
              have k1 : IntKind.i64.wrap (c * d) = c * d := IntWalk.i64_in _ (by omega)
              have k2 : IntKind.i64.wrap (s + c * d) = s + c * d := IntWalk.i64_in _ (by omega)
              clear hp
              go_wp2_with fail
              go_roundw
              case rel => exact ⟨j + 1, s + c * d, by omega, by go_num, rfl, by rw [Hid, NXd.out, hsg.out], B3.out, HB3.out⟩
              case measure => simp [intOf]; omega
      · have hjj : j = N := by omega
        have HF : Hid (detL N xs = fitO (some s)) := by have h5 := hs.out; rw [hjj] at h5; rw [Hid, DS.out, h5]
        subst hjj
        go_wp2_with fail
        refine (implIsNumber _ _).mono ?_; rintro e w1 ⟨rfl, rfl⟩
        go_wp2_with fail
        go_returns
        exact retDet_fit HF.out HB.out
set_option maxHeartbeats 8000000 in
theorem specDet (n : Nat) : ∀ (A : Option Addr) (cap : Nat) (xs : List Int) (w : World), Sl w A xs.length cap xs → xs.length = n * n → n ≤ 6 → xs.all isNum = true →
    Calls Try.prog 41 #[mv (n : Int) (n : Int) (.slice A xs.length cap)] w (RetMark w (detL n xs)) := by
  induction n with
  | zero =>
    intro A cap xs w hA hl hn hx
    clear hl hx
    go_enter Try.func41, Try.ntmps41
    go_wp2_with fail
    go_returns
    exact ⟨rfl, (by repeat' (first | exact Below.refl _ _ | (refine Below.alloc ?_ ?_ _) | (refine Below.setCell ?_ ?_ _) | (refine Below.drew ?_) | (refine below_drewN ?_ _) | (refine Below.trans ?_ (Below.mono (by assumption) ?_)) | omega | (simp only [World.size_alloc, World.size_setCell, World.size_drew, size_drewN]; omega)))⟩
  | succ n ih =>
    intro A cap xs w hA hl hn hx
    have HA := hide hA; clear hA
    have HL := hide hl
    have hxl : xs.length ≤ 36 := by rw [hl]; exact Nat.mul_le_mul hn hn
    have hlt : ∀ j, j < n + 1 → j < xs.length := fun j hj => by rw [hl, Nat.add_mul]; omega
    have HLT := hide hlt; clear hlt hl
    have HX := hide hx; clear hx
    have IH := hide ih; clear ih
    have HN : Hid ((n : Int) + 1 = ((n + 1 : Nat) : Int)) := by rw [Hid]; push_cast; rfl
    obtain ⟨N, hN⟩ : ∃ N, n + 1 = N := ⟨_, rfl⟩
    have e0 : ((N : Int) == 0) = false := by simp; omega
    have CT := hide (fun j A cap w (h : Sl w A xs.length cap xs) hj => specCrossTop n j A cap xs w h HL.out hn hj)
    have DB := hide (fun j (hj : j < n + 1) (h : xs.getD j 0 ≠ 0) => @detL_bad n j xs hj h)
    have DS := hide (detL_succ n xs)
    have BD := hide (fun j s (hj : j ≤ n + 1) => @accO_bd n j xs s HX.out HL.out hn hj)
    have NX0 := hide (fun j => @accO_next0 n j xs)
    have NX := hide (fun j s d c => @accO_next n j xs s d c)
    have CN := hide (fun j (hj : j < n + 1) => crossL_num (i := 0) HX.out HL.out (by omega) hj)
    have CL := hide (fun j => show (crossL (n + 1) (n + 1) 0 j xs).length = n * n by rw [crossL, ofM_length]; rfl)
    have hn' : n ≤ 6 := by omega
    rw [hN] at CT DB DS BD HLT NX0 NX CN CL hn ⊢
    have HNN := hide hN; clear hN HN
    go_enter Try.func41, Try.ntmps41
    go_wp2_with fail
    go_loopw [3, 4, 5] (fun sv gv jv wr => ∃ (j : Nat) (s : Int), j ≤ N ∧ jv = .int .i64 j ∧ sv = .int .i64 s ∧ gv = .int .i64 (Det.sgn j) ∧ Hid (accO (detO n) (toM N xs) j = some s) ∧ Box3 wr w.heap.size (.int .i64 N) (.int .i64 N) (.slice A xs.length cap) ∧ Below w.heap.size w wr) (fun _ _ jv _ => N - (intOf jv).toNat)
    case atStart => exact ⟨0, 0, Nat.zero_le _, rfl, rfl, rfl, rfl, (by repeat' (first | with_reducible assumption | (with_reducible refine Box3.set ?_ ?_ _) | (with_reducible refine Box3.drew ?_) | (with_reducible refine Box3.drewN ?_ _) | (with_reducible exact Box3.new _ _ _ (by first | rfl | (simp only [World.size_alloc]; done) | (simp only [World.size_alloc]; omega))) | (with_reducible refine Box3.alloc ?_ _) | (with_reducible refine Box3.call ?_ (by assumption)) | (with_reducible refine Box3.grown ?_ (by assumption) (by simp; omega)) | omega | (dsimp only; omega) | (simp only [World.size_alloc, World.size_setCell, World.size_drew, size_drewN]; omega))), (by repeat' (first | exact Below.refl _ _ | (refine Below.alloc ?_ ?_ _) | (refine Below.setCell ?_ ?_ _) | (refine Below.drew ?_) | (refine below_drewN ?_ _) | (refine Below.trans ?_ (Below.mono (by assumption) ?_)) | omega | (simp only [World.size_alloc, World.size_setCell, World.size_drew, size_drewN]; omega)))⟩
    case round =>
      obtain ⟨j, s, hj, rfl, rfl, rfl, hs, b0, hB⟩ := hrel
      obtain ⟨wo, rfl⟩ : ∃ wo : World, wo = wr := ⟨_, rfl⟩
      have hs1 := BD.out j s hj hs.out
      have B0 := hide b0
      have HB := hide hB
      obtain ⟨⟨a0, a1, a2⟩, _⟩ := b0
      clear hB
      have hsn : Det.sgn (j + 1) = - Det.sgn j := Det.sgn_succ j
      have hs01 : Det.sgn j = 1 ∨ Det.sgn j = -1 := by unfold Det.sgn; split <;> simp
      obtain ⟨g, hg⟩ : ∃ g, Det.sgn j = g := ⟨_, rfl⟩
      rw [hg] at hsn hs01 ⊢
      have HSN := hide hsn
      have HG := hide hg
      have hg1 : -1 ≤ g ∧ g ≤ 1 := by omega
      have HG01 := hide hs01
      clear hsn hg hs01
      by_cases hlt : j < N
      · have hjx := HLT.out j hlt
        have HA1 := hide (HA.out.below HB.out)
        obtain ⟨ga, off, rfl, hcell⟩ := HA1.out.2.2.2.2 (by omega)
        obtain ⟨c, hc⟩ : ∃ c, xs.getD j 0 = c := ⟨_, rfl⟩
        have HC := hide hc
        have hcx := hcell j hjx
        rw [hc] at hcx
        have hcn := isNum_t (hc ▸ all_getD HX.out hjx)
        have hj0 : (0 : Int) ≤ (j : Int) := by omega
        have hj1 : (j : Int) < (xs.length : Int) := by omega
        clear hc hcell
        by_cases hc0 : c = 0
        · have hcz : (c != 0) = false := by simpa using hc0
          have HN1 : Hid (accO (detO n) (toM N xs) (j + 1) = some s) := (NX0.out j (by rw [HC.out]; exact hc0)).trans hs.out
          clear hc0
          go_wp2_with fail
          go_roundw
          case rel => exact ⟨j + 1, s, by omega, by go_num, rfl, by rw [HSN.out], HN1, B0.out, HB.out⟩
          case measure => simp [intOf]; omega
        · have hcz : (c != 0) = true := by simpa using hc0
          have HC0 := hide hc0
          clear hc0
          go_wp2_with fail
          refine (CT.out j _ cap _ HA1.out hlt).mono ?_; rintro e w2 ⟨s2, rfl, ho, hb⟩
          have B2 := hide (B0.out.call hb)
          have HB2 := hide (kb_call HB.out (Nat.le_refl _) hb)
          obtain ⟨A2, z2, rfl, hs2⟩ := Own.full ho
          have ihd := IH.out A2 z2 _ w2 hs2 (CL.out j) hn' (CN.out j hlt)
          have DBj := hide (DB.out j hlt (by rw [HC.out]; exact HC0.out))
          have NXj := hide (fun d => NX.out j s d c hs.out HC.out HC0.out)
          have hcx2 := kc_call hcx hb
          obtain ⟨L, hL⟩ : ∃ L, crossL N N 0 j xs = L := ⟨_, rfl⟩
          rw [hL] at ihd DBj NXj ⊢
          clear hb ho hs2 a0 a1 a2 B0 HB HA1 hL hcx
          cases hd : detL n L with
          | none =>
            rw [hd] at ihd DBj
            have HD : Hid (detL N xs = none) := DBj.out rfl
            have IHD := hide ihd
            clear ihd DBj NXj hd
            go_wp2_with fail
            refine IHD.out.mono ?_; rintro e w3 ⟨rfl, hb⟩
            have HB3 := hide (kb_call HB2.out (Nat.le_refl _) hb); clear hb
            have hbad : (badN == -4611686018427387904) = true := by decide
            have hmk : markO none = badN := rfl
            go_wp2_with fail
            go_returns
            exact ⟨by rw [HD.out]; rfl, HB3.out⟩
          | some d =>
            have hdn := isNum_t (detO_num hd)
            have NXd := hide (NXj.out d hd)
            have hdb : (d == -4611686018427387904) = false := by simp; omega
            rw [hd] at ihd
            have IHD : Hid (Calls Try.prog 41 #[mv (n : Int) (n : Int) (.slice A2 L.length z2)] w2 fun e w' => e = .returned (.int .i64 d) ∧ Below w2.heap.size w2 w') := ihd
            clear ihd DBj NXj hd
            go_wp2_with fail
            refine IHD.out.mono ?_; rintro e w3 ⟨rfl, hb⟩
            have B3 := hide (B2.out.call hb)
            have HB3 := hide (kb_call HB2.out (Nat.le_refl _) hb)
            have hcx3 := kc_call hcx2 hb
            clear hb hcx2
            obtain ⟨⟨a0, a1, a2⟩, _⟩ := B3.out
            have hcd := mul_in hcn hdn
            have hgc : -400000000 ≤ g * c ∧ g * c ≤ 400000000 := by rcases HG01.out with rfl | rfl <;> omega
            have hgcd : -160000000000000000 ≤ g * c * d ∧ g * c * d ≤ 160000000000000000 := mul_in hgc hdn
            have k0 : IntKind.i64.wrap (g * c) = g * c := IntWalk.i64_in _ (by omega)
            have k1 : IntKind.i64.wrap (g * c * d) = g * c * d := IntWalk.i64_in _ (by omega)
            have k2 : IntKind.i64.wrap (s + g * c * d) = s + g * c * d := IntWalk.i64_in _ (by omega)
            clear hgc hcd
            go_wp2_with fail
            go_roundw
            case rel => exact ⟨j + 1, s + g * c * d, by omega, by go_num, rfl, by rw [HSN.out], by rw [Hid, NXd.out, HG.out], B3.out, HB3.out⟩
            case measure => simp [intOf]; omega
      · have hjj : j = N := by omega
        have HF : Hid (detL N xs = fitO (some s)) := by have h5 := hs.out; rw [hjj] at h5; rw [Hid, DS.out, h5]
        subst hjj
        go_wp2_with fail
        refine (specFit _ _).mono ?_; rintro e w1 ⟨rfl, rfl⟩
        go_wp2_with fail
        go_returns
        exact ⟨ret_int (by rw [HF.out, markO_fit]), HB.out⟩
end Go.Proofs.Ytchlaebkigmfgaa
