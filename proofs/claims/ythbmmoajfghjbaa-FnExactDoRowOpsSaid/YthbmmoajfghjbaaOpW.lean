/- The walks of a row operation in place, the program's. -/
import Derived.Test.YthbmmoajfghjbaaRowW
import Derived.Test.YthbmmoajfghjbaaRowOpI
import Derived.Test.YthbmmoajfghjbaaOpL
import Derived.Test.YthbmmoajfghjbaaRowLib
import Derived.IntWalk
import Derived.StillTailTactics
import Derived.BigRegion
import Derived.Deep.QuietTactic
import Derived.BigQuiet
namespace Go.Proofs.Ythbmmoajfghjbaa
open Go.RowKit
set_option linter.unusedSimpArgs false
set_option linter.unusedVariables false

def okAt (C i j : Nat) (t : Int) (xs : List Int) (k : Nat) : Bool := isNum (xs.getD (j * C + k) 0 * t) && isNum (xs.getD (i * C + k) 0 + xs.getD (j * C + k) 0 * t)
def opOk (C i j : Nat) (t : Int) (xs : List Int) : Bool := (List.range C).all (okAt C i j t xs)
/-- What an operation in place leaves. -/
def RowPost (w : World) (g lo : Nat) (s : Value) (L : List Int) (ok : Bool) (e : Ending) (w' : World) : Prop := e = .returned (.bool ok) ∧ (ok = true → Own w' lo s L) ∧ w.grownBy w' (some g)
set_option maxHeartbeats 8000000 in
theorem implRowOp_swap (R C i j : Nat) (t : Int) (g cap lo : Nat) (xs : List Int) (w : World) (hO : Own w lo (.slice (some ⟨g, 0, none⟩) (R * C) cap) xs) (hlx : xs.length = R * C) (HR : R ≤ 24) (HC : C ≤ 24) (h0 : 0 < C) (hcap : R * C ≤ cap) (hcm : cap ≤ maxLen) (hi : i < R) (hj : j < R) (hij : i ≠ j) :
    Calls Try.prog 39 #[mv R C (.slice (some ⟨g, 0, none⟩) (R * C) cap), opv 0 i j t] w fun e w' => e = .returned (.bool true) ∧ Own w' lo (.slice (some ⟨g, 0, none⟩) (R * C) cap) (opL R C 0 i j 0 xs) ∧ w.grownBy w' (some g) := by
  have hS : SlI w (some ⟨g, 0, none⟩) xs := (Own.reads (xs := xs) (n := R * C) (c := cap) hO).2
  have hn : R * C ≤ 576 := Nat.mul_le_mul HR HC
  have hai : i * C + C ≤ R * C := by
    have : (i + 1) * C ≤ R * C := Nat.mul_le_mul_right _ hi
    rwa [Nat.add_mul, Nat.one_mul] at this
  have haj : j * C + C ≤ R * C := by
    have : (j + 1) * C ≤ R * C := Nat.mul_le_mul_right _ hj
    rwa [Nat.add_mul, Nat.one_mul] at this
  have I1 : Hid ((i : Int) * C = ((i * C : Nat) : Int)) := by simp [Hid]
  have I2 : Hid (((i : Int) + 1) * C = ((i * C + C : Nat) : Int)) := by rw [Hid]; push_cast; rw [Int.add_mul, Int.one_mul]
  have J1 : Hid ((j : Int) * C = ((j * C : Nat) : Int)) := by simp [Hid]
  have J2 : Hid (((j : Int) + 1) * C = ((j * C + C : Nat) : Int)) := by rw [Hid]; push_cast; rw [Int.add_mul, Int.one_mul]
  have HS0 := hide (opTo_start (kind := 0) (i := i) (j := j) (t := 0) hlx)
  have HSE := hide (opTo_end (R := R) (C := C) (kind := 0) (i := i) (j := j) (t := 0) (xs := xs))
  have HF1 : Hid (∀ k, (tab (R * C) (opTo C 0 i j 0 xs k)).set (i * C + k) (xs.getD (j * C + k) 0) = tab (R * C) (swTo C i j xs k)) := fun k => swTo_first
  have HF2 : Hid (∀ k, k < C → (tab (R * C) (swTo C i j xs k)).set (j * C + k) (xs.getD (i * C + k) 0) = tab (R * C) (opTo C 0 i j 0 xs (k + 1))) := fun k hk => swTo_second hij hk
  have HAI : Hid (∀ k, k < C → opTo C 0 i j 0 xs k (i * C + k) = xs.getD (i * C + k) 0) := fun k hk => opTo_at hk
  have HAJ : Hid (∀ k, k < C → opTo C 0 i j 0 xs k (j * C + k) = xs.getD (j * C + k) 0) := fun k hk => opTo_at hk
  have HNE : Hid (∀ k, k < C → j * C + k ≠ i * C + k) := fun k hk e => hij (ix_inj hk hk e).1.symm
  obtain ⟨n, hnn⟩ : ∃ n, R * C = n := ⟨_, rfl⟩
  rw [hnn] at hO hlx hcap hn hai haj HS0 HSE HF1 HF2 ⊢
  obtain ⟨a, ha⟩ : ∃ a, i * C = a := ⟨_, rfl⟩
  obtain ⟨b, hb⟩ : ∃ b, j * C = b := ⟨_, rfl⟩
  rw [ha] at hai I1 I2 HF1 HF2 HAI HNE
  rw [hb] at haj J1 J2 HF1 HF2 HAJ HNE
  have HO := hide hO
  have HS := hide hS
  have HL := hide hlx
  have A1 : Hid ((if cap = a then (some ⟨g, 0, none⟩ : Option Addr) else (some ⟨g, 0, none⟩ : Option Addr).map (·.add a)) = some ⟨g, a, none⟩) := by rw [Hid, if_neg (by omega)]; simp [addr_add]
  have B1 : Hid ((if cap = b then (some ⟨g, 0, none⟩ : Option Addr) else (some ⟨g, 0, none⟩ : Option Addr).map (·.add b)) = some ⟨g, b, none⟩) := by rw [Hid, if_neg (by omega)]; simp [addr_add]
  have C1 : Hid (cap - a = cap - a) := rfl
  have C2 : Hid (cap - b = cap - b) := rfl
  have rA := fun w => implRow R C i a C (some ⟨g, 0, none⟩) (some ⟨g, a, none⟩) cap (cap - a) xs w I1 I2 (by omega) (by omega) (by omega) hcm (by omega) (by omega) A1 C1
  have rB := fun w => implRow R C j b C (some ⟨g, 0, none⟩) (some ⟨g, b, none⟩) cap (cap - b) xs w J1 J2 (by omega) (by omega) (by omega) hcm (by omega) (by omega) B1 C2
  rw [hlx] at rA rB
  have RA := hide rA
  have RB := hide rB
  have hgw : g < w.heap.size := (Own.lt hO g rfl).2
  clear hO hS hlx rA rB ha hb hnn A1 B1 C1 C2 I1 I2 J1 J2
  go_enter Try.func39, Try.ntmps39
  go_wp2_with (first
    | (go_at_call_of 51 (Value.int IntKind.i64 (i : Int)); refine (RA.out _).mono ?_; rintro e w1 ⟨rfl, hb⟩; obtain ⟨hc, hf⟩ := bcell hb; have hz := hb.size; (try simp only [World.size_alloc, World.size_setCell, World.size_drew, size_drewN] at hz); (first | have hs := up3 hz | have hs := up2 hz | have hs := up1 hz | have hs := up0 hz); (try have q10 := hs _ q9); (try have q9 := hs _ q8); (try have q8 := hs _ q7); (try have q7 := hs _ q6); (try have q6 := hs _ q5); (try have q5 := hs _ q4); (try have q4 := hs _ q3); (try have q3 := hs _ q2); (try have q2 := hs _ q1); (try have p7 := hs _ p6); (try have p6 := hs _ p5); (try have p5 := hs _ p4); (try have p4 := hs _ p3); (try have p3 := hs _ p2); (try have p2 := hs _ p1); (try have q1 := new1 hz); (try have p1 := new2 hz); (try have r1 := new3 hz))
    | (go_at_call_of 51 (Value.int IntKind.i64 (j : Int)); refine (RB.out _).mono ?_; rintro e w2 ⟨rfl, hb⟩; obtain ⟨hc, hf⟩ := bcell hb; have hz := hb.size; (try simp only [World.size_alloc, World.size_setCell, World.size_drew, size_drewN] at hz); (first | have hs := up3 hz | have hs := up2 hz | have hs := up1 hz | have hs := up0 hz); (try have q10 := hs _ q9); (try have q9 := hs _ q8); (try have q8 := hs _ q7); (try have q7 := hs _ q6); (try have q6 := hs _ q5); (try have q5 := hs _ q4); (try have q4 := hs _ q3); (try have q3 := hs _ q2); (try have q2 := hs _ q1); (try have p7 := hs _ p6); (try have p6 := hs _ p5); (try have p5 := hs _ p4); (try have p4 := hs _ p3); (try have p3 := hs _ p2); (try have p2 := hs _ p1); (try have q1 := new1 hz); (try have p1 := new2 hz); (try have r1 := new3 hz)))
  have hO2 : Own w2 lo (.slice (some ⟨g, 0, none⟩) n cap) (tab n (opTo C 0 i j 0 xs 0)) := by
    rw [← HS0.out]
    exact Own.below HO.out (by repeat' (first | exact Below.refl _ _ | (refine Below.alloc ?_ ?_ _) | (refine Below.setCell ?_ ?_ _) | (refine Below.drew ?_) | (refine below_drewN ?_ _) | (refine Below.trans ?_ (Below.mono (by assumption) ?_)) | omega | (simp only [World.size_alloc, World.size_setCell, World.size_drew, size_drewN]; omega)))
  have hg2 : w.grownBy w2 (some g) := by
    have hbb : Below w.heap.size w w2 := (by repeat' (first | exact Below.refl _ _ | (refine Below.alloc ?_ ?_ _) | (refine Below.setCell ?_ ?_ _) | (refine Below.drew ?_) | (refine below_drewN ?_ _) | (refine Below.trans ?_ (Below.mono (by assumption) ?_)) | omega | (simp only [World.size_alloc, World.size_setCell, World.size_drew, size_drewN]; omega)))
    exact ⟨hbb.os, hbb.tape, hbb.output, hbb.size, fun k hk _ => hbb.block k hk⟩
  have hc0 : w2.cell? ⟨w.heap.size + 1, 0, none⟩ = some (.int .i64 0) := by go_simp
  go_loopw [19] (fun iv wr => ∃ k : Nat, k ≤ C ∧ iv = .int .i64 k ∧ Own wr lo (.slice (some ⟨g, 0, none⟩) n cap) (tab n (opTo C 0 i j 0 xs k)) ∧ wr.cell? ⟨w.heap.size + 1, 0, none⟩ = some (.int .i64 0) ∧ w.grownBy wr (some g)) (fun iv _ => C - (intOf iv).toNat)
  case atStart => exact ⟨0, Nat.zero_le _, rfl, hO2, hc0, hg2⟩
  case round =>
    clear hO2 hg2 hc0 HS0
    clear hc hf hs hz hb
    obtain ⟨k, hk, rfl, ho, hc0, hgr⟩ := hrel
    have HGR := hide hgr
    have HO2 := hide ho; clear ho hgr
    have hgz : w.heap.size ≤ wr.heap.size := HGR.out.size
    by_cases hlt : k < C
    · have hx := own_cell HO2.out (show a + k < n by omega)
      have hy := own_cell HO2.out (show b + k < n by omega)
      have hfx := own_free HO2.out (a + k)
      have hfy := own_free HO2.out (b + k)
      rw [HAI.out k hlt] at hx
      rw [HAJ.out k hlt] at hy
      have f1 := HF1.out k
      have f2 := HF2.out k hlt
      obtain ⟨x, hxx⟩ : ∃ x, xs.getD (a + k) 0 = x := ⟨_, rfl⟩
      obtain ⟨y, hyy⟩ : ∃ y, xs.getD (b + k) 0 = y := ⟨_, rfl⟩
      rw [hxx] at hx f2
      rw [hyy] at hy f1
      have s1 := own_store HO2.out f1
      have s2 := own_store s1.1 f2
      have hne := HNE.out k hlt
      have S2 := hide (And.intro s2.1 (grownBy_trans s1.2 s2.2))
      have z1 : (0 : Int) ≤ (k : Int) := by omega
      have z2 : (k : Int) < (C : Int) := by omega
      clear s1 s2 f1 f2 hxx hyy
      go_wp2
      go_region
      all_goals
        go_wp2
        go_roundw
        case rel =>
          have hd := grownBy_trans HGR.out S2.out.2
          refine ⟨k + 1, by omega, by go_num, S2.out.1, ?_, ⟨hd.os, hd.tape, hd.output, hd.size, hd.block⟩⟩
          exact kc_set (kc_set hc0 (by dsimp only; omega)) (by dsimp only; omega)
        case measure => simp [intOf]; omega
    · have hkk : k = C := by omega
      subst hkk
      have HO3 : Hid (Own wr lo (.slice (some ⟨g, 0, none⟩) n cap) (opL R k 0 i j 0 xs)) := by have := HO2.out; rwa [HSE.out] at this
      clear HO2
      go_wp2
      go_ret
      exact ⟨rfl, HO3.out, HGR.out⟩
set_option maxHeartbeats 8000000 in
theorem implRowOp_neg (R C i : Nat) (t : Int) (g cap lo : Nat) (xs : List Int) (w : World) (hO : Own w lo (.slice (some ⟨g, 0, none⟩) (R * C) cap) xs) (hlx : xs.length = R * C) (HR : R ≤ 24) (HC : C ≤ 24) (h0 : 0 < C) (hcap : R * C ≤ cap) (hcm : cap ≤ maxLen) (hi : i < R) (hN : ∀ x ∈ xs, isNum x = true) :
    Calls Try.prog 39 #[mv R C (.slice (some ⟨g, 0, none⟩) (R * C) cap), opv 1 i i t] w fun e w' => e = .returned (.bool true) ∧ Own w' lo (.slice (some ⟨g, 0, none⟩) (R * C) cap) (opL R C 1 i i t xs) ∧ w.grownBy w' (some g) := by
  have hS : SlI w (some ⟨g, 0, none⟩) xs := (Own.reads (xs := xs) (n := R * C) (c := cap) hO).2
  have hn : R * C ≤ 576 := Nat.mul_le_mul HR HC
  have hai : i * C + C ≤ R * C := by
    have : (i + 1) * C ≤ R * C := Nat.mul_le_mul_right _ hi
    rwa [Nat.add_mul, Nat.one_mul] at this
  have I1 : Hid ((i : Int) * C = ((i * C : Nat) : Int)) := by simp [Hid]
  have I2 : Hid (((i : Int) + 1) * C = ((i * C + C : Nat) : Int)) := by rw [Hid]; push_cast; rw [Int.add_mul, Int.one_mul]
  have HS0 := hide (opTo_start (kind := 1) (i := i) (j := i) (t := t) hlx)
  have HSE := hide (opTo_end (R := R) (C := C) (kind := 1) (i := i) (j := i) (t := t) (xs := xs))
  have HAI : Hid (∀ k, k < C → opTo C 1 i i t xs k (i * C + k) = xs.getD (i * C + k) 0) := fun k hk => opTo_at hk
  have HF1 : Hid (∀ k, k < C → (tab (R * C) (opTo C 1 i i t xs k)).set (i * C + k) (-(xs.getD (i * C + k) 0)) = tab (R * C) (opTo C 1 i i t xs (k + 1))) := fun k hk => opTo_one hi hk (by decide) (by simp [opNew, toM])
  have HN := hide hN; clear hN
  obtain ⟨n, hnn⟩ : ∃ n, R * C = n := ⟨_, rfl⟩
  rw [hnn] at hO hlx hcap hn hai HS0 HSE HF1 ⊢
  obtain ⟨a, ha⟩ : ∃ a, i * C = a := ⟨_, rfl⟩
  rw [ha] at hai I1 I2 HF1 HAI
  have HO := hide hO
  have HS := hide hS
  have HL := hide hlx
  have A1 : Hid ((if cap = a then (some ⟨g, 0, none⟩ : Option Addr) else (some ⟨g, 0, none⟩ : Option Addr).map (·.add a)) = some ⟨g, a, none⟩) := by rw [Hid, if_neg (by omega)]; simp [addr_add]
  have C1 : Hid (cap - a = cap - a) := rfl
  have rA := fun w => implRow R C i a C (some ⟨g, 0, none⟩) (some ⟨g, a, none⟩) cap (cap - a) xs w I1 I2 (by omega) (by omega) (by omega) hcm (by omega) (by omega) A1 C1
  rw [hlx] at rA
  have RA := hide rA
  have hgw : g < w.heap.size := (Own.lt hO g rfl).2
  clear hO hS hlx rA ha hnn A1 C1 I1 I2
  go_enter Try.func39, Try.ntmps39
  go_wp2_with fail
  refine (RA.out _).mono ?_; rintro e w1 ⟨rfl, hb⟩; obtain ⟨hc, hf⟩ := bcell hb; have hz := hb.size; (try simp only [World.size_alloc, World.size_setCell, World.size_drew, size_drewN] at hz); (first | have hs := up3 hz | have hs := up2 hz | have hs := up1 hz | have hs := up0 hz); (try have q10 := hs _ q9); (try have q9 := hs _ q8); (try have q8 := hs _ q7); (try have q7 := hs _ q6); (try have q6 := hs _ q5); (try have q5 := hs _ q4); (try have q4 := hs _ q3); (try have q3 := hs _ q2); (try have q2 := hs _ q1); (try have p7 := hs _ p6); (try have p6 := hs _ p5); (try have p5 := hs _ p4); (try have p4 := hs _ p3); (try have p3 := hs _ p2); (try have p2 := hs _ p1); (try have q1 := new1 hz); (try have p1 := new2 hz); (try have r1 := new3 hz)
  go_wp2_with fail
  refine (RA.out _).mono ?_; rintro e w2 ⟨rfl, hb⟩; obtain ⟨hc, hf⟩ := bcell hb; have hz := hb.size; (try simp only [World.size_alloc, World.size_setCell, World.size_drew, size_drewN] at hz); (first | have hs := up3 hz | have hs := up2 hz | have hs := up1 hz | have hs := up0 hz); (try have q10 := hs _ q9); (try have q9 := hs _ q8); (try have q8 := hs _ q7); (try have q7 := hs _ q6); (try have q6 := hs _ q5); (try have q5 := hs _ q4); (try have q4 := hs _ q3); (try have q3 := hs _ q2); (try have q2 := hs _ q1); (try have p7 := hs _ p6); (try have p6 := hs _ p5); (try have p5 := hs _ p4); (try have p4 := hs _ p3); (try have p3 := hs _ p2); (try have p2 := hs _ p1); (try have q1 := new1 hz); (try have p1 := new2 hz); (try have r1 := new3 hz)
  go_wp2
  have hO2 : Own w2 lo (.slice (some ⟨g, 0, none⟩) n cap) (tab n (opTo C 1 i i t xs 0)) := by
    rw [← HS0.out]
    exact Own.below HO.out (by repeat' (first | exact Below.refl _ _ | (refine Below.alloc ?_ ?_ _) | (refine Below.setCell ?_ ?_ _) | (refine Below.drew ?_) | (refine below_drewN ?_ _) | (refine Below.trans ?_ (Below.mono (by assumption) ?_)) | omega | (simp only [World.size_alloc, World.size_setCell, World.size_drew, size_drewN]; omega)))
  have hg2 : w.grownBy w2 (some g) := by
    have hbb : Below w.heap.size w w2 := (by repeat' (first | exact Below.refl _ _ | (refine Below.alloc ?_ ?_ _) | (refine Below.setCell ?_ ?_ _) | (refine Below.drew ?_) | (refine below_drewN ?_ _) | (refine Below.trans ?_ (Below.mono (by assumption) ?_)) | omega | (simp only [World.size_alloc, World.size_setCell, World.size_drew, size_drewN]; omega)))
    exact ⟨hbb.os, hbb.tape, hbb.output, hbb.size, fun k hk _ => hbb.block k hk⟩
  have hc0 : w2.cell? ⟨w.heap.size + 1, 0, none⟩ = some (.int .i64 1) := by go_simp
  go_loopw [19] (fun iv wr => ∃ k : Nat, k ≤ C ∧ iv = .int .i64 k ∧ Own wr lo (.slice (some ⟨g, 0, none⟩) n cap) (tab n (opTo C 1 i i t xs k)) ∧ wr.cell? ⟨w.heap.size + 1, 0, none⟩ = some (.int .i64 1) ∧ w.grownBy wr (some g)) (fun iv _ => C - (intOf iv).toNat)
  case atStart => exact ⟨0, Nat.zero_le _, rfl, hO2, hc0, hg2⟩
  case round =>
    clear hO2 hg2 hc0 HS0
    clear hc hf hs hz hb
    obtain ⟨k, hk, rfl, ho, hc0, hgr⟩ := hrel
    have HGR := hide hgr
    have HO2 := hide ho; clear ho hgr
    have hgz : w.heap.size ≤ wr.heap.size := HGR.out.size
    by_cases hlt : k < C
    · have hx := own_cell HO2.out (show a + k < n by omega)
      have hfx := own_free HO2.out (a + k)
      rw [HAI.out k hlt] at hx
      have f1 := HF1.out k hlt
      have hxb := num_at HN.out (a + k)
      obtain ⟨x, hxx⟩ : ∃ x, xs.getD (a + k) 0 = x := ⟨_, rfl⟩
      rw [hxx] at hx f1 hxb
      have S2 := hide (own_store HO2.out f1)
      clear f1 hxx
      go_wp2
      go_roundw
      case rel => exact ⟨k + 1, by omega, by go_num, S2.out.1, kc_set hc0 (by dsimp only; omega), grownBy_trans HGR.out S2.out.2⟩
      case measure => simp [intOf]; omega
    · have hkk : k = C := by omega
      subst hkk
      have HO3 : Hid (Own wr lo (.slice (some ⟨g, 0, none⟩) n cap) (opL R k 1 i i t xs)) := by have := HO2.out; rwa [HSE.out] at this
      clear HO2
      go_wp2
      go_ret
      exact ⟨rfl, HO3.out, HGR.out⟩
set_option maxHeartbeats 8000000 in
theorem implRowOp_add (R C i j : Nat) (t : Int) (g cap lo : Nat) (xs : List Int) (w : World) (hO : Own w lo (.slice (some ⟨g, 0, none⟩) (R * C) cap) xs) (hlx : xs.length = R * C) (HR : R ≤ 24) (HC : C ≤ 24) (h0 : 0 < C) (hcap : R * C ≤ cap) (hcm : cap ≤ maxLen) (hi : i < R) (hj : j < R) (hij : i ≠ j) (hN : ∀ x ∈ xs, isNum x = true) (ht : -400000000 ≤ t ∧ t ≤ 400000000) :
    Calls Try.prog 39 #[mv R C (.slice (some ⟨g, 0, none⟩) (R * C) cap), opv 2 i j t] w (RowPost w g lo (.slice (some ⟨g, 0, none⟩) (R * C) cap) (opL R C 2 i j t xs) (opOk C i j t xs)) := by
  have hS : SlI w (some ⟨g, 0, none⟩) xs := (Own.reads (xs := xs) (n := R * C) (c := cap) hO).2
  have hn : R * C ≤ 576 := Nat.mul_le_mul HR HC
  have hai : i * C + C ≤ R * C := by
    have : (i + 1) * C ≤ R * C := Nat.mul_le_mul_right _ hi
    rwa [Nat.add_mul, Nat.one_mul] at this
  have haj : j * C + C ≤ R * C := by
    have : (j + 1) * C ≤ R * C := Nat.mul_le_mul_right _ hj
    rwa [Nat.add_mul, Nat.one_mul] at this
  have I1 : Hid ((i : Int) * C = ((i * C : Nat) : Int)) := by simp [Hid]
  have I2 : Hid (((i : Int) + 1) * C = ((i * C + C : Nat) : Int)) := by rw [Hid]; push_cast; rw [Int.add_mul, Int.one_mul]
  have J1 : Hid ((j : Int) * C = ((j * C : Nat) : Int)) := by simp [Hid]
  have J2 : Hid (((j : Int) + 1) * C = ((j * C + C : Nat) : Int)) := by rw [Hid]; push_cast; rw [Int.add_mul, Int.one_mul]
  have HS0 := hide (opTo_start (kind := 2) (i := i) (j := j) (t := t) hlx)
  have HSE := hide (opTo_end (R := R) (C := C) (kind := 2) (i := i) (j := j) (t := t) (xs := xs))
  have HAI : Hid (∀ k, k < C → opTo C 2 i j t xs k (i * C + k) = xs.getD (i * C + k) 0) := fun k hk => opTo_at hk
  have HAJ : Hid (∀ k, k < C → opTo C 2 i j t xs k (j * C + k) = xs.getD (j * C + k) 0) := fun k hk => opTo_at hk
  have HF1 : Hid (∀ k, k < C → (tab (R * C) (opTo C 2 i j t xs k)).set (i * C + k) (xs.getD (i * C + k) 0 + xs.getD (j * C + k) 0 * t) = tab (R * C) (opTo C 2 i j t xs (k + 1))) := fun k hk => opTo_one hi hk (by decide) (by simp [opNew, toM])
  have HOK : Hid (∀ k, okAt C i j t xs k = (isNum (xs.getD (j * C + k) 0 * t) && isNum (xs.getD (i * C + k) 0 + xs.getD (j * C + k) 0 * t))) := fun k => rfl
  have HN := hide hN; clear hN
  obtain ⟨n, hnn⟩ : ∃ n, R * C = n := ⟨_, rfl⟩
  rw [hnn] at hO hlx hcap hn hai haj HS0 HSE HF1 ⊢
  obtain ⟨a, ha⟩ : ∃ a, i * C = a := ⟨_, rfl⟩
  obtain ⟨b, hb⟩ : ∃ b, j * C = b := ⟨_, rfl⟩
  rw [ha] at hai I1 I2 HF1 HAI HOK
  rw [hb] at haj J1 J2 HF1 HAJ HOK
  have HO := hide hO
  have HS := hide hS
  have HL := hide hlx
  have A1 : Hid ((if cap = a then (some ⟨g, 0, none⟩ : Option Addr) else (some ⟨g, 0, none⟩ : Option Addr).map (·.add a)) = some ⟨g, a, none⟩) := by rw [Hid, if_neg (by omega)]; simp [addr_add]
  have B1 : Hid ((if cap = b then (some ⟨g, 0, none⟩ : Option Addr) else (some ⟨g, 0, none⟩ : Option Addr).map (·.add b)) = some ⟨g, b, none⟩) := by rw [Hid, if_neg (by omega)]; simp [addr_add]
  have C1 : Hid (cap - a = cap - a) := rfl
  have C2 : Hid (cap - b = cap - b) := rfl
  have rA := fun w => implRow R C i a C (some ⟨g, 0, none⟩) (some ⟨g, a, none⟩) cap (cap - a) xs w I1 I2 (by omega) (by omega) (by omega) hcm (by omega) (by omega) A1 C1
  have rB := fun w => implRow R C j b C (some ⟨g, 0, none⟩) (some ⟨g, b, none⟩) cap (cap - b) xs w J1 J2 (by omega) (by omega) (by omega) hcm (by omega) (by omega) B1 C2
  rw [hlx] at rA rB
  have RA := hide rA
  have RB := hide rB
  have hgw : g < w.heap.size := (Own.lt hO g rfl).2
  clear hO hS hlx rA rB ha hb hnn A1 B1 C1 C2 I1 I2 J1 J2
  obtain ⟨okk, hokk⟩ : ∃ f, okAt C i j t xs = f := ⟨_, rfl⟩
  have HAL : Hid (opOk C i j t xs = (List.range C).all okk) := by rw [Hid, opOk, hokk]
  rw [hokk] at HOK
  clear hokk
  go_enter Try.func39, Try.ntmps39
  go_wp2_with (first
    | (go_at_call_of 51 (Value.int IntKind.i64 (i : Int)); refine (RA.out _).mono ?_; rintro e w1 ⟨rfl, hb⟩; obtain ⟨hc, hf⟩ := bcell hb; have hz := hb.size; (try simp only [World.size_alloc, World.size_setCell, World.size_drew, size_drewN] at hz); (first | have hs := up3 hz | have hs := up2 hz | have hs := up1 hz | have hs := up0 hz); (try have q10 := hs _ q9); (try have q9 := hs _ q8); (try have q8 := hs _ q7); (try have q7 := hs _ q6); (try have q6 := hs _ q5); (try have q5 := hs _ q4); (try have q4 := hs _ q3); (try have q3 := hs _ q2); (try have q2 := hs _ q1); (try have p7 := hs _ p6); (try have p6 := hs _ p5); (try have p5 := hs _ p4); (try have p4 := hs _ p3); (try have p3 := hs _ p2); (try have p2 := hs _ p1); (try have q1 := new1 hz); (try have p1 := new2 hz); (try have r1 := new3 hz))
    | (go_at_call_of 51 (Value.int IntKind.i64 (j : Int)); refine (RB.out _).mono ?_; rintro e w2 ⟨rfl, hb⟩; obtain ⟨hc, hf⟩ := bcell hb; have hz := hb.size; (try simp only [World.size_alloc, World.size_setCell, World.size_drew, size_drewN] at hz); (first | have hs := up3 hz | have hs := up2 hz | have hs := up1 hz | have hs := up0 hz); (try have q10 := hs _ q9); (try have q9 := hs _ q8); (try have q8 := hs _ q7); (try have q7 := hs _ q6); (try have q6 := hs _ q5); (try have q5 := hs _ q4); (try have q4 := hs _ q3); (try have q3 := hs _ q2); (try have q2 := hs _ q1); (try have p7 := hs _ p6); (try have p6 := hs _ p5); (try have p5 := hs _ p4); (try have p4 := hs _ p3); (try have p3 := hs _ p2); (try have p2 := hs _ p1); (try have q1 := new1 hz); (try have p1 := new2 hz); (try have r1 := new3 hz)))
  have hO2 : Own w2 lo (.slice (some ⟨g, 0, none⟩) n cap) (tab n (opTo C 2 i j t xs 0)) := by
    rw [← HS0.out]
    exact Own.below HO.out (by repeat' (first | exact Below.refl _ _ | (refine Below.alloc ?_ ?_ _) | (refine Below.setCell ?_ ?_ _) | (refine Below.drew ?_) | (refine below_drewN ?_ _) | (refine Below.trans ?_ (Below.mono (by assumption) ?_)) | omega | (simp only [World.size_alloc, World.size_setCell, World.size_drew, size_drewN]; omega)))
  have hg2 : w.grownBy w2 (some g) := by
    have hbb : Below w.heap.size w w2 := (by repeat' (first | exact Below.refl _ _ | (refine Below.alloc ?_ ?_ _) | (refine Below.setCell ?_ ?_ _) | (refine Below.drew ?_) | (refine below_drewN ?_ _) | (refine Below.trans ?_ (Below.mono (by assumption) ?_)) | omega | (simp only [World.size_alloc, World.size_setCell, World.size_drew, size_drewN]; omega)))
    exact ⟨hbb.os, hbb.tape, hbb.output, hbb.size, fun k hk _ => hbb.block k hk⟩
  have hc0 : w2.cell? ⟨w.heap.size + 1, 0, none⟩ = some (.int .i64 2) := by go_simp
  have hc3 : w2.cell? ⟨w.heap.size + 1, 3, none⟩ = some (.int .i64 t) := by go_simp
  go_loopw [19] (fun iv wr => ∃ k : Nat, k ≤ C ∧ iv = .int .i64 k ∧ Own wr lo (.slice (some ⟨g, 0, none⟩) n cap) (tab n (opTo C 2 i j t xs k)) ∧ wr.cell? ⟨w.heap.size + 1, 0, none⟩ = some (.int .i64 2) ∧ wr.cell? ⟨w.heap.size + 1, 3, none⟩ = some (.int .i64 t) ∧ Hid (∀ q, q < k → okk q = true) ∧ w.grownBy wr (some g)) (fun iv _ => C - (intOf iv).toNat)
  case atStart => exact ⟨0, Nat.zero_le _, rfl, hO2, hc0, hc3, (fun q hq => absurd hq (by omega)), hg2⟩
  case round =>
    clear hO2 hg2 hc0 hc3 HS0
    clear hc hf hs hz hb
    obtain ⟨k, hk, rfl, ho, hc0, hc3, hok, hgr⟩ := hrel
    have HGR := hide hgr
    have HO2 := hide ho; clear ho hgr
    have hgz : w.heap.size ≤ wr.heap.size := HGR.out.size
    by_cases hlt : k < C
    · have hx := own_cell HO2.out (show a + k < n by omega)
      have hy := own_cell HO2.out (show b + k < n by omega)
      have hfx := own_free HO2.out (a + k)
      rw [HAI.out k hlt] at hx
      rw [HAJ.out k hlt] at hy
      have f1 := HF1.out k hlt
      have hxb := num_at HN.out (a + k)
      have hyb := num_at HN.out (b + k)
      have hkk := HOK.out k
      obtain ⟨x, hxx⟩ : ∃ x, xs.getD (a + k) 0 = x := ⟨_, rfl⟩
      obtain ⟨y, hyy⟩ : ∃ y, xs.getD (b + k) 0 = y := ⟨_, rfl⟩
      rw [hxx] at hx f1 hxb hkk
      rw [hyy] at hy f1 hyb hkk
      have hpb := mul_in hyb ht
      have S2 := hide (own_store HO2.out f1)
      have q1 : IntKind.i64.wrap (y * t) = y * t := IntWalk.i64_in _ (by omega)
      have z1 : (0 : Int) ≤ (k : Int) := by omega
      have z2 : (k : Int) < (C : Int) := by omega
      have KK := hide hkk
      clear f1 hxx hyy hkk
      rcases Bool.eq_false_or_eq_true (isNum (y * t)) with h1 | h1
      · rcases Bool.eq_false_or_eq_true (isNum (x + y * t)) with h2 | h2
        · have HK2 : Hid (∀ q, q < k + 1 → okk q = true) := fun q hq => by
            by_cases e : q = k
            · subst e; rw [KK.out, h1, h2]; rfl
            · exact hok.out q (by omega)
          clear hok
          go_wp2
          go_quiet (fail)
          go_wp2_with (go_at_call 50; refine (implIsNumber _ _).mono ?_; rintro e w' ⟨rfl, rfl⟩)
          go_roundw
          case rel =>
            have hd := grownBy_trans HGR.out S2.out.2
            refine ⟨k + 1, by omega, by go_num, S2.out.1, ?_, ?_, HK2, ⟨hd.os, hd.tape, hd.output, hd.size, hd.block⟩⟩
            · exact kc_set hc0 (by dsimp only; omega)
            · exact kc_set hc3 (by dsimp only; omega)
          case measure => simp [intOf]; omega
        · have HB : Hid (opOk C i j t xs = false) := by
            rw [Hid, HAL.out, List.all_eq_false]
            exact ⟨k, List.mem_range.2 hlt, by rw [KK.out, h1, h2]; simp⟩
          clear hok
          go_wp2
          go_quiet (fail)
          go_wp2_with (go_at_call 50; refine (implIsNumber _ _).mono ?_; rintro e w' ⟨rfl, rfl⟩)
          go_ret
          have hd := grownBy_trans HGR.out S2.out.2
          exact ⟨ret_bool HB.out.symm, (fun h => by rw [HB.out] at h; cases h), ⟨hd.os, hd.tape, hd.output, hd.size, hd.block⟩⟩
      · have HB : Hid (opOk C i j t xs = false) := by
          rw [Hid, HAL.out, List.all_eq_false]
          exact ⟨k, List.mem_range.2 hlt, by rw [KK.out, h1]; simp⟩
        clear hok
        go_wp2
        go_quiet (fail)
        go_wp2_with (go_at_call 50; refine (implIsNumber _ _).mono ?_; rintro e w' ⟨rfl, rfl⟩)
        go_ret
        have hd := grownBy_trans HGR.out S2.out.2
        exact ⟨ret_bool HB.out.symm, (fun h => by rw [HB.out] at h; cases h), ⟨hd.os, hd.tape, hd.output, hd.size, hd.block⟩⟩
    · have hkk : k = C := by omega
      subst hkk
      have HO3 : Hid (Own wr lo (.slice (some ⟨g, 0, none⟩) n cap) (opL R k 2 i j t xs)) := by have := HO2.out; rwa [HSE.out] at this
      clear HO2
      have HB : Hid (opOk k i j t xs = true) := by
        rw [Hid, HAL.out, List.all_eq_true]
        exact fun q hq => hok.out q (List.mem_range.1 hq)
      clear hok
      go_wp2
      go_ret
      exact ⟨ret_bool HB.out.symm, fun _ => HO3.out, HGR.out⟩
end Go.Proofs.Ythbmmoajfghjbaa
