/- The text of a matrix: the program's walk. -/
import Derived.Test.YtkaiekhmcjojoaaDoorFmtM
import Derived.Test.YtkaiekhmcjojoaaDoorBox
namespace Go.Proofs.YtkaiekhmcjojoaaDoor
open Go.RowKit
set_option linter.unusedSimpArgs false
set_option linter.unusedVariables false
/-- The rows' texts. -/
def rowsL (c : Nat) (xs : List Int) (i : Nat) : List (List UInt8) := (List.range i).map fun k => intsT (lineL c xs k)
theorem rowsL_succ (c : Nat) (xs : List Int) (i : Nat) : rowsL c xs i ++ [intsT (lineL c xs i)] = rowsL c xs (i + 1) := by
  rw [rowsL, rowsL, List.range_succ, List.map_append]; rfl
theorem rowsL_length (c : Nat) (xs : List Int) (i : Nat) : (rowsL c xs i).length = i := by simp [rowsL]
theorem join_rows {r c : Nat} {xs : List Int} (hl : xs.length = r * c) (hc : ¬ c = 0) : Lib.join (rowsL c xs r) [59] = cellsT c xs xs.length := by
  rw [cellsT_all hl, if_neg hc]; rfl
theorem line_len {r c k : Nat} {xs : List Int} (hl : xs.length = r * c) (hk : k < r) : (lineL c xs k).length = c := by
  have : (k + 1) * c ≤ r * c := Nat.mul_le_mul_right _ hk
  rw [Nat.add_mul] at this
  simp [lineL]; omega
theorem mat_val {R C : Nat} {xs : List Int} {a b j : List UInt8} (ha : Lib.itoa R = a) (hb : Lib.itoa C = b) (hj : cellsT C xs xs.length = j) :
    Value.string ((⟨a.toArray⟩ : ByteArray) ++ (⟨#[120]⟩ : ByteArray) ++ (⟨b.toArray⟩ : ByteArray) ++ (⟨#[91]⟩ : ByteArray) ++ (⟨j.toArray⟩ : ByteArray) ++ (⟨#[93]⟩ : ByteArray)) = sv (matT R C xs) := by
  rw [show (⟨#[120]⟩ : ByteArray) = ⟨([120] : List UInt8).toArray⟩ from rfl, show (⟨#[91]⟩ : ByteArray) = ⟨([91] : List UInt8).toArray⟩ from rfl, show (⟨#[93]⟩ : ByteArray) = ⟨([93] : List UInt8).toArray⟩ from rfl, bs_append, bs_append, bs_append, bs_append, bs_append, ← ha, ← hb, ← hj, matT]
set_option maxHeartbeats 4000000 in
theorem implFormatMatrix (r c : Int) (A : Option Addr) (cap : Nat) (xs : List Int) (w : World) (hA : Sl w A xs.length cap xs) (hn : xs.length ≤ 1048576) (hT : Tab10 w) :
    Calls Tryd.prog 18 #[mv r c (.slice A xs.length cap)] w fun e w' => e = .returned (sv (fmtM r c xs)) ∧ Below w.heap.size w w' := by
  have HA := hide hA; clear hA
  have HT := hide hT; clear hT
  cases hm : isMat r c xs
  · have HM := hide hm
    go_enter Tryd.func18, Tryd.ntmps18
    go_wp2_with (go_at_call 42; refine (implIsMatrix r c A cap xs _ (SlI.below HA.out.2.2.2.2 (by repeat' (first | exact Below.refl _ _ | (refine Below.alloc ?_ ?_ _) | (refine Below.setCell ?_ ?_ _) | (refine Below.drew ?_) | (refine below_drewN ?_ _) | (refine Below.trans ?_ (Below.mono (by assumption) ?_)) | omega | (simp only [World.size_alloc, World.size_setCell, World.size_drew, size_drewN]; omega)))) hn).mono ?_; rintro e w1 ⟨rfl, hb⟩; obtain ⟨hc, hf⟩ := bcell hb; have hz := hb.size; (try simp only [World.size_alloc, World.size_setCell, World.size_drew, size_drewN] at hz); (first | have hs := up3 hz | have hs := up2 hz | have hs := up1 hz | have hs := up0 hz); (try have q10 := hs _ q9); (try have q9 := hs _ q8); (try have q8 := hs _ q7); (try have q7 := hs _ q6); (try have q6 := hs _ q5); (try have q5 := hs _ q4); (try have q4 := hs _ q3); (try have q3 := hs _ q2); (try have q2 := hs _ q1); (try have p7 := hs _ p6); (try have p6 := hs _ p5); (try have p5 := hs _ p4); (try have p4 := hs _ p3); (try have p3 := hs _ p2); (try have p2 := hs _ p1); (try have q1 := new1 hz); (try have p1 := new2 hz); (try have r1 := new3 hz))
    go_returns
    exact ⟨by rw [fmtM_no HM.out]; rfl, (by repeat' (first | exact Below.refl _ _ | (refine Below.alloc ?_ ?_ _) | (refine Below.setCell ?_ ?_ _) | (refine Below.drew ?_) | (refine below_drewN ?_ _) | (refine Below.trans ?_ (Below.mono (by assumption) ?_)) | omega | (simp only [World.size_alloc, World.size_setCell, World.size_drew, size_drewN]; omega)))⟩
  · obtain ⟨h1, h2, h3, h4, h5, h6, h7⟩ := isMat_t hm
    obtain ⟨R, rfl⟩ : ∃ R : Nat, r = R := ⟨r.toNat, by omega⟩
    obtain ⟨C, rfl⟩ : ∃ C : Nat, c = C := ⟨c.toNat, by omega⟩
    have hR : R ≤ 24 := by omega
    have hC : C ≤ 24 := by omega
    have HM := hide hm
    have HE : Hid (xs.length = R * C) := by have : (xs.length : Int) = ((R * C : Nat) : Int) := by rw [h5]; push_cast; rfl
                                            rw [Hid]; omega
    have HN := hide h6
    have HF := hide (fmtM_yes hm)
    clear h1 h2 h3 h4 h5 h6 hm
    go_enter Tryd.func18, Tryd.ntmps18
    go_wp2_with (go_at_call 42; refine (implIsMatrix R C A cap xs _ (SlI.below HA.out.2.2.2.2 (by repeat' (first | exact Below.refl _ _ | (refine Below.alloc ?_ ?_ _) | (refine Below.setCell ?_ ?_ _) | (refine Below.drew ?_) | (refine below_drewN ?_ _) | (refine Below.trans ?_ (Below.mono (by assumption) ?_)) | omega | (simp only [World.size_alloc, World.size_setCell, World.size_drew, size_drewN]; omega)))) hn).mono ?_; rintro e w1 ⟨rfl, hb⟩; rw [HM.out]; have HB1 := hide (Below.trans (Below.alloc (Below.refl _ w) (Nat.le_refl _) _) (hb.mono (by simp) : Below w.heap.size _ w1)); have N1 := hide ((Box3.new w w.heap.size _ rfl).call hb); obtain ⟨⟨n0, n1, n2⟩, _⟩ := N1.out; clear hb)
    have hw1 : w.heap.size + 1 ≤ w1.heap.size := N1.out.lt
    clear n0 n1 n2
    go_loopw [3, 4] (fun v i wr => ∃ (k : Nat) (v0 : Value), k ≤ R ∧ (C = 0 → k = 0) ∧ v0 = v ∧ i = .int .i64 k ∧ OwnS wr (w.heap.size + 1) v0 (rowsL C xs k) ∧ Box3 wr w.heap.size (.int .i64 R) (.int .i64 C) (.slice A xs.length cap) ∧ Below w.heap.size w wr) (fun _ i _ => R - (intOf i).toNat)
    case atStart => exact ⟨0, _, Nat.zero_le _, fun _ => rfl, rfl, rfl, (ownS_empty w1 _ rfl).mono hw1, N1.out.alloc _, HB1.out.alloc (by omega) _⟩
    case round =>
      obtain ⟨k, v0, hk, hkc, rfl, rfl, ho, hbx, hB⟩ := hrel
      have HO := hide ho
      have HX := hide hbx
      clear ho
      obtain ⟨⟨n0, n1, n2⟩, _⟩ := hbx
      have hsB := hB.size
      by_cases hlt : k < R
      · by_cases hc0 : C = 0
        · have hx0 : xs = [] := List.eq_nil_of_length_eq_zero (by rw [HE.out, hc0, Nat.mul_zero])
          have hk0 := hkc hc0
          have c1 : decide ((0 : Int) < (C : Int)) = false := decide_eq_false (by omega)
          have c2 : ¬ ((0 : Int) < (C : Int)) := by omega
          have HJ : Hid (Lib.join (rowsL C xs k) [59] = cellsT C xs xs.length) := by rw [Hid, hk0, hx0]; rfl
          clear hc0 hx0 hk0 hkc
          have L1 := itoa_len (n := (R : Int)) (by omega) (by omega)
          have L2 := itoa_len (n := (C : Int)) (by omega) (by omega)
          have L3 := cellsT_len (c := C) (xs := xs) (fun x hx => num_i64 (HN.out x hx)) xs.length (Nat.le_refl _)
          have CJ := hide fun (w' : World) (hb : Below wr.heap.size wr w') => joinS w' _ v0 _ [59] (HO.out.below hb) (by rw [rowsL_length]; omega) (by rw [HJ.out]; omega)
          rw [HJ.out] at CJ
          obtain ⟨j, hj⟩ : ∃ j, cellsT C xs xs.length = j := ⟨_, rfl⟩
          have CJ2 : Hid (∀ w', Below wr.heap.size wr w' → Calls Tryd.prog 50 #[v0, sv [59]] w' fun e w'' => e = .returned (sv j) ∧ Below w'.heap.size w' w'') := by have := CJ.out; rwa [hj] at this
          have C1 := hide fun (w : World) (hT : Tab10 w) => implFormatInt (R : Int) (by omega) (by omega) w hT
          have C2 := hide fun (w : World) (hT : Tab10 w) => implFormatInt (C : Int) (by omega) (by omega) w hT
          obtain ⟨a, ha⟩ : ∃ a, Lib.itoa (R : Int) = a := ⟨_, rfl⟩
          obtain ⟨b, hb⟩ : ∃ b, Lib.itoa (C : Int) = b := ⟨_, rfl⟩
          rw [ha] at C1 L1
          rw [hb] at C2 L2
          rw [hj] at L3
          have HV := hide (mat_val ha hb hj)
          clear ha hb hj CJ HO
          have s1 : ¬ (9223372036854775807 < a.length + 1) := by omega
          have s2 : ¬ (9223372036854775807 < a.length + 1 + b.length) := by omega
          have s3 : ¬ (9223372036854775807 < a.length + 1 + b.length + 1) := by omega
          have s4 : ¬ (9223372036854775807 < a.length + 1 + b.length + 1 + j.length) := by omega
          have s5 : ¬ (9223372036854775807 < a.length + 1 + b.length + 1 + j.length + 1) := by omega
          have u1 : ¬ (9223372036854775807 < a.length + (1 + b.length)) := by omega
          have u2 : ¬ (9223372036854775807 < a.length + (1 + (b.length + 1))) := by omega
          have u3 : ¬ (9223372036854775807 < a.length + (1 + (b.length + (1 + j.length)))) := by omega
          have u4 : ¬ (9223372036854775807 < a.length + (1 + (b.length + (1 + (j.length + 1))))) := by omega
          clear L1 L2 L3
          have KS : Hid (∀ w', Below wr.heap.size wr w' → w'.cell? ⟨w.heap.size, 0, none⟩ = some (.int .i64 R) ∧ w'.cell? ⟨w.heap.size, 1, none⟩ = some (.int .i64 C) ∧ Below wr.heap.size wr w') := fun w' h => ⟨kc_call n0 h, kc_call n1 h, h⟩
          have HBR := hide hB
          go_wp2
          go_region_held3 (fun w' => w'.cell? ⟨w.heap.size, 0, none⟩ = some (.int .i64 R) ∧ w'.cell? ⟨w.heap.size, 1, none⟩ = some (.int .i64 C) ∧ Below wr.heap.size wr w')
            (first
              | (with_reducible exact KS.out _ (Below.drew (Below.refl _ _)))
              | (have hh := (‹_ ∧ _ ∧ Below wr.heap.size wr _›).2.2
                 with_reducible exact KS.out _ (kb_call hh (Nat.le_refl _) hb)))
            (first
              | (go_at_call_of 28 (Value.int IntKind.i64 (R : Int)); have hh := (‹_ ∧ _ ∧ Below wr.heap.size wr _›).2.2; (with_reducible refine (C1.out _ ((HT.out.below HBR.out).below hh)).mono ?_); rintro e w2 ⟨rfl, hb⟩; clear hh)
              | (go_at_call_of 28 (Value.int IntKind.i64 (C : Int)); have hh := (‹_ ∧ _ ∧ Below wr.heap.size wr _›).2.2; (with_reducible refine (C2.out _ ((HT.out.below HBR.out).below hh)).mono ?_); rintro e w2 ⟨rfl, hb⟩; clear hh)
              | (go_at_call 50; have hh := (‹_ ∧ _ ∧ Below wr.heap.size wr _›).2.2; (with_reducible refine (CJ2.out _ hh).mono ?_); rintro e w2 ⟨rfl, hb⟩; clear hh))
          have HH := hide ((‹_ ∧ _ ∧ Below wr.heap.size wr _›).2.2)
          go_wp2
          go_returns
          exact ⟨(by rw [HF.out, ← HV.out]; rfl), HBR.out.trans (HH.out.mono HBR.out.size)⟩
        · have hk1 : (k : Int) < (R : Int) := by omega
          have hC1 : (0 : Int) < (C : Int) := by omega
          have hll := line_len HE.out hlt
          have hle : k * C + C ≤ xs.length := by
            have : (k + 1) * C ≤ R * C := Nat.mul_le_mul_right _ hlt
            rw [Nat.add_mul, Nat.one_mul] at this
            have := HE.out
            omega
          obtain ⟨A', hA'⟩ : ∃ A', (if cap = k * C then A else A.map (·.add (k * C))) = A' := ⟨_, rfl⟩
          obtain ⟨c', hc'⟩ : ∃ c', cap - k * C = c' := ⟨_, rfl⟩
          have CR := hide fun (w' : World) => implRow (R : Int) (C : Int) (k : Int) (k * C) C A A' cap c' xs w' (by rw [Hid]; push_cast; rfl) (by rw [Hid]; push_cast; rw [Int.add_mul, Int.one_mul]) hle hn HA.out.2.1 HA.out.2.2.1 (by omega) (by omega) hA' hc'
          have hsl : ∀ w', Sl w' A xs.length cap xs → SlI w' A' (lineL C xs k) := fun w' h => by
            have := cut_sl (a := k * C) (b := C) h hle
            rw [hA', hc'] at this
            exact this.2.2.2.2
          have CF : Hid (∀ w', Sl w' A xs.length cap xs → Tab10 w' → Calls Tryd.prog 48 #[.slice A' C c'] w' fun e w'' => e = .returned (sv (intsT (lineL C xs k))) ∧ Below w'.heap.size w' w'') := fun w' h hT => by
            have := implFormatInts A' c' (lineL C xs k) w' (hsl w' h) (by rw [hll]; omega) (fun x hx => num_i64 (HN.out x (List.mem_of_mem_drop (List.mem_of_mem_take hx)))) hT
            rwa [hll] at this
          have HM2 := hide (rowsL_succ C xs k)
          obtain ⟨t, ht⟩ : ∃ t, intsT (lineL C xs k) = t := ⟨_, rfl⟩
          rw [ht] at CF HM2
          obtain ⟨ts, hts⟩ : ∃ ts, rowsL C xs k = ts := ⟨_, rfl⟩
          have htl : ts.length ≤ 24 := by rw [← hts, rowsL_length]; omega
          have HO2 : Hid (OwnS wr (w.heap.size + 1) v0 ts) := by have := HO.out; rwa [hts] at this
          rw [hts] at HM2
          clear HO ht hts hsl hA' hc' hle hll
          go_wp2_with (first
            | (go_at_call 49; refine (CR.out _).mono ?_; rintro e w2 ⟨rfl, hb2⟩; have HB2 := hide (kb_call hB (Nat.le_refl _) hb2); have HO3 := hide (HO2.out.below hb2); have N2 := hide (HX.out.call hb2); clear hb2)
            | (go_at_call 48; refine (CF.out _ (HA.out.below HB2.out) (HT.out.below HB2.out)).mono ?_; rintro e w3 ⟨rfl, hb3⟩; have HB3 := hide (kb_call HB2.out (Nat.le_refl _) hb3); have HO4 := hide (HO3.out.below hb3); have N3 := hide (N2.out.call hb3); have hs3 := HB3.out.size; have hn3 := N3.out.lt; clear hb3)
            | (at_builtin; refine wpList_append_str rfl _ _ rfl v0 (w.heap.size + 1) ts rfl (HO4.out.alloc _) w3.heap.size t rfl (by go_simp) (by omega) (by simp; omega) ?_; intro v4 w4 ho4 hg4 _; have HO5 := hide ho4; have HB4 := hide ((HB3.out.alloc (by omega) _).grown hg4 (by simp; omega) (fun k hk => by have := (OwnS.lt HO4.out k hk).1; omega)); have N4 := hide (Box3.grown (N3.out.alloc _) hg4 (fun e => by have := (OwnS.lt HO4.out _ e.symm).1; omega)); obtain ⟨⟨m0, m1, m2⟩, _⟩ := N4.out; clear ho4 hg4))
          go_roundw
          case rel => exact ⟨k + 1, v4, by omega, fun e => absurd e hc0, rfl, by go_num, by rw [← HM2.out]; exact HO5.out, N4.out, HB4.out⟩
          case measure => simp [intOf]; omega
      · have hke : k = R := by omega
        by_cases hc0 : C = 0
        · have hk0 := hkc hc0
          have hx0 : xs = [] := List.eq_nil_of_length_eq_zero (by rw [HE.out, hc0, Nat.mul_zero])
          have HJ : Hid (Lib.join (rowsL C xs k) [59] = cellsT C xs xs.length) := by rw [Hid, hk0, hx0]; rfl
          clear hc0 hx0 hk0 hkc
          have L1 := itoa_len (n := (R : Int)) (by omega) (by omega)
          have L2 := itoa_len (n := (C : Int)) (by omega) (by omega)
          have L3 := cellsT_len (c := C) (xs := xs) (fun x hx => num_i64 (HN.out x hx)) xs.length (Nat.le_refl _)
          have CJ := hide fun (w' : World) (hb : Below wr.heap.size wr w') => joinS w' _ v0 _ [59] (HO.out.below hb) (by rw [rowsL_length]; omega) (by rw [HJ.out]; omega)
          rw [HJ.out] at CJ
          obtain ⟨j, hj⟩ : ∃ j, cellsT C xs xs.length = j := ⟨_, rfl⟩
          have CJ2 : Hid (∀ w', Below wr.heap.size wr w' → Calls Tryd.prog 50 #[v0, sv [59]] w' fun e w'' => e = .returned (sv j) ∧ Below w'.heap.size w' w'') := by have := CJ.out; rwa [hj] at this
          have C1 := hide fun (w : World) (hT : Tab10 w) => implFormatInt (R : Int) (by omega) (by omega) w hT
          have C2 := hide fun (w : World) (hT : Tab10 w) => implFormatInt (C : Int) (by omega) (by omega) w hT
          obtain ⟨a, ha⟩ : ∃ a, Lib.itoa (R : Int) = a := ⟨_, rfl⟩
          obtain ⟨b, hb⟩ : ∃ b, Lib.itoa (C : Int) = b := ⟨_, rfl⟩
          rw [ha] at C1 L1
          rw [hb] at C2 L2
          rw [hj] at L3
          have HV := hide (mat_val ha hb hj)
          clear ha hb hj CJ HO
          have s1 : ¬ (9223372036854775807 < a.length + 1) := by omega
          have s2 : ¬ (9223372036854775807 < a.length + 1 + b.length) := by omega
          have s3 : ¬ (9223372036854775807 < a.length + 1 + b.length + 1) := by omega
          have s4 : ¬ (9223372036854775807 < a.length + 1 + b.length + 1 + j.length) := by omega
          have s5 : ¬ (9223372036854775807 < a.length + 1 + b.length + 1 + j.length + 1) := by omega
          have u1 : ¬ (9223372036854775807 < a.length + (1 + b.length)) := by omega
          have u2 : ¬ (9223372036854775807 < a.length + (1 + (b.length + 1))) := by omega
          have u3 : ¬ (9223372036854775807 < a.length + (1 + (b.length + (1 + j.length)))) := by omega
          have u4 : ¬ (9223372036854775807 < a.length + (1 + (b.length + (1 + (j.length + 1))))) := by omega
          clear L1 L2 L3
          have KS : Hid (∀ w', Below wr.heap.size wr w' → w'.cell? ⟨w.heap.size, 0, none⟩ = some (.int .i64 R) ∧ w'.cell? ⟨w.heap.size, 1, none⟩ = some (.int .i64 C) ∧ Below wr.heap.size wr w') := fun w' h => ⟨kc_call n0 h, kc_call n1 h, h⟩
          have HBR := hide hB
          go_wp2
          go_region_held3 (fun w' => w'.cell? ⟨w.heap.size, 0, none⟩ = some (.int .i64 R) ∧ w'.cell? ⟨w.heap.size, 1, none⟩ = some (.int .i64 C) ∧ Below wr.heap.size wr w')
            (first
              | (with_reducible exact KS.out _ (Below.drew (Below.refl _ _)))
              | (have hh := (‹_ ∧ _ ∧ Below wr.heap.size wr _›).2.2
                 with_reducible exact KS.out _ (kb_call hh (Nat.le_refl _) hb)))
            (first
              | (go_at_call_of 28 (Value.int IntKind.i64 (R : Int)); have hh := (‹_ ∧ _ ∧ Below wr.heap.size wr _›).2.2; (with_reducible refine (C1.out _ ((HT.out.below HBR.out).below hh)).mono ?_); rintro e w2 ⟨rfl, hb⟩; clear hh)
              | (go_at_call_of 28 (Value.int IntKind.i64 (C : Int)); have hh := (‹_ ∧ _ ∧ Below wr.heap.size wr _›).2.2; (with_reducible refine (C2.out _ ((HT.out.below HBR.out).below hh)).mono ?_); rintro e w2 ⟨rfl, hb⟩; clear hh)
              | (go_at_call 50; have hh := (‹_ ∧ _ ∧ Below wr.heap.size wr _›).2.2; (with_reducible refine (CJ2.out _ hh).mono ?_); rintro e w2 ⟨rfl, hb⟩; clear hh))
          have HH := hide ((‹_ ∧ _ ∧ Below wr.heap.size wr _›).2.2)
          go_wp2
          go_returns
          exact ⟨(by rw [HF.out, ← HV.out]; rfl), HBR.out.trans (HH.out.mono HBR.out.size)⟩
        · skip
          have HJ : Hid (Lib.join (rowsL C xs k) [59] = cellsT C xs xs.length) := by rw [Hid, hke]; exact join_rows HE.out hc0
          have L1 := itoa_len (n := (R : Int)) (by omega) (by omega)
          have L2 := itoa_len (n := (C : Int)) (by omega) (by omega)
          have L3 := cellsT_len (c := C) (xs := xs) (fun x hx => num_i64 (HN.out x hx)) xs.length (Nat.le_refl _)
          have CJ := hide fun (w' : World) (hb : Below wr.heap.size wr w') => joinS w' _ v0 _ [59] (HO.out.below hb) (by rw [rowsL_length]; omega) (by rw [HJ.out]; omega)
          rw [HJ.out] at CJ
          obtain ⟨j, hj⟩ : ∃ j, cellsT C xs xs.length = j := ⟨_, rfl⟩
          have CJ2 : Hid (∀ w', Below wr.heap.size wr w' → Calls Tryd.prog 50 #[v0, sv [59]] w' fun e w'' => e = .returned (sv j) ∧ Below w'.heap.size w' w'') := by have := CJ.out; rwa [hj] at this
          have C1 := hide fun (w : World) (hT : Tab10 w) => implFormatInt (R : Int) (by omega) (by omega) w hT
          have C2 := hide fun (w : World) (hT : Tab10 w) => implFormatInt (C : Int) (by omega) (by omega) w hT
          obtain ⟨a, ha⟩ : ∃ a, Lib.itoa (R : Int) = a := ⟨_, rfl⟩
          obtain ⟨b, hb⟩ : ∃ b, Lib.itoa (C : Int) = b := ⟨_, rfl⟩
          rw [ha] at C1 L1
          rw [hb] at C2 L2
          rw [hj] at L3
          have HV := hide (mat_val ha hb hj)
          clear ha hb hj CJ HO
          have s1 : ¬ (9223372036854775807 < a.length + 1) := by omega
          have s2 : ¬ (9223372036854775807 < a.length + 1 + b.length) := by omega
          have s3 : ¬ (9223372036854775807 < a.length + 1 + b.length + 1) := by omega
          have s4 : ¬ (9223372036854775807 < a.length + 1 + b.length + 1 + j.length) := by omega
          have s5 : ¬ (9223372036854775807 < a.length + 1 + b.length + 1 + j.length + 1) := by omega
          have u1 : ¬ (9223372036854775807 < a.length + (1 + b.length)) := by omega
          have u2 : ¬ (9223372036854775807 < a.length + (1 + (b.length + 1))) := by omega
          have u3 : ¬ (9223372036854775807 < a.length + (1 + (b.length + (1 + j.length)))) := by omega
          have u4 : ¬ (9223372036854775807 < a.length + (1 + (b.length + (1 + (j.length + 1))))) := by omega
          clear L1 L2 L3
          have KS : Hid (∀ w', Below wr.heap.size wr w' → w'.cell? ⟨w.heap.size, 0, none⟩ = some (.int .i64 R) ∧ w'.cell? ⟨w.heap.size, 1, none⟩ = some (.int .i64 C) ∧ Below wr.heap.size wr w') := fun w' h => ⟨kc_call n0 h, kc_call n1 h, h⟩
          have HBR := hide hB
          go_wp2
          go_region_held3 (fun w' => w'.cell? ⟨w.heap.size, 0, none⟩ = some (.int .i64 R) ∧ w'.cell? ⟨w.heap.size, 1, none⟩ = some (.int .i64 C) ∧ Below wr.heap.size wr w')
            (first
              | (with_reducible exact KS.out _ (Below.drew (Below.refl _ _)))
              | (have hh := (‹_ ∧ _ ∧ Below wr.heap.size wr _›).2.2
                 with_reducible exact KS.out _ (kb_call hh (Nat.le_refl _) hb)))
            (first
              | (go_at_call_of 28 (Value.int IntKind.i64 (R : Int)); have hh := (‹_ ∧ _ ∧ Below wr.heap.size wr _›).2.2; (with_reducible refine (C1.out _ ((HT.out.below HBR.out).below hh)).mono ?_); rintro e w2 ⟨rfl, hb⟩; clear hh)
              | (go_at_call_of 28 (Value.int IntKind.i64 (C : Int)); have hh := (‹_ ∧ _ ∧ Below wr.heap.size wr _›).2.2; (with_reducible refine (C2.out _ ((HT.out.below HBR.out).below hh)).mono ?_); rintro e w2 ⟨rfl, hb⟩; clear hh)
              | (go_at_call 50; have hh := (‹_ ∧ _ ∧ Below wr.heap.size wr _›).2.2; (with_reducible refine (CJ2.out _ hh).mono ?_); rintro e w2 ⟨rfl, hb⟩; clear hh))
          have HH := hide ((‹_ ∧ _ ∧ Below wr.heap.size wr _›).2.2)
          go_wp2
          go_returns
          exact ⟨(by rw [HF.out, ← HV.out]; rfl), HBR.out.trans (HH.out.mono HBR.out.size)⟩
end Go.Proofs.YtkaiekhmcjojoaaDoor
