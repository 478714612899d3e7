/- ParseMatrix: the program's walk. -/
import Derived.Test.YtkaiekhmcjojoaaDoorPmxD
namespace Go.Proofs.YtkaiekhmcjojoaaDoor
open Go.RowKit
set_option linter.unusedSimpArgs false
set_option linter.unusedVariables false
set_option maxHeartbeats 8000000 in
theorem implParseMatrix (l : List UInt8) (hl : l.length ≤ 1048576) (w : World) (hE : Env w) :
    Calls Tryd.prog 12 #[sv l] w (RetX w (pmI l)) := by
  have HE := hide hE
  clear hE
  obtain ⟨p, hp⟩ : ∃ p, pmI l = p := ⟨_, rfl⟩
  rw [hp]
  have N0 := hide (Box3.new (x := .int .i64 0) (y := .int .i64 0) (z := .slice none 0 0) w w.heap.size 30 rfl)
  have HB0 : Hid (Below w.heap.size w (w.alloc (.cells #[.int .i64 0, .int .i64 0, .slice none 0 0] 30))) := (Below.refl _ _).alloc (Nat.le_refl _) _
  by_cases h8 : 8000 < l.length
  · have hPZ : p = pm0 := by rw [← hp, pmI, if_pos h8]
    have d8 : (8000 : Int) < (l.length : Int) := by omega
    go_enter Tryd.func12, Tryd.ntmps12
    have HPZ : Hid (p = pm0) := hPZ
    obtain ⟨⟨m0, m1, m2⟩, _⟩ := N0.out
    go_wp2_with fail
    exact bodyPost_ret (v := .tuple #[mv (0) (0) (.slice none 0 0), .bool false]) (by first | (simp [results, Tryd.results12, go_sem, m0, m1, m2]; done) | (simp [results, Tryd.results12, go_sem]; done)) rfl (by rw [HPZ.out]; exact ⟨_, rfl, Own.nil _ _, HB0.out⟩)
  have d8 : ¬ ((8000 : Int) < (l.length : Int)) := by omega
  rw [pmI, if_neg h8] at hp
  have cu : ∀ w (a : List UInt8) (c : UInt8), a.length ≤ 1048576 → Env w → Calls Tryd.prog 36 #[sv a, sv [c]] w fun e w' => e = .returned (.tuple #[sv (Lib.cut a [c]).1, sv (Lib.cut a [c]).2.1, .bool (Lib.cut a [c]).2.2]) ∧ Below w.heap.size w w' := fun w a c ha hE => by
    obtain ⟨_, _, _, m, hm⟩ := hE
    exact (Tryd.strings_Cut ⟨a.toArray⟩ ⟨#[c]⟩ m w (by show a.length < 4294967281; omega) hm).mono fun e w' ⟨h1, k, h2⟩ => ⟨h1, by rw [h2]; exact below_drewN (Below.refl _ _) k⟩
  have h1 := cut_len l [91]
  have cu1 := fun w => cu w l 91 hl
  have cu2 := fun w => cu w (Lib.cut l [91]).1 120 (by omega)
  have h2 := cut_len (Lib.cut l [91]).1 [120]
  clear cu
  obtain ⟨q1, hq1⟩ : ∃ c, Lib.cut l [91] = c := ⟨_, rfl⟩
  rw [hq1] at cu1 cu2 h1 h2 hp
  clear hq1
  obtain ⟨a1, b1, ok1⟩ := q1
  simp only at cu1 cu2 h1 h2 hp
  obtain ⟨q2, hq2⟩ : ∃ c, Lib.cut a1 [120] = c := ⟨_, rfl⟩
  rw [hq2] at cu2 h2 hp
  clear hq2
  obtain ⟨a2, b2, ok2⟩ := q2
  simp only at cu2 h2 hp
  have CU1 := hide cu1
  have CU2 := hide cu2
  have CS := hide fun w => strSuffix b1 (by omega) w
  have ca := fun (w : World) (hE : Env w) => implParseInt a2 (by omega) w hE
  have cb := fun (w : World) (hE : Env w) => implParseInt b2 (by omega) w hE
  rw [piV_eq] at ca cb
  rw [pmC] at hp
  obtain ⟨r, hr⟩ : ∃ x, (parseI a2).getD 0 = x := ⟨_, rfl⟩
  obtain ⟨c, hc⟩ : ∃ x, (parseI b2).getD 0 = x := ⟨_, rfl⟩
  obtain ⟨k1, hk1⟩ : ∃ x, (parseI a2).isSome = x := ⟨_, rfl⟩
  obtain ⟨k2, hk2⟩ : ∃ x, (parseI b2).isSome = x := ⟨_, rfl⟩
  obtain ⟨sx, hsx⟩ : ∃ x, endsB b1 = x := ⟨_, rfl⟩
  rw [hr, hk1] at ca
  rw [hc, hk2] at cb
  rw [hr, hc, hk1, hk2, hsx] at hp
  rw [hsx] at CS
  have CA := hide ca
  have CB := hide cb
  have HPD := hide hp
  have HSX := hide hsx
  have hb1 : b1.length ≤ 8000 := by omega
  clear ca cb cu1 cu2 hr hc hk1 hk2 hp hsx h1 h2
  go_enter Tryd.func12, Tryd.ntmps12
  go_wp2_with fail
  refine (CU1.out _ (HE.out.below HB0.out)).mono ?_; rintro e w1 ⟨rfl, hb⟩
  have N1 := hide (N0.out.call hb)
  have HB1 := hide (kb_call HB0.out (Nat.le_refl _) hb)
  clear hb N0 HB0
  go_wp2_with fail
  refine (CU2.out _ (HE.out.below HB1.out)).mono ?_; rintro e w2 ⟨rfl, hb⟩
  have N2 := hide (N1.out.call hb)
  have HB2 := hide (kb_call HB1.out (Nat.le_refl _) hb)
  clear hb N1 HB1
  go_wp2_with fail
  refine (CA.out _ (HE.out.below HB2.out)).mono ?_; rintro e w3 ⟨rfl, hb⟩
  have N3 := hide (N2.out.call hb)
  have HB3 := hide (kb_call HB2.out (Nat.le_refl _) hb)
  clear hb N2 HB2
  go_wp2_with fail
  refine (CB.out _ (HE.out.below HB3.out)).mono ?_; rintro e w4 ⟨rfl, hb⟩
  have N4 := hide (N3.out.call hb)
  have HB4 := hide (kb_call HB3.out (Nat.le_refl _) hb)
  clear hb N3 HB3
  by_cases hall : ¬ (ok1 = true ∧ ok2 = true ∧ k1 = true ∧ k2 = true)
  · have hPZ : p = pm0 := by rw [← HPD.out, if_neg (fun e => hall ⟨e.1, e.2.1, e.2.2.1, e.2.2.2.1⟩)]
    obtain ⟨⟨z0, z1, z2⟩, v0, v1, v2⟩ := N4.out
    clear HPD
    cases ok1 <;> cases ok2 <;> cases k1 <;> cases k2
    all_goals first
      | (exfalso; exact hall ⟨rfl, rfl, rfl, rfl⟩)
      | skip
    all_goals
      clear hall
      have HPZ : Hid (p = pm0) := hPZ
      have NN := N4
      go_wp2_with fail
      obtain ⟨⟨m0, m1, m2⟩, _⟩ := N4.out.stored (.int .i64 0) (.int .i64 0) (.slice none 0 0)
      exact bodyPost_ret (v := .tuple #[mv (0) (0) (.slice none 0 0), .bool false]) (by first | (simp [results, Tryd.results12, go_sem, m0, m1, m2]; done) | (simp [results, Tryd.results12, go_sem]; done)) rfl (by rw [HPZ.out]; exact ⟨_, rfl, Own.nil _ _, ((HB4.out.setCell (Nat.le_refl _) _).setCell (Nat.le_refl _) _).setCell (Nat.le_refl _) _⟩)
  obtain ⟨rfl, rfl, rfl, rfl⟩ := Classical.not_not.1 hall
  clear hall
  go_wp2_with fail
  refine (CS.out _).mono ?_; rintro e w4' ⟨rfl, rfl⟩
  cases sx
  · have hPZ : p = pm0 := by rw [← HPD.out, if_neg (fun e => by simp at e)]
    have HPZ : Hid (p = pm0) := hPZ
    obtain ⟨⟨z0, z1, z2⟩, v0, v1, v2⟩ := N4.out
    go_wp2_with fail
    obtain ⟨⟨m0, m1, m2⟩, _⟩ := N4.out.stored (.int .i64 0) (.int .i64 0) (.slice none 0 0)
    exact bodyPost_ret (v := .tuple #[mv (0) (0) (.slice none 0 0), .bool false]) (by first | (simp [results, Tryd.results12, go_sem, m0, m1, m2]; done) | (simp [results, Tryd.results12, go_sem]; done)) rfl (by rw [HPZ.out]; exact ⟨_, rfl, Own.nil _ _, ((HB4.out.setCell (Nat.le_refl _) _).setCell (Nat.le_refl _) _).setCell (Nat.le_refl _) _⟩)
  have HPE : Hid (p = pmB l r c (allI (bodyT b1))) := by rw [Hid, ← HPD.out, if_pos (by simp)]
  have hbl : 1 ≤ b1.length := by
    have := HSX.out
    simp only [endsB, decide_eq_true_eq] at this
    have := congrArg List.length this
    simp at this; omega
  have c1 : (1 : Int) ≤ (b1.length : Int) := by omega
  obtain ⟨bd, hbd⟩ : ∃ b, b1.take (b1.length - 1) = b := ⟨_, rfl⟩
  have hbdl : bd.length ≤ 8000 := by rw [← hbd, List.length_take]; omega
  have hx : (⟨b1.toArray⟩ : ByteArray).extract 0 (b1.length - 1) = ⟨bd.toArray⟩ := by
    have := ext_val b1 0 (b1.length - 1)
    rw [List.drop_zero, Nat.sub_zero, hbd] at this
    injection this
  have HBT : Hid (bodyT b1 = if bd = [] then [] else fldT bd) := by rw [Hid, bodyT, hbd]
  have hw4 : w.heap.size + 1 ≤ w4.heap.size := N4.out.lt
  have N5 := hide ((N4.out.alloc (.cells #[] 3)).alloc (.cells #[.int .i64 r, .int .i64 c, .slice (some ⟨w4.heap.size, 0, none⟩) 0 0] 30))
  have M5 := hide (Box3.new (x := .int .i64 r) (y := .int .i64 c) (z := .slice (some ⟨w4.heap.size, 0, none⟩) 0 0) (w4.alloc (.cells #[] 3)) (w4.heap.size + 1) 30 (by simp))
  have O5 : Hid (Own ((w4.alloc (.cells #[] 3)).alloc (.cells #[.int .i64 r, .int .i64 c, .slice (some ⟨w4.heap.size, 0, none⟩) 0 0] 30)) (w.heap.size + 1) (.slice (some ⟨w4.heap.size, 0, none⟩) 0 0) []) := Own.mono (Own.alloc (own_empty2 w4 _ rfl) _) hw4
  have HB5 := hide ((HB4.out.alloc HB4.out.size (.cells #[] 3)).alloc (by have := HB4.out.size; simp; omega) (.cells #[.int .i64 r, .int .i64 c, .slice (some ⟨w4.heap.size, 0, none⟩) 0 0] 30))
  clear HPD N4 hbd HSX hbl
  by_cases hb0 : bd = []
  · have HPX : Hid (p = pmF l r c []) := by rw [Hid, HPE.out, HBT.out, if_pos hb0]; rfl
    subst hb0
    have NR := N5
    have HBX := HB5
    have NM := M5
    have HO := O5
    have hxl : Hid (([] : List Int).length = 0) := rfl
    have hn0 : ([] : List Int).length ≤ 1000 := by decide
    clear N5 HB5 O5 M5 HPE HBT
    have hxn := hxl.out
    have CM : Hid (∀ w', Own w' (w.heap.size + 1) (.slice (some ⟨w4.heap.size, 0, none⟩) 0 0) ([] : List Int) → Calls Tryd.prog 42 #[mv r c (.slice (some ⟨w4.heap.size, 0, none⟩) 0 0)] w' fun e w'' => e = .returned (.bool (isMat r c ([] : List Int))) ∧ Below w'.heap.size w' w'') := fun w' ho => by
      have := implIsMatrix r c (some ⟨w4.heap.size, 0, none⟩) 0 ([] : List Int) w' (Own.reads ho).2 (by omega)
      rwa [hxn] at this
    have CF : Hid (∀ w', Own w' (w.heap.size + 1) (.slice (some ⟨w4.heap.size, 0, none⟩) 0 0) ([] : List Int) → Tab10 w' → Calls Tryd.prog 18 #[mv r c (.slice (some ⟨w4.heap.size, 0, none⟩) 0 0)] w' fun e w'' => e = .returned (sv (fmtM r c ([] : List Int))) ∧ Below w'.heap.size w' w'') := fun w' ho hT => by
      rw [← hxn] at ho ⊢
      exact implFormatMatrix r c (some ⟨w4.heap.size, 0, none⟩) 0 ([] : List Int) w' (Own.sl2 ho) (by omega) hT
    rcases Bool.eq_false_or_eq_true (isMat r c ([] : List Int)) with hbm | hbm
    · rw [hbm] at CM
      obtain ⟨tx, htx⟩ : ∃ tx, fmtM r c ([] : List Int) = tx := ⟨_, rfl⟩
      rw [htx] at CF
      obtain ⟨⟨x0, x1, x2⟩, _⟩ := NM.out
      go_wp2_with fail
      refine (CM.out _ HO.out).mono ?_; rintro e w7 ⟨rfl, hb⟩
      have NR7 := hide (NR.out.call hb)
      have NM7 := hide (NM.out.call hb)
      have HO7 := hide (HO.out.below hb)
      have HB7 := hide (kb_call HBX.out (Nat.le_refl _) hb)
      clear hb NR NM HO HBX x0 x1 x2
      obtain ⟨⟨x0, x1, x2⟩, _⟩ := NM7.out
      go_wp2_with fail
      refine (CF.out _ HO7.out (HE.out.1.below HB7.out)).mono ?_; rintro e w8 ⟨rfl, hb⟩
      have NR8 := hide (NR7.out.call hb)
      have NM8 := hide (NM7.out.call hb)
      have HO8 := hide (HO7.out.below hb)
      have HB8 := hide (kb_call HB7.out (Nat.le_refl _) hb)
      clear hb NR7 NM7 HO7 HB7 x0 x1 x2
      by_cases htl : tx = l
      · have HPZ : Hid (p = (r, c, ([] : List Int), true)) := by rw [Hid, HPX.out, pmF, if_pos ⟨hbm, by rw [htx, htl]⟩]
        clear hbm htx
        subst htl
        obtain ⟨⟨z0, z1, z2⟩, v0, v1, v2⟩ := NR8.out
        obtain ⟨⟨x0, x1, x2⟩, _⟩ := NM8.out
        go_wp2_with fail
        obtain ⟨⟨m0, m1, m2⟩, _⟩ := NR8.out.stored (.int .i64 r) (.int .i64 c) (.slice (some ⟨w4.heap.size, 0, none⟩) 0 0)
        have HLT := Own.lt HO8.out
        exact bodyPost_ret (v := .tuple #[mv (r) (c) (.slice (some ⟨w4.heap.size, 0, none⟩) 0 0), .bool true]) (by first | (simp [results, Tryd.results12, go_sem, m0, m1, m2]; done) | (simp [results, Tryd.results12, go_sem]; done)) rfl (by
          rw [HPZ.out]
          refine ⟨_, rfl, ?_, ((HB8.out.setCell (Nat.le_refl _) _).setCell (Nat.le_refl _) _).setCell (Nat.le_refl _) _⟩
          have hne : ∀ o, (Value.slice (some ⟨w4.heap.size, 0, none⟩) 0 0).ownBlock ≠ some (⟨w.heap.size, o, none⟩ : Addr).block := fun o e => by have := (HLT _ e).1; simp at this; omega
          exact Own.mono (Own.set (Own.set (Own.set HO8.out (hne 0) _) (hne 1) _) (hne 2) _) (by omega))
      · have hPZ : p = pm0 := by rw [HPX.out, pmF, if_neg (fun e => htl (by rw [← htx]; exact e.2))]
        have tn2 : (tx == l) = false := by simpa using htl
        have tn3 : (tx != l) = true := by simpa using htl
        clear hbm htx htl
        have HPZ : Hid (p = pm0) := hPZ
        obtain ⟨⟨z0, z1, z2⟩, v0, v1, v2⟩ := NR8.out
        go_wp2_with fail
        obtain ⟨⟨m0, m1, m2⟩, _⟩ := NR8.out.stored (.int .i64 0) (.int .i64 0) (.slice none 0 0)
        exact bodyPost_ret (v := .tuple #[mv (0) (0) (.slice none 0 0), .bool false]) (by first | (simp [results, Tryd.results12, go_sem, m0, m1, m2]; done) | (simp [results, Tryd.results12, go_sem]; done)) rfl (by rw [HPZ.out]; exact ⟨_, rfl, Own.nil _ _, ((HB8.out.setCell (Nat.le_refl _) _).setCell (Nat.le_refl _) _).setCell (Nat.le_refl _) _⟩)
    · have hPZ : p = pm0 := by rw [HPX.out, pmF, if_neg (fun e => by rw [hbm] at e; cases e.1)]
      rw [hbm] at CM
      clear hbm
      obtain ⟨⟨x0, x1, x2⟩, _⟩ := NM.out
      go_wp2_with fail
      refine (CM.out _ HO.out).mono ?_; rintro e w7 ⟨rfl, hb⟩
      have NR7 := hide (NR.out.call hb)
      have HB7 := hide (kb_call HBX.out (Nat.le_refl _) hb)
      clear hb NR NM HO HBX x0 x1 x2
      have HPZ : Hid (p = pm0) := hPZ
      obtain ⟨⟨z0, z1, z2⟩, v0, v1, v2⟩ := NR7.out
      go_wp2_with fail
      obtain ⟨⟨m0, m1, m2⟩, _⟩ := NR7.out.stored (.int .i64 0) (.int .i64 0) (.slice none 0 0)
      exact bodyPost_ret (v := .tuple #[mv (0) (0) (.slice none 0 0), .bool false]) (by first | (simp [results, Tryd.results12, go_sem, m0, m1, m2]; done) | (simp [results, Tryd.results12, go_sem]; done)) rfl (by rw [HPZ.out]; exact ⟨_, rfl, Own.nil _ _, ((HB7.out.setCell (Nat.le_refl _) _).setCell (Nat.le_refl _) _).setCell (Nat.le_refl _) _⟩)
  · obtain ⟨ts, hts⟩ : ∃ ts, fldT bd = ts := ⟨_, rfl⟩
    have HPX : Hid (p = pmB l r c (allI ts)) := by rw [Hid, HPE.out, HBT.out, if_neg hb0, hts]
    have CFF := hide fun (w : World) => fieldsF bd (by omega) w
    have htc := fldT_count bd
    have htl := goFields_len bd
    rw [hts] at CFF htc htl
    have e1 : (bd == []) = false := by simpa using hb0
    have e2 : (bd != []) = true := by simpa using hb0
    have e3 : bd.isEmpty = false := by simpa using hb0
    have HTL := hide htl
    clear hts htl HPE HBT
    go_wp2_with fail
    refine (CFF.out _).mono ?_; rintro e w6 ⟨A, rfl, hA0, hA1, hcell, hb⟩
    have N6 := hide (N5.out.call hb)
    have M6 := hide (M5.out.call hb)
    have O6 := hide (O5.out.below hb)
    have HB6 := hide (kb_call HB5.out (Nat.le_refl _) hb)
    have HC6 := hide hcell
    simp only [World.size_alloc] at hA0
    obtain ⟨N, hN⟩ : ∃ N, ts.length = N := ⟨_, rfl⟩
    rw [hN] at htc ⊢
    clear hb hcell N5 M5 O5 HB5
    go_wp2
    go_loopw [80] (fun iv wr => ∃ (k : Nat) (xs : List Int) (A2 : Option Addr) (n2 c2 : Nat), k ≤ N ∧ iv = .int .i64 k ∧ Hid (allI (ts.take k) = some xs) ∧ Hid (xs.length = n2) ∧ n2 = k ∧ Own wr (w.heap.size + 1) (.slice A2 n2 c2) xs ∧ Hid ((Value.slice A2 n2 c2).ownBlock ≠ some (w4.heap.size + 1)) ∧ Hid ((Value.slice A2 n2 c2).ownBlock ≠ some A) ∧
        Box3 wr w.heap.size (.int .i64 0) (.int .i64 0) (.slice none 0 0) ∧ Box3 wr (w4.heap.size + 1) (.int .i64 r) (.int .i64 c) (.slice A2 n2 c2) ∧ Hid (∀ i, i < ts.length → wr.cell? ⟨A, i, none⟩ = some (sv (ts.getD i []))) ∧ Hid (A < wr.heap.size) ∧ Below w.heap.size w wr) (fun iv _ => N - (intOf iv).toNat)
    case atStart => exact ⟨0, [], some ⟨w4.heap.size, 0, none⟩, 0, 0, Nat.zero_le _, rfl, rfl, rfl, rfl, O6.out, by simp [Hid, Value.ownBlock], (by simp only [Hid, Value.ownBlock, Option.map_some]; intro e; simp only [Option.some.injEq] at e; omega), N6.out, M6.out, HC6.out, hA1, HB6.out⟩
    case round =>
      clear N6 M6 O6 HB6 HC6 hA1
      obtain ⟨k, xs, A2, n2, c2, hk, rfl, hax, hxl, hnk, ho, hne1, hne2, hbr, hbm, hcl, hAl, hB⟩ := hrel
      subst hnk
      have NR := hide hbr
      have NM := hide hbm
      have HO := hide ho
      have HBX := hide hB
      have hxn := hxl.out
      clear hbr hbm ho
      by_cases hlt : n2 < N
      · have d1 : (n2 : Int) < (N : Int) := by omega
        have d0 : (0 : Int) ≤ (n2 : Int) := by omega
        have hcx := hcl.out n2 (by omega)
        have hpl := HTL.out (ts.getD n2 []) (by simp [List.getD, show n2 < ts.length by omega])
        have HST := hide fun n => allI_step (n := n) (show n2 < ts.length by omega) hax.out
        have HBD := hide (allI_bad (show n2 < ts.length by omega))
        obtain ⟨t, ht⟩ : ∃ t, ts.getD n2 [] = t := ⟨_, rfl⟩
        rw [ht] at hcx hpl HST HBD
        have cp := fun (w : World) (hE : Env w) => implParseInt t (by omega) w hE
        clear ht
        cases hpt : parseI t with
        | none =>
          rw [hpt] at cp
          simp only [piV] at cp
          have CP := hide cp
          have hPZ : p = pm0 := by rw [HPX.out, HBD.out hpt]; rfl
          clear cp
          go_wp2_with fail
          refine (CP.out _ (HE.out.below HBX.out)).mono ?_; rintro e w7 ⟨rfl, hb⟩
          have NR7 := hide (NR.out.call hb)
          have HB7 := hide (kb_call HBX.out (Nat.le_refl _) hb)
          clear hb NR NM HO HBX
          have HPZ : Hid (p = pm0) := hPZ
          obtain ⟨⟨z0, z1, z2⟩, v0, v1, v2⟩ := NR7.out
          go_wp2_with fail
          obtain ⟨⟨m0, m1, m2⟩, _⟩ := NR7.out.stored (.int .i64 0) (.int .i64 0) (.slice none 0 0)
          exact bodyPost_ret (v := .tuple #[mv (0) (0) (.slice none 0 0), .bool false]) (by first | (simp [results, Tryd.results12, go_sem, m0, m1, m2]; done) | (simp [results, Tryd.results12, go_sem]; done)) rfl (by rw [HPZ.out]; exact ⟨_, rfl, Own.nil _ _, ((HB7.out.setCell (Nat.le_refl _) _).setCell (Nat.le_refl _) _).setCell (Nat.le_refl _) _⟩)
        | some n =>
          rw [hpt] at cp
          simp only [piV] at cp
          have CP := hide cp
          have HSTN := hide (HST.out n hpt)
          have hll : xs.length ≤ 9000 := by omega
          clear cp hpt HST HBD
          go_wp2_with fail
          refine (CP.out _ (HE.out.below HBX.out)).mono ?_; rintro e w7 ⟨rfl, hb⟩
          have NR7 := hide (NR.out.call hb)
          have NM7 := hide (NM.out.call hb)
          have HO7 := hide (HO.out.below hb)
          have HB7 := hide (kb_call HBX.out (Nat.le_refl _) hb)
          have HC7 : Hid (∀ i, i < ts.length → w7.cell? ⟨A, i, none⟩ = some (sv (ts.getD i []))) := fun i hi => kc_call (hcl.out i hi) hb
          have hz7 := hb.size
          have hA7 : A < w7.heap.size := Nat.lt_of_lt_of_le hAl.out hz7
          have hs7 := HB7.out.size
          clear hb NR NM HO HBX hcx hcl
          obtain ⟨⟨x0, x1, x2⟩, g0, g1, g2⟩ := NM7.out
          have hm7 := NM7.out.lt
          have hw7 := NR7.out.lt
          go_wp2_with (at_builtin; refine wpList_append_one rfl _ _ rfl (.slice A2 n2 c2) (w.heap.size + 1) xs rfl (HO7.out.alloc _) w7.heap.size n rfl (by go_simp) (by omega) (by simp; omega) ?_; intro v4 w8 ho hg hbk; have NR8 := hide (Box3.grown (NR7.out.alloc _) hg (fun e => by have := (Own.lt HO7.out _ e.symm).1; omega)); have NM8 := hide (Box3.grown (NM7.out.alloc _) hg (fun e => hne1.out e.symm)); have HB8 := hide (Below.grown (HB7.out.alloc hs7 _) hg (by simp; omega) (fun k hk => by have := (Own.lt HO7.out k hk).1; omega)); have HC8 : Hid (∀ i, i < ts.length → w8.cell? ⟨A, i, none⟩ = some (sv (ts.getD i []))) := (fun i hi => hg.cell (kc_alloc (HC7.out i hi)) (fun e => hne2.out e.symm)); have hz8 := hg.size; rw [World.size_alloc] at hz8; obtain ⟨A4, c4, rfl, _⟩ := Own.sl ho; have hlen : (xs ++ [n]).length = n2 + 1 := (by simp [hxn]); rw [hlen] at ho hbk ⊢; have HO8 := hide ho; have HBK := hide hbk; clear ho hbk hg hlen; obtain ⟨⟨y0, y1, y2⟩, f0, f1, f2⟩ := NM8.out)
          go_roundw
          case rel =>
            have hl4 := Own.lt HO8.out
            have hm8 := NM8.out.lt
            have hx1 : (Value.slice A4 (n2 + 1) c4).ownBlock ≠ some (w4.heap.size + 1) := by
              intro e
              rcases HBK.out with h1 | h1
              · exact hne1.out (h1 ▸ e)
              · rw [h1] at e; simp at e; omega
            refine ⟨n2 + 1, xs ++ [n], A4, n2 + 1, c4, by omega, by go_num, HSTN.out, by rw [Hid]; simp [hxn], rfl, Own.set HO8.out hx1 _, hx1, ?_, NR8.out.set (by dsimp only; omega) _, ?_, ?_, ?_, HB8.out.setCell (by dsimp only; omega) _⟩
            · intro e
              rcases HBK.out with h1 | h1
              · exact hne2.out (h1 ▸ e)
              · rw [h1] at e; simp at e; omega
            · obtain ⟨⟨y0, y1, y2⟩, f0, f1, f2⟩ := NM8.out
              refine ⟨⟨?_, ?_, ?_⟩, ?_, ?_, ?_⟩ <;> go_simp
            · exact fun i hi => kc_set (HC8.out i hi) (by dsimp only; omega)
            · rw [Hid, World.size_setCell]; omega
          case measure => simp [intOf]; omega
      · have hke : n2 = N := by omega
        have d1 : ¬ ((n2 : Int) < (N : Int)) := by omega
        have HPX2 : Hid (p = pmF l r c xs) := by
          have := hax.out
          rw [List.take_of_length_le (by omega)] at this
          rw [Hid, HPX.out, this]; rfl
        have hn0 : xs.length ≤ 9000 := by omega
        clear HPX hax hcl hne1 hne2 hke
        have HPX := HPX2
        clear HPX2
        have hxn := hxl.out
        have CM : Hid (∀ w', Own w' (w.heap.size + 1) (.slice A2 n2 c2) xs → Calls Tryd.prog 42 #[mv r c (.slice A2 n2 c2)] w' fun e w'' => e = .returned (.bool (isMat r c xs)) ∧ Below w'.heap.size w' w'') := fun w' ho => by
          have := implIsMatrix r c A2 c2 xs w' (Own.reads ho).2 (by omega)
          rwa [hxn] at this
        have CF : Hid (∀ w', Own w' (w.heap.size + 1) (.slice A2 n2 c2) xs → Tab10 w' → Calls Tryd.prog 18 #[mv r c (.slice A2 n2 c2)] w' fun e w'' => e = .returned (sv (fmtM r c xs)) ∧ Below w'.heap.size w' w'') := fun w' ho hT => by
          rw [← hxn] at ho ⊢
          exact implFormatMatrix r c A2 c2 xs w' (Own.sl2 ho) (by omega) hT
        rcases Bool.eq_false_or_eq_true (isMat r c xs) with hbm | hbm
        · rw [hbm] at CM
          obtain ⟨tx, htx⟩ : ∃ tx, fmtM r c xs = tx := ⟨_, rfl⟩
          rw [htx] at CF
          obtain ⟨⟨x0, x1, x2⟩, _⟩ := NM.out
          go_wp2_with fail
          refine (CM.out _ HO.out).mono ?_; rintro e w7 ⟨rfl, hb⟩
          have NR7 := hide (NR.out.call hb)
          have NM7 := hide (NM.out.call hb)
          have HO7 := hide (HO.out.below hb)
          have HB7 := hide (kb_call HBX.out (Nat.le_refl _) hb)
          clear hb NR NM HO HBX x0 x1 x2
          obtain ⟨⟨x0, x1, x2⟩, _⟩ := NM7.out
          go_wp2_with fail
          refine (CF.out _ HO7.out (HE.out.1.below HB7.out)).mono ?_; rintro e w8 ⟨rfl, hb⟩
          have NR8 := hide (NR7.out.call hb)
          have NM8 := hide (NM7.out.call hb)
          have HO8 := hide (HO7.out.below hb)
          have HB8 := hide (kb_call HB7.out (Nat.le_refl _) hb)
          clear hb NR7 NM7 HO7 HB7 x0 x1 x2
          by_cases htl : tx = l
          · have HPZ : Hid (p = (r, c, xs, true)) := by rw [Hid, HPX.out, pmF, if_pos ⟨hbm, by rw [htx, htl]⟩]
            clear hbm htx
            subst htl
            obtain ⟨⟨z0, z1, z2⟩, v0, v1, v2⟩ := NR8.out
            obtain ⟨⟨x0, x1, x2⟩, _⟩ := NM8.out
            go_wp2_with fail
            obtain ⟨⟨m0, m1, m2⟩, _⟩ := NR8.out.stored (.int .i64 r) (.int .i64 c) (.slice A2 n2 c2)
            have HLT := Own.lt HO8.out
            exact bodyPost_ret (v := .tuple #[mv (r) (c) (.slice A2 n2 c2), .bool true]) (by first | (simp [results, Tryd.results12, go_sem, m0, m1, m2]; done) | (simp [results, Tryd.results12, go_sem]; done)) rfl (by
              rw [HPZ.out]
              refine ⟨_, rfl, ?_, ((HB8.out.setCell (Nat.le_refl _) _).setCell (Nat.le_refl _) _).setCell (Nat.le_refl _) _⟩
              have hne : ∀ o, (Value.slice A2 n2 c2).ownBlock ≠ some (⟨w.heap.size, o, none⟩ : Addr).block := fun o e => by have := (HLT _ e).1; simp at this; omega
              exact Own.mono (Own.set (Own.set (Own.set HO8.out (hne 0) _) (hne 1) _) (hne 2) _) (by omega))
          · have hPZ : p = pm0 := by rw [HPX.out, pmF, if_neg (fun e => htl (by rw [← htx]; exact e.2))]
            have tn2 : (tx == l) = false := by simpa using htl
            have tn3 : (tx != l) = true := by simpa using htl
            clear hbm htx htl
            have HPZ : Hid (p = pm0) := hPZ
            obtain ⟨⟨z0, z1, z2⟩, v0, v1, v2⟩ := NR8.out
            go_wp2_with fail
            obtain ⟨⟨m0, m1, m2⟩, _⟩ := NR8.out.stored (.int .i64 0) (.int .i64 0) (.slice none 0 0)
            exact bodyPost_ret (v := .tuple #[mv (0) (0) (.slice none 0 0), .bool false]) (by first | (simp [results, Tryd.results12, go_sem, m0, m1, m2]; done) | (simp [results, Tryd.results12, go_sem]; done)) rfl (by rw [HPZ.out]; exact ⟨_, rfl, Own.nil _ _, ((HB8.out.setCell (Nat.le_refl _) _).setCell (Nat.le_refl _) _).setCell (Nat.le_refl _) _⟩)
        · have hPZ : p = pm0 := by rw [HPX.out, pmF, if_neg (fun e => by rw [hbm] at e; cases e.1)]
          rw [hbm] at CM
          clear hbm
          obtain ⟨⟨x0, x1, x2⟩, _⟩ := NM.out
          go_wp2_with fail
          refine (CM.out _ HO.out).mono ?_; rintro e w7 ⟨rfl, hb⟩
          have NR7 := hide (NR.out.call hb)
          have HB7 := hide (kb_call HBX.out (Nat.le_refl _) hb)
          clear hb NR NM HO HBX x0 x1 x2
          have HPZ : Hid (p = pm0) := hPZ
          obtain ⟨⟨z0, z1, z2⟩, v0, v1, v2⟩ := NR7.out
          go_wp2_with fail
          obtain ⟨⟨m0, m1, m2⟩, _⟩ := NR7.out.stored (.int .i64 0) (.int .i64 0) (.slice none 0 0)
          exact bodyPost_ret (v := .tuple #[mv (0) (0) (.slice none 0 0), .bool false]) (by first | (simp [results, Tryd.results12, go_sem, m0, m1, m2]; done) | (simp [results, Tryd.results12, go_sem]; done)) rfl (by rw [HPZ.out]; exact ⟨_, rfl, Own.nil _ _, ((HB7.out.setCell (Nat.le_refl _) _).setCell (Nat.le_refl _) _).setCell (Nat.le_refl _) _⟩)
end Go.Proofs.YtkaiekhmcjojoaaDoor
