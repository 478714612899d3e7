/- ParseMatrix: the reference's walk. -/
import Derived.Test.YtkaiekhmcjojoaaDoorPmxD
namespace Go.Proofs.YtkaiekhmcjojoaaDoor
open Go.RowKit
set_option linter.unusedSimpArgs false
set_option linter.unusedVariables false
def pmG (l : List UInt8) (r c : Int) (xs : List Int) : PmR := if fmtM r c xs = l then (r, c, xs, true) else pm0
abbrev mkS : List UInt8 := [120, 91, 93, 59, 32]
def pmT (l : List UInt8) (ts : List (List UInt8)) : PmR :=
  if ts.length < 4 then pm0 else if 8000 < l.length then pm0 else pmG l ((parseI (ts.getD 0 [])).getD 0) ((parseI (ts.getD 1 [])).getD 0) (((ts.take (ts.length - 1)).drop 2).filterMap parseI)
/-- What the reference reads. -/
def pmS (l : List UInt8) : PmR := pmT l (splitF (inM mkS) [] l)
theorem some_step {ts : List (List UInt8)} {k : Nat} (h : k < ts.length) (h2 : 2 ≤ k) : ((ts.take (k + 1)).drop 2).filterMap parseI = ((ts.take k).drop 2).filterMap parseI ++ (parseI (ts.getD k [])).toList := by
  rw [List.take_succ_eq_append_getElem h, List.drop_append_of_le_length (by rw [List.length_take]; omega), List.filterMap_append]
  congr 1
  have : ts.getD k [] = ts[k] := by simp [List.getD, h]
  rw [this]
  cases hp : parseI ts[k] <;> simp [hp]
theorem some_len (ts : List (List UInt8)) (k : Nat) : (((ts.take k).drop 2).filterMap parseI).length ≤ k := by
  refine Nat.le_trans (List.length_filterMap_le _ _) ?_
  rw [List.length_drop, List.length_take]; omega
set_option maxHeartbeats 8000000 in
theorem specParseMatrix (l : List UInt8) (hl : l.length ≤ 1048576) (w : World) :
    Calls Tryd.prog 11 #[sv l] w (RetX w (pmS l)) := by
  have CU := hide fun (w : World) => specSplit l mkS hl (by decide) (by decide) w
  have hne := splitF_ne (p := inM mkS) l []
  have hcn := splitF_count (p := inM mkS) l []
  have hpl := splitF_all_le (p := inM mkS) l
  unfold pmS
  obtain ⟨ts, hts⟩ : ∃ ts, splitF (inM mkS) [] l = ts := ⟨_, rfl⟩
  rw [hts] at CU hne hcn hpl
  rw [hts]
  clear hts
  obtain ⟨p, hp⟩ : ∃ p, pmT l ts = p := ⟨_, rfl⟩
  rw [hp]
  have HPL := hide hpl
  clear hpl
  have N0 := hide (Box3.new (x := .int .i64 0) (y := .int .i64 0) (z := .slice none 0 0) w w.heap.size 30 rfl)
  have HB0 : Hid (Below w.heap.size w (w.alloc (.cells #[.int .i64 0, .int .i64 0, .slice none 0 0] 30))) := (Below.refl _ _).alloc (Nat.le_refl _) _
  obtain ⟨N, hN⟩ : ∃ N, ts.length = N := ⟨_, rfl⟩
  have HPD := hide hp
  clear hp
  go_enter Tryd.func11, Tryd.ntmps11
  go_wp2_with fail
  refine (CU.out _).mono ?_; rintro e w1 ⟨s, rfl, ho, hb⟩
  have N1 := hide (N0.out.call hb)
  have HB1 := hide (kb_call HB0.out (Nat.le_refl _) hb)
  rcases OwnS.full ho with ⟨_, hz⟩ | ⟨g, cap, rfl, hg0, hg1, hcap, hcell⟩
  · exfalso; rw [hz] at hne; simp at hne
  have HC1 := hide hcell
  simp only [World.size_alloc] at hg0
  rw [hN] at hcap ⊢
  clear hb ho hcell N0 HB0
  by_cases h4 : N < 4
  · have hPZ : p = pm0 := by rw [← HPD.out, pmT, if_pos (by omega)]
    have d4 : (N : Int) < 4 := by omega
    clear HPD
    have HPZ : Hid (p = pm0) := hPZ
    obtain ⟨⟨z0, z1, z2⟩, v0, v1, v2⟩ := N1.out
    go_wp2_with fail
    obtain ⟨⟨m0, m1, m2⟩, _⟩ := N1.out.stored (.int .i64 0) (.int .i64 0) (.slice none 0 0)
    exact bodyPost_ret (v := .tuple #[mv (0) (0) (.slice none 0 0), .bool false]) (by first | (simp [results, Tryd.results11, go_sem, m0, m1, m2]; done) | (simp [results, Tryd.results11, go_sem]; done)) rfl (by rw [HPZ.out]; exact ⟨_, rfl, Own.nil _ _, ((HB1.out.setCell (Nat.le_refl _) _).setCell (Nat.le_refl _) _).setCell (Nat.le_refl _) _⟩)
  have d4 : ¬ ((N : Int) < 4) := by omega
  by_cases h8 : 8000 < l.length
  · have hPZ : p = pm0 := by rw [← HPD.out, pmT, if_neg (by omega), if_pos h8]
    have d8 : (8000 : Int) < (l.length : Int) := by omega
    clear HPD
    have HPZ : Hid (p = pm0) := hPZ
    obtain ⟨⟨z0, z1, z2⟩, v0, v1, v2⟩ := N1.out
    go_wp2_with fail
    obtain ⟨⟨m0, m1, m2⟩, _⟩ := N1.out.stored (.int .i64 0) (.int .i64 0) (.slice none 0 0)
    exact bodyPost_ret (v := .tuple #[mv (0) (0) (.slice none 0 0), .bool false]) (by first | (simp [results, Tryd.results11, go_sem, m0, m1, m2]; done) | (simp [results, Tryd.results11, go_sem]; done)) rfl (by rw [HPZ.out]; exact ⟨_, rfl, Own.nil _ _, ((HB1.out.setCell (Nat.le_refl _) _).setCell (Nat.le_refl _) _).setCell (Nat.le_refl _) _⟩)
  have d8 : ¬ ((8000 : Int) < (l.length : Int)) := by omega
  have q0 := HC1.out 0 (by omega)
  have q1 := HC1.out 1 (by omega)
  have hl0 := HPL.out (ts.getD 0 []) (by simp [List.getD, show 0 < ts.length by omega])
  have hl1 := HPL.out (ts.getD 1 []) (by simp [List.getD, show 1 < ts.length by omega])
  have hPD := HPD.out
  rw [pmT, if_neg (by omega), if_neg h8] at hPD
  obtain ⟨t0, e0⟩ : ∃ t, ts.getD 0 [] = t := ⟨_, rfl⟩
  obtain ⟨t1, e1⟩ : ∃ t, ts.getD 1 [] = t := ⟨_, rfl⟩
  rw [e0] at q0 hl0 hPD
  rw [e1] at q1 hl1 hPD
  have ca := fun (w : World) => specParseInt t0 (by omega) w
  have cb := fun (w : World) => specParseInt t1 (by omega) w
  rw [piV_eq] at ca cb
  obtain ⟨r, hr⟩ : ∃ x, (parseI t0).getD 0 = x := ⟨_, rfl⟩
  obtain ⟨c, hc⟩ : ∃ x, (parseI t1).getD 0 = x := ⟨_, rfl⟩
  obtain ⟨k1, hk1⟩ : ∃ x, (parseI t0).isSome = x := ⟨_, rfl⟩
  obtain ⟨k2, hk2⟩ : ∃ x, (parseI t1).isSome = x := ⟨_, rfl⟩
  rw [hr, hk1] at ca
  rw [hc, hk2] at cb
  rw [hr, hc] at hPD
  have CA := hide ca
  have CB := hide cb
  have HPX := hide hPD
  have dN0 : (0 : Int) < (N : Int) := by omega
  have dN1 : (1 : Int) < (N : Int) := by omega
  have dN2 : (2 : Int) ≤ (N : Int) - 1 := by omega
  clear ca cb hr hc hk1 hk2 hPD HPD e0 e1 hl0 hl1
  go_wp2_with fail
  refine (CA.out _).mono ?_; rintro e w2 ⟨rfl, hb⟩
  have N2 := hide (N1.out.call hb)
  have HB2 := hide (kb_call HB1.out (Nat.le_refl _) hb)
  have q1 := kc_call q1 hb
  have HC2 : Hid (∀ i, i < ts.length → w2.cell? ⟨g, i, none⟩ = some (sv (ts.getD i []))) := fun i hi => kc_call (HC1.out i hi) hb
  have hz2 := hb.size
  clear hb N1 HB1 HC1 q0
  go_wp2_with fail
  refine (CB.out _).mono ?_; rintro e w3 ⟨rfl, hb⟩
  have N3 := hide (N2.out.call hb)
  have HB3 := hide (kb_call HB2.out (Nat.le_refl _) hb)
  have HC3 : Hid (∀ i, i < ts.length → w3.cell? ⟨g, i, none⟩ = some (sv (ts.getD i []))) := fun i hi => kc_call (HC2.out i hi) hb
  have hz3 := hb.size
  have hw3 := N3.out.lt
  clear hb N2 HB2 HC2 q1
  have N4 := hide (N3.out.alloc (.cells #[.int .i64 r, .int .i64 c, .slice none 0 0] 30))
  have M4 := hide (Box3.new (x := .int .i64 r) (y := .int .i64 c) (z := .slice none 0 0) w3 w3.heap.size 30 rfl)
  have HB4 := hide (HB3.out.alloc HB3.out.size (.cells #[.int .i64 r, .int .i64 c, .slice none 0 0] 30))
  have HC4 : Hid (∀ i, i < ts.length → (w3.alloc (.cells #[.int .i64 r, .int .i64 c, .slice none 0 0] 30)).cell? ⟨g, i, none⟩ = some (sv (ts.getD i []))) := fun i hi => kc_alloc (HC3.out i hi)
  go_wp2
  go_loopw [10] (fun iv wr => ∃ (k : Nat) (xs : List Int) (A2 : Option Addr) (n2 c2 : Nat), 2 ≤ k ∧ k ≤ N - 1 ∧ iv = .int .i64 k ∧ Hid (((ts.take k).drop 2).filterMap parseI = xs) ∧ Hid (xs.length = n2) ∧ Own wr (w.heap.size + 1) (.slice A2 n2 c2) xs ∧ Hid ((Value.slice A2 n2 c2).ownBlock ≠ some w3.heap.size) ∧ Hid ((Value.slice A2 n2 c2).ownBlock ≠ some g) ∧
      Box3 wr w.heap.size (.int .i64 0) (.int .i64 0) (.slice none 0 0) ∧ Box3 wr w3.heap.size (.int .i64 r) (.int .i64 c) (.slice A2 n2 c2) ∧ Hid (∀ i, i < ts.length → wr.cell? ⟨g, i, none⟩ = some (sv (ts.getD i []))) ∧ Hid (g < wr.heap.size) ∧ Below w.heap.size w wr) (fun iv _ => N - (intOf iv).toNat)
  case atStart => exact ⟨2, [], none, 0, 0, Nat.le_refl _, by omega, rfl, (by
    rw [Hid, List.drop_of_length_le (by rw [List.length_take]; omega)]; rfl), rfl, Own.nil _ _, by simp [Hid, Value.ownBlock], by simp [Hid, Value.ownBlock], N4.out, M4.out, HC4.out, (by rw [Hid, World.size_alloc]; omega), HB4.out⟩
  case round =>
    clear N4 M4 HB4 HC4
    obtain ⟨k, xs, A2, n2, c2, hk2, hk, rfl, hax, hxl, ho, hne1, hne2, hbr, hbm, hcl, hAl, hB⟩ := hrel
    have NR := hide hbr
    have NM := hide hbm
    have HO := hide ho
    have HBX := hide hB
    have hxn := hxl.out
    have hxk := some_len ts k
    rw [hax.out, hxn] at hxk
    clear hbr hbm ho
    by_cases hlt : k < N - 1
    · have d1 : (k : Int) < (N : Int) - 1 := by omega
      have d2 : (k : Int) < (N : Int) := by omega
      have d0 : (0 : Int) ≤ (k : Int) := by omega
      have hcx := hcl.out k (by omega)
      have hpl := HPL.out (ts.getD k []) (by simp [List.getD, show k < ts.length by omega])
      have hst := some_step (show k < ts.length by omega) hk2
      rw [hax.out] at hst
      obtain ⟨t, ht⟩ : ∃ t, ts.getD k [] = t := ⟨_, rfl⟩
      rw [ht] at hcx hpl hst
      have cp := fun (w : World) => specParseInt t (by omega) w
      clear ht
      cases hpt : parseI t with
      | none =>
        rw [hpt] at cp hst
        simp only [piV] at cp
        rw [Option.toList_none, List.append_nil] at hst
        have CP := hide cp
        have HST := hide hst
        clear cp hst
        go_wp2_with fail
        refine (CP.out _).mono ?_; rintro e w7 ⟨rfl, hb⟩
        have NR7 := hide (NR.out.call hb)
        have NM7 := hide (NM.out.call hb)
        have HO7 := hide (HO.out.below hb)
        have HB7 := hide (kb_call HBX.out (Nat.le_refl _) hb)
        have HC7 : Hid (∀ i, i < ts.length → w7.cell? ⟨g, i, none⟩ = some (sv (ts.getD i []))) := fun i hi => kc_call (hcl.out i hi) hb
        have hA7 : Hid (g < w7.heap.size) := Nat.lt_of_lt_of_le hAl.out hb.size
        clear hb NR NM HO HBX hcx hcl
        go_wp2
        go_roundw
        case rel => exact ⟨k + 1, xs, A2, n2, c2, by omega, by omega, by go_num, HST.out, hxl, HO7.out, hne1, hne2, NR7.out, NM7.out, HC7, hA7, HB7.out⟩
        case measure => simp [intOf]; omega
      | some n =>
        rw [hpt] at cp hst
        simp only [piV] at cp
        rw [Option.toList_some] at hst
        have CP := hide cp
        have HST := hide hst
        have hll : xs.length ≤ 9000 := by omega
        clear cp hst hpt
        go_wp2_with fail
        refine (CP.out _).mono ?_; rintro e w7 ⟨rfl, hb⟩
        have NR7 := hide (NR.out.call hb)
        have NM7 := hide (NM.out.call hb)
        have HO7 := hide (HO.out.below hb)
        have HB7 := hide (kb_call HBX.out (Nat.le_refl _) hb)
        have HC7 : Hid (∀ i, i < ts.length → w7.cell? ⟨g, i, none⟩ = some (sv (ts.getD i []))) := fun i hi => kc_call (hcl.out i hi) hb
        have hz7 := hb.size
        have hA7 : g < w7.heap.size := Nat.lt_of_lt_of_le hAl.out hz7
        have hs7 := HB7.out.size
        clear hb NR NM HO HBX hcx hcl
        obtain ⟨⟨x0, x1, x2⟩, g0, g1, g2⟩ := NM7.out
        have hm7 := NM7.out.lt
        have hw7 := NR7.out.lt
        go_wp2_with (at_builtin; refine wpList_append_one rfl _ _ rfl (.slice A2 n2 c2) (w.heap.size + 1) xs rfl (HO7.out.alloc _) w7.heap.size n rfl (by go_simp) (by omega) (by simp; omega) ?_; intro v4 w8 ho hg hbk; have NR8 := hide (Box3.grown (NR7.out.alloc _) hg (fun e => by have := (Own.lt HO7.out _ e.symm).1; omega)); have NM8 := hide (Box3.grown (NM7.out.alloc _) hg (fun e => hne1.out e.symm)); have HB8 := hide (Below.grown (HB7.out.alloc hs7 _) hg (by simp; omega) (fun k hk => by have := (Own.lt HO7.out k hk).1; omega)); have HC8 : Hid (∀ i, i < ts.length → w8.cell? ⟨g, i, none⟩ = some (sv (ts.getD i []))) := (fun i hi => hg.cell (kc_alloc (HC7.out i hi)) (fun e => hne2.out e.symm)); have hz8 := hg.size; rw [World.size_alloc] at hz8; obtain ⟨A4, c4, rfl, _⟩ := Own.sl ho; have hlen : (xs ++ [n]).length = n2 + 1 := (by simp [hxn]); rw [hlen] at ho hbk ⊢; have HO8 := hide ho; have HBK := hide hbk; clear ho hbk hg hlen; obtain ⟨⟨y0, y1, y2⟩, f0, f1, f2⟩ := NM8.out)
        go_roundw
        case rel =>
          have hl4 := Own.lt HO8.out
          have hm8 := NM8.out.lt
          have hx1 : (Value.slice A4 (n2 + 1) c4).ownBlock ≠ some w3.heap.size := by
            intro e
            rcases HBK.out with h1 | h1
            · exact hne1.out (h1 ▸ e)
            · rw [h1] at e; simp at e; omega
          refine ⟨k + 1, xs ++ [n], A4, n2 + 1, c4, by omega, by omega, by go_num, HST.out, by rw [Hid]; simp [hxn], Own.set HO8.out hx1 _, hx1, ?_, NR8.out.set (by dsimp only; omega) _, ?_, ?_, ?_, HB8.out.setCell (by dsimp only; omega) _⟩
          · intro e
            rcases HBK.out with h1 | h1
            · exact hne2.out (h1 ▸ e)
            · rw [h1] at e; simp at e; omega
          · obtain ⟨⟨y0, y1, y2⟩, f0, f1, f2⟩ := NM8.out
            refine ⟨⟨?_, ?_, ?_⟩, ?_, ?_, ?_⟩ <;> go_simp
          · exact fun i hi => kc_set (HC8.out i hi) (by dsimp only; omega)
          · rw [Hid, World.size_setCell]; omega
        case measure => simp [intOf]; omega
    · have hke : k = N - 1 := by omega
      have d1 : ¬ ((k : Int) < (N : Int) - 1) := by omega
      have HPX2 : Hid (p = pmG l r c xs) := by
        rw [Hid, ← HPX.out, hN, ← hke, hax.out]
      have CF : Hid (∀ w', Own w' (w.heap.size + 1) (.slice A2 n2 c2) xs → Calls Tryd.prog 38 #[mv r c (.slice A2 n2 c2)] w' fun e w'' => e = .returned (sv (fmtM r c xs)) ∧ Below w'.heap.size w' w'') := fun w' ho => by
        have := specFormatMatrix r c A2 c2 xs w' (Own.reads ho).2 (by omega)
        rwa [hxn] at this
      obtain ⟨tx, htx⟩ : ∃ tx, fmtM r c xs = tx := ⟨_, rfl⟩
      rw [htx] at CF
      clear HPX hax hcl hne1 hne2 hke
      obtain ⟨⟨x0, x1, x2⟩, _⟩ := NM.out
      go_wp2_with fail
      refine (CF.out _ HO.out).mono ?_; rintro e w8 ⟨rfl, hb⟩
      have NR8 := hide (NR.out.call hb)
      have NM8 := hide (NM.out.call hb)
      have HO8 := hide (HO.out.below hb)
      have HB8 := hide (kb_call HBX.out (Nat.le_refl _) hb)
      clear hb NR NM HO HBX x0 x1 x2
      by_cases htl : tx = l
      · have HPZ : Hid (p = (r, c, xs, true)) := by rw [Hid, HPX2.out, pmG, if_pos (by rw [htx, htl])]
        clear htx
        subst htl
        obtain ⟨⟨z0, z1, z2⟩, v0, v1, v2⟩ := NR8.out
        obtain ⟨⟨x0, x1, x2⟩, _⟩ := NM8.out
        go_wp2_with fail
        obtain ⟨⟨m0, m1, m2⟩, _⟩ := NR8.out.stored (.int .i64 r) (.int .i64 c) (.slice A2 n2 c2)
        have HLT := Own.lt HO8.out
        exact bodyPost_ret (v := .tuple #[mv (r) (c) (.slice A2 n2 c2), .bool true]) (by first | (simp [results, Tryd.results11, go_sem, m0, m1, m2]; done) | (simp [results, Tryd.results11, go_sem]; done)) rfl (by
          rw [HPZ.out]
          refine ⟨_, rfl, ?_, ((HB8.out.setCell (Nat.le_refl _) _).setCell (Nat.le_refl _) _).setCell (Nat.le_refl _) _⟩
          have hne : ∀ o, (Value.slice A2 n2 c2).ownBlock ≠ some (⟨w.heap.size, o, none⟩ : Addr).block := fun o e => by have := (HLT _ e).1; simp at this; omega
          exact Own.mono (Own.set (Own.set (Own.set HO8.out (hne 0) _) (hne 1) _) (hne 2) _) (by omega))
      · have hPZ : p = pm0 := by rw [HPX2.out, pmG, if_neg (fun e => htl (by rw [← htx]; exact e))]
        have n2' : (tx == l) = false := by simpa using htl
        have n3' : (tx != l) = true := by simpa using htl
        clear htx htl
        have HPZ : Hid (p = pm0) := hPZ
        obtain ⟨⟨z0, z1, z2⟩, v0, v1, v2⟩ := NR8.out
        go_wp2_with fail
        obtain ⟨⟨m0, m1, m2⟩, _⟩ := NR8.out.stored (.int .i64 0) (.int .i64 0) (.slice none 0 0)
        exact bodyPost_ret (v := .tuple #[mv (0) (0) (.slice none 0 0), .bool false]) (by first | (simp [results, Tryd.results11, go_sem, m0, m1, m2]; done) | (simp [results, Tryd.results11, go_sem]; done)) rfl (by rw [HPZ.out]; exact ⟨_, rfl, Own.nil _ _, ((HB8.out.setCell (Nat.le_refl _) _).setCell (Nat.le_refl _) _).setCell (Nat.le_refl _) _⟩)
end Go.Proofs.YtkaiekhmcjojoaaDoor
