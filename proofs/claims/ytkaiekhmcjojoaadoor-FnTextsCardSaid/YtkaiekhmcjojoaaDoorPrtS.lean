/- ParseRatio: the reference's walk. -/
import Derived.Test.YtkaiekhmcjojoaaDoorPrtW
import Derived.Test.YtkaiekhmcjojoaaDoorDrawR
namespace Go.Proofs.YtkaiekhmcjojoaaDoor
open Go.RowKit
set_option linter.unusedSimpArgs false
set_option linter.unusedVariables false
theorem piV_eq (o : Option Int) : piV o = .tuple #[.int .i64 (o.getD 0), .bool o.isSome] := by cases o <;> rfl
theorem splitF_len {p : UInt8 → Bool} : ∀ (l cur : List UInt8), ∀ t ∈ splitF p cur l, t.length ≤ cur.length + l.length
  | [], cur, t, h => by simp only [splitF, List.mem_singleton] at h; subst h; simp
  | b :: r, cur, t, h => by
    rw [splitF] at h
    split at h
    · rcases List.mem_cons.1 h with rfl | h
      · simp
      · have := splitF_len r [] t h; simp at this ⊢; omega
    · have := splitF_len r (cur ++ [b]) t h; simp at this ⊢; omega
theorem splitF_ne {p : UInt8 → Bool} : ∀ (l cur : List UInt8), 0 < (splitF p cur l).length
  | [], cur => by simp [splitF]
  | b :: r, cur => by
    rw [splitF]
    split
    · simp
    · exact splitF_ne r _
theorem splitF_count {p : UInt8 → Bool} : ∀ (l cur : List UInt8), (splitF p cur l).length ≤ l.length + 1
  | [], cur => by simp [splitF]
  | b :: r, cur => by
    rw [splitF]
    split
    · have := splitF_count (p := p) r []; simp at this ⊢; omega
    · have := splitF_count (p := p) r (cur ++ [b]); simp at this ⊢; omega
/-- What the reference makes of two numbers. -/
def prM (l : List UInt8) (q : Int × Int) : Int × Int × Bool := if isRatio q.1 q.2 = true ∧ ratT q.1 q.2 = l then (q.1, q.2, true) else (0, 0, false)
/-- What the reference reads. -/
def prS (l : List UInt8) : Int × Int × Bool := prM l (makeR ((parseI ((splitF (inM [47]) [] l).getD 0 [])).getD 0) (if 1 < (splitF (inM [47]) [] l).length then (parseI ((splitF (inM [47]) [] l).getD 1 [])).getD 0 else 1))
set_option maxHeartbeats 8000000 in
theorem specParseRatio (l : List UInt8) (hl : l.length ≤ 1048576) (w : World) :
    Calls Tryd.prog 8 #[sv l] w (RetP w (prS l)) := by
  have CU := hide fun (w : World) => specSplit l [47] hl (by decide) (by decide) w
  have hne := splitF_ne (p := inM [47]) l []
  have hcn := splitF_count (p := inM [47]) l []
  have hpl := splitF_len (p := inM [47]) l []
  unfold prS
  obtain ⟨ts, hts⟩ : ∃ ts, splitF (inM [47]) [] l = ts := ⟨_, rfl⟩
  rw [hts] at CU hne hcn hpl
  rw [hts]
  clear hts
  obtain ⟨p0, e0⟩ : ∃ p, ts.getD 0 [] = p := ⟨_, rfl⟩
  obtain ⟨p1, e1⟩ : ∃ p, ts.getD 1 [] = p := ⟨_, rfl⟩
  have l0 : p0.length ≤ 1048576 := by
    have := hpl p0 (by rw [← e0]; simp [List.getD, hne])
    simp at this; omega
  obtain ⟨n, hn⟩ : ∃ n, (parseI p0).getD 0 = n := ⟨_, rfl⟩
  obtain ⟨k, hk⟩ : ∃ k, (parseI p0).isSome = k := ⟨_, rfl⟩
  have CA : Hid (∀ w, Calls Tryd.prog 25 #[sv p0] w fun e w' => e = .returned (.tuple #[.int .i64 n, .bool k]) ∧ Below w.heap.size w w') := fun w => by
    have := specParseInt p0 (by omega) w
    rwa [piV_eq, hn, hk] at this
  rw [e0, hn]
  obtain ⟨N, eN⟩ : ∃ N, ts.length = N := ⟨_, rfl⟩
  by_cases h1 : 1 < ts.length
  · rw [if_pos h1, e1]
    have l1 : p1.length ≤ 1048576 := by
      have := hpl p1 (by rw [← e1]; simp [List.getD, h1])
      simp at this; omega
    obtain ⟨d, hd⟩ : ∃ n, (parseI p1).getD 0 = n := ⟨_, rfl⟩
    obtain ⟨k2, hk2⟩ : ∃ k, (parseI p1).isSome = k := ⟨_, rfl⟩
    have CB : Hid (∀ w, Calls Tryd.prog 25 #[sv p1] w fun e w' => e = .returned (.tuple #[.int .i64 d, .bool k2]) ∧ Below w.heap.size w w') := fun w => by
      have := specParseInt p1 (by omega) w
      rwa [piV_eq, hd, hk2] at this
    rw [hd]
    have hN0 : (0 : Int) < (N : Int) := by omega
    have hN1 : (1 : Int) < (N : Int) := by omega
    clear hk hn hk2 hd hpl l0 l1
    obtain ⟨⟨r1, r2⟩, hq⟩ : ∃ q, makeR n d = q := ⟨_, rfl⟩
    have CM : Hid (∀ w, Calls Tryd.prog 34 #[.int .i64 n, .int .i64 d] w fun e w' => e = .returned (rv r1 r2) ∧ Below w.heap.size w w') := fun w => by
      have := specMakeRatio n d w
      rwa [hq] at this
    have hin := makeR_in n d
    rw [hq] at hin ⊢
    simp only at hin
    have CR := hide fun (w : World) => specIsRatio r1 r2 w
    have CF := hide fun (w : World) => specFormatRatio r1 r2 (by omega) (by omega) (by omega) (by omega) w
    obtain ⟨t, ht⟩ : ∃ t, ratT r1 r2 = t := ⟨_, rfl⟩
    rw [ht] at CF
    clear hq hin
    rcases Bool.eq_false_or_eq_true (isRatio r1 r2) with hr | hr
    · by_cases htl : t = l
      · have HP : Hid (prM l (r1, r2) = (r1, r2, true)) := by rw [Hid, prM, if_pos ⟨hr, by rw [ht, htl]⟩]
        have HR := hide hr
        clear hr ht
        subst htl
        go_enter Tryd.func8, Tryd.ntmps8
        have N0 := hide (Box2.new (x := .int .i64 0) (y := .int .i64 0) w w.heap.size 23 rfl)
        have HB0 : Hid (Below w.heap.size w (w.alloc (.cells #[.int .i64 0, .int .i64 0] 23))) := (Below.refl _ _).alloc (Nat.le_refl _) _
        go_wp2_with fail
        refine (CU.out _).mono ?_; rintro e w1 ⟨s, rfl, ho, hb⟩
        have N1 := hide (N0.out.call hb)
        have HB1 := hide (kb_call HB0.out (Nat.le_refl _) hb)
        rcases OwnS.full ho with ⟨_, hz⟩ | ⟨g, cap, rfl, _, hg, hcap, hcell⟩
        · exfalso; rw [hz] at hne; simp at hne
        have q0 := hcell 0 hne
        rw [e0] at q0
        have q1 := hcell 1 h1
        rw [e1] at q1
        clear hb ho hcell N0 HB0
        rw [eN] at hcap ⊢
        go_wp2_with fail
        refine (CA.out _).mono ?_; rintro e w2 ⟨rfl, hb⟩
        have N2 := hide (N1.out.call hb)
        have HB2 := hide (kb_call HB1.out (Nat.le_refl _) hb)
        have q1 := kc_call q1 hb
        clear hb N1 HB1 q0
        go_wp2_with fail
        refine (CB.out _).mono ?_; rintro e w3 ⟨rfl, hb⟩
        have N3 := hide (N2.out.call hb)
        have HB3 := hide (kb_call HB2.out (Nat.le_refl _) hb)
        clear hb N2 HB2 q1
        go_wp2_with fail
        refine (CM.out _).mono ?_; rintro e w4 ⟨rfl, hb⟩
        have N4 := hide ((N3.out.call hb).alloc (.cells #[.int .i64 r1, .int .i64 r2] 23))
        have HB4 := hide ((kb_call HB3.out (Nat.le_refl _) hb).alloc (by have := HB3.out.size; have := hb.size; omega) (.cells #[.int .i64 r1, .int .i64 r2] 23))
        clear hb N3 HB3
        go_wp2_with fail
        refine (CR.out _).mono ?_; rintro e w5 ⟨rfl, hb⟩
        have N5 := hide (N4.out.call hb)
        have HB5 := hide (kb_call HB4.out (Nat.le_refl _) hb)
        have X5 := hide ((Box2.new (x := .int .i64 r1) (y := .int .i64 r2) w4 w4.heap.size 23 rfl).call hb)
        clear hb N4 HB4
        obtain ⟨⟨y0, y1⟩, u0, u1⟩ := N5.out
        obtain ⟨⟨x0, x1⟩, _⟩ := X5.out
        rw [HR.out]
        go_wp2_with fail
        refine (CF.out _).mono ?_; rintro e w6 ⟨rfl, hb⟩
        have N6 := hide (N5.out.call hb)
        have HB6 := hide (kb_call HB5.out (Nat.le_refl _) hb)
        have X6 := hide (X5.out.call hb)
        clear hb N5 HB5 X5 y0 y1 u0 u1 x0 x1
        obtain ⟨⟨y0, y1⟩, u0, u1⟩ := N6.out
        obtain ⟨⟨x0, x1⟩, _⟩ := X6.out
        go_wp2_with fail
        obtain ⟨⟨m0, m1⟩, _⟩ := N6.out.stored (.int .i64 r1) (.int .i64 r2)
        exact bodyPost_ret (v := prV (r1, r2, true)) (by simp [results, Tryd.results8, go_sem, m0, m1, prV]) rfl ⟨by rw [HP.out], ((HB6.out.setCell (by dsimp only; omega) _).setCell (by dsimp only; omega) _)⟩

      · have HP : Hid (prM l (r1, r2) = (0, 0, false)) := by rw [Hid, prM, if_neg (fun e => htl (by rw [← ht]; exact e.2))]
        have HR := hide hr
        have n2 : (t == l) = false := by simpa using htl
        have n3 : (t != l) = true := by simpa using htl
        clear hr ht htl
        go_enter Tryd.func8, Tryd.ntmps8
        have N0 := hide (Box2.new (x := .int .i64 0) (y := .int .i64 0) w w.heap.size 23 rfl)
        have HB0 : Hid (Below w.heap.size w (w.alloc (.cells #[.int .i64 0, .int .i64 0] 23))) := (Below.refl _ _).alloc (Nat.le_refl _) _
        go_wp2_with fail
        refine (CU.out _).mono ?_; rintro e w1 ⟨s, rfl, ho, hb⟩
        have N1 := hide (N0.out.call hb)
        have HB1 := hide (kb_call HB0.out (Nat.le_refl _) hb)
        rcases OwnS.full ho with ⟨_, hz⟩ | ⟨g, cap, rfl, _, hg, hcap, hcell⟩
        · exfalso; rw [hz] at hne; simp at hne
        have q0 := hcell 0 hne
        rw [e0] at q0
        have q1 := hcell 1 h1
        rw [e1] at q1
        clear hb ho hcell N0 HB0
        rw [eN] at hcap ⊢
        go_wp2_with fail
        refine (CA.out _).mono ?_; rintro e w2 ⟨rfl, hb⟩
        have N2 := hide (N1.out.call hb)
        have HB2 := hide (kb_call HB1.out (Nat.le_refl _) hb)
        have q1 := kc_call q1 hb
        clear hb N1 HB1 q0
        go_wp2_with fail
        refine (CB.out _).mono ?_; rintro e w3 ⟨rfl, hb⟩
        have N3 := hide (N2.out.call hb)
        have HB3 := hide (kb_call HB2.out (Nat.le_refl _) hb)
        clear hb N2 HB2 q1
        go_wp2_with fail
        refine (CM.out _).mono ?_; rintro e w4 ⟨rfl, hb⟩
        have N4 := hide ((N3.out.call hb).alloc (.cells #[.int .i64 r1, .int .i64 r2] 23))
        have HB4 := hide ((kb_call HB3.out (Nat.le_refl _) hb).alloc (by have := HB3.out.size; have := hb.size; omega) (.cells #[.int .i64 r1, .int .i64 r2] 23))
        clear hb N3 HB3
        go_wp2_with fail
        refine (CR.out _).mono ?_; rintro e w5 ⟨rfl, hb⟩
        have N5 := hide (N4.out.call hb)
        have HB5 := hide (kb_call HB4.out (Nat.le_refl _) hb)
        have X5 := hide ((Box2.new (x := .int .i64 r1) (y := .int .i64 r2) w4 w4.heap.size 23 rfl).call hb)
        clear hb N4 HB4
        obtain ⟨⟨y0, y1⟩, u0, u1⟩ := N5.out
        obtain ⟨⟨x0, x1⟩, _⟩ := X5.out
        rw [HR.out]
        go_wp2_with fail
        refine (CF.out _).mono ?_; rintro e w6 ⟨rfl, hb⟩
        have N6 := hide (N5.out.call hb)
        have HB6 := hide (kb_call HB5.out (Nat.le_refl _) hb)
        have X6 := hide (X5.out.call hb)
        clear hb N5 HB5 X5 y0 y1 u0 u1 x0 x1
        obtain ⟨⟨y0, y1⟩, u0, u1⟩ := N6.out
        obtain ⟨⟨x0, x1⟩, _⟩ := X6.out
        go_wp2_with fail
        obtain ⟨⟨m0, m1⟩, _⟩ := N6.out.stored (.int .i64 0) (.int .i64 0)
        exact bodyPost_ret (v := prV (0, 0, false)) (by simp [results, Tryd.results8, go_sem, m0, m1, prV]) rfl ⟨by rw [HP.out], ((HB6.out.setCell (by dsimp only; omega) _).setCell (by dsimp only; omega) _)⟩

    · have HP : Hid (prM l (r1, r2) = (0, 0, false)) := by rw [Hid, prM, if_neg (fun e => by rw [hr] at e; cases e.1)]
      have HR := hide hr
      clear hr ht
      go_enter Tryd.func8, Tryd.ntmps8
      have N0 := hide (Box2.new (x := .int .i64 0) (y := .int .i64 0) w w.heap.size 23 rfl)
      have HB0 : Hid (Below w.heap.size w (w.alloc (.cells #[.int .i64 0, .int .i64 0] 23))) := (Below.refl _ _).alloc (Nat.le_refl _) _
      go_wp2_with fail
      refine (CU.out _).mono ?_; rintro e w1 ⟨s, rfl, ho, hb⟩
      have N1 := hide (N0.out.call hb)
      have HB1 := hide (kb_call HB0.out (Nat.le_refl _) hb)
      rcases OwnS.full ho with ⟨_, hz⟩ | ⟨g, cap, rfl, _, hg, hcap, hcell⟩
      · exfalso; rw [hz] at hne; simp at hne
      have q0 := hcell 0 hne
      rw [e0] at q0
      have q1 := hcell 1 h1
      rw [e1] at q1
      clear hb ho hcell N0 HB0
      rw [eN] at hcap ⊢
      go_wp2_with fail
      refine (CA.out _).mono ?_; rintro e w2 ⟨rfl, hb⟩
      have N2 := hide (N1.out.call hb)
      have HB2 := hide (kb_call HB1.out (Nat.le_refl _) hb)
      have q1 := kc_call q1 hb
      clear hb N1 HB1 q0
      go_wp2_with fail
      refine (CB.out _).mono ?_; rintro e w3 ⟨rfl, hb⟩
      have N3 := hide (N2.out.call hb)
      have HB3 := hide (kb_call HB2.out (Nat.le_refl _) hb)
      clear hb N2 HB2 q1
      go_wp2_with fail
      refine (CM.out _).mono ?_; rintro e w4 ⟨rfl, hb⟩
      have N4 := hide ((N3.out.call hb).alloc (.cells #[.int .i64 r1, .int .i64 r2] 23))
      have HB4 := hide ((kb_call HB3.out (Nat.le_refl _) hb).alloc (by have := HB3.out.size; have := hb.size; omega) (.cells #[.int .i64 r1, .int .i64 r2] 23))
      clear hb N3 HB3
      go_wp2_with fail
      refine (CR.out _).mono ?_; rintro e w5 ⟨rfl, hb⟩
      have N5 := hide (N4.out.call hb)
      have HB5 := hide (kb_call HB4.out (Nat.le_refl _) hb)
      have X5 := hide ((Box2.new (x := .int .i64 r1) (y := .int .i64 r2) w4 w4.heap.size 23 rfl).call hb)
      clear hb N4 HB4
      obtain ⟨⟨y0, y1⟩, u0, u1⟩ := N5.out
      obtain ⟨⟨x0, x1⟩, _⟩ := X5.out
      rw [HR.out]
      go_wp2_with fail
      obtain ⟨⟨m0, m1⟩, _⟩ := N5.out.stored (.int .i64 0) (.int .i64 0)
      exact bodyPost_ret (v := prV (0, 0, false)) (by simp [results, Tryd.results8, go_sem, m0, m1, prV]) rfl ⟨by rw [HP.out], ((HB5.out.setCell (by dsimp only; omega) _).setCell (by dsimp only; omega) _)⟩

  · rw [if_neg h1]
    have hN0 : (0 : Int) < (N : Int) := by omega
    have hN1 : ¬ ((1 : Int) < (N : Int)) := by omega
    clear hk hn hpl l0
    obtain ⟨⟨r1, r2⟩, hq⟩ : ∃ q, makeR n 1 = q := ⟨_, rfl⟩
    have CM : Hid (∀ w, Calls Tryd.prog 34 #[.int .i64 n, .int .i64 1] w fun e w' => e = .returned (rv r1 r2) ∧ Below w.heap.size w w') := fun w => by
      have := specMakeRatio n 1 w
      rwa [hq] at this
    have hin := makeR_in n 1
    rw [hq] at hin ⊢
    simp only at hin
    have CR := hide fun (w : World) => specIsRatio r1 r2 w
    have CF := hide fun (w : World) => specFormatRatio r1 r2 (by omega) (by omega) (by omega) (by omega) w
    obtain ⟨t, ht⟩ : ∃ t, ratT r1 r2 = t := ⟨_, rfl⟩
    rw [ht] at CF
    clear hq hin
    rcases Bool.eq_false_or_eq_true (isRatio r1 r2) with hr | hr
    · by_cases htl : t = l
      · have HP : Hid (prM l (r1, r2) = (r1, r2, true)) := by rw [Hid, prM, if_pos ⟨hr, by rw [ht, htl]⟩]
        have HR := hide hr
        clear hr ht
        subst htl
        go_enter Tryd.func8, Tryd.ntmps8
        have N0 := hide (Box2.new (x := .int .i64 0) (y := .int .i64 0) w w.heap.size 23 rfl)
        have HB0 : Hid (Below w.heap.size w (w.alloc (.cells #[.int .i64 0, .int .i64 0] 23))) := (Below.refl _ _).alloc (Nat.le_refl _) _
        go_wp2_with fail
        refine (CU.out _).mono ?_; rintro e w1 ⟨s, rfl, ho, hb⟩
        have N1 := hide (N0.out.call hb)
        have HB1 := hide (kb_call HB0.out (Nat.le_refl _) hb)
        rcases OwnS.full ho with ⟨_, hz⟩ | ⟨g, cap, rfl, _, hg, hcap, hcell⟩
        · exfalso; rw [hz] at hne; simp at hne
        have q0 := hcell 0 hne
        rw [e0] at q0
        clear hb ho hcell N0 HB0
        rw [eN] at hcap ⊢
        go_wp2_with fail
        refine (CA.out _).mono ?_; rintro e w2 ⟨rfl, hb⟩
        have N2 := hide (N1.out.call hb)
        have HB2 := hide (kb_call HB1.out (Nat.le_refl _) hb)
        clear hb N1 HB1 q0
        have N3 := N2
        have HB3 := HB2
        clear N2 HB2
        go_wp2_with fail
        refine (CM.out _).mono ?_; rintro e w4 ⟨rfl, hb⟩
        have N4 := hide ((N3.out.call hb).alloc (.cells #[.int .i64 r1, .int .i64 r2] 23))
        have HB4 := hide ((kb_call HB3.out (Nat.le_refl _) hb).alloc (by have := HB3.out.size; have := hb.size; omega) (.cells #[.int .i64 r1, .int .i64 r2] 23))
        clear hb N3 HB3
        go_wp2_with fail
        refine (CR.out _).mono ?_; rintro e w5 ⟨rfl, hb⟩
        have N5 := hide (N4.out.call hb)
        have HB5 := hide (kb_call HB4.out (Nat.le_refl _) hb)
        have X5 := hide ((Box2.new (x := .int .i64 r1) (y := .int .i64 r2) w4 w4.heap.size 23 rfl).call hb)
        clear hb N4 HB4
        obtain ⟨⟨y0, y1⟩, u0, u1⟩ := N5.out
        obtain ⟨⟨x0, x1⟩, _⟩ := X5.out
        rw [HR.out]
        go_wp2_with fail
        refine (CF.out _).mono ?_; rintro e w6 ⟨rfl, hb⟩
        have N6 := hide (N5.out.call hb)
        have HB6 := hide (kb_call HB5.out (Nat.le_refl _) hb)
        have X6 := hide (X5.out.call hb)
        clear hb N5 HB5 X5 y0 y1 u0 u1 x0 x1
        obtain ⟨⟨y0, y1⟩, u0, u1⟩ := N6.out
        obtain ⟨⟨x0, x1⟩, _⟩ := X6.out
        go_wp2_with fail
        obtain ⟨⟨m0, m1⟩, _⟩ := N6.out.stored (.int .i64 r1) (.int .i64 r2)
        exact bodyPost_ret (v := prV (r1, r2, true)) (by simp [results, Tryd.results8, go_sem, m0, m1, prV]) rfl ⟨by rw [HP.out], ((HB6.out.setCell (by dsimp only; omega) _).setCell (by dsimp only; omega) _)⟩

      · have HP : Hid (prM l (r1, r2) = (0, 0, false)) := by rw [Hid, prM, if_neg (fun e => htl (by rw [← ht]; exact e.2))]
        have HR := hide hr
        have n2 : (t == l) = false := by simpa using htl
        have n3 : (t != l) = true := by simpa using htl
        clear hr ht htl
        go_enter Tryd.func8, Tryd.ntmps8
        have N0 := hide (Box2.new (x := .int .i64 0) (y := .int .i64 0) w w.heap.size 23 rfl)
        have HB0 : Hid (Below w.heap.size w (w.alloc (.cells #[.int .i64 0, .int .i64 0] 23))) := (Below.refl _ _).alloc (Nat.le_refl _) _
        go_wp2_with fail
        refine (CU.out _).mono ?_; rintro e w1 ⟨s, rfl, ho, hb⟩
        have N1 := hide (N0.out.call hb)
        have HB1 := hide (kb_call HB0.out (Nat.le_refl _) hb)
        rcases OwnS.full ho with ⟨_, hz⟩ | ⟨g, cap, rfl, _, hg, hcap, hcell⟩
        · exfalso; rw [hz] at hne; simp at hne
        have q0 := hcell 0 hne
        rw [e0] at q0
        clear hb ho hcell N0 HB0
        rw [eN] at hcap ⊢
        go_wp2_with fail
        refine (CA.out _).mono ?_; rintro e w2 ⟨rfl, hb⟩
        have N2 := hide (N1.out.call hb)
        have HB2 := hide (kb_call HB1.out (Nat.le_refl _) hb)
        clear hb N1 HB1 q0
        have N3 := N2
        have HB3 := HB2
        clear N2 HB2
        go_wp2_with fail
        refine (CM.out _).mono ?_; rintro e w4 ⟨rfl, hb⟩
        have N4 := hide ((N3.out.call hb).alloc (.cells #[.int .i64 r1, .int .i64 r2] 23))
        have HB4 := hide ((kb_call HB3.out (Nat.le_refl _) hb).alloc (by have := HB3.out.size; have := hb.size; omega) (.cells #[.int .i64 r1, .int .i64 r2] 23))
        clear hb N3 HB3
        go_wp2_with fail
        refine (CR.out _).mono ?_; rintro e w5 ⟨rfl, hb⟩
        have N5 := hide (N4.out.call hb)
        have HB5 := hide (kb_call HB4.out (Nat.le_refl _) hb)
        have X5 := hide ((Box2.new (x := .int .i64 r1) (y := .int .i64 r2) w4 w4.heap.size 23 rfl).call hb)
        clear hb N4 HB4
        obtain ⟨⟨y0, y1⟩, u0, u1⟩ := N5.out
        obtain ⟨⟨x0, x1⟩, _⟩ := X5.out
        rw [HR.out]
        go_wp2_with fail
        refine (CF.out _).mono ?_; rintro e w6 ⟨rfl, hb⟩
        have N6 := hide (N5.out.call hb)
        have HB6 := hide (kb_call HB5.out (Nat.le_refl _) hb)
        have X6 := hide (X5.out.call hb)
        clear hb N5 HB5 X5 y0 y1 u0 u1 x0 x1
        obtain ⟨⟨y0, y1⟩, u0, u1⟩ := N6.out
        obtain ⟨⟨x0, x1⟩, _⟩ := X6.out
        go_wp2_with fail
        obtain ⟨⟨m0, m1⟩, _⟩ := N6.out.stored (.int .i64 0) (.int .i64 0)
        exact bodyPost_ret (v := prV (0, 0, false)) (by simp [results, Tryd.results8, go_sem, m0, m1, prV]) rfl ⟨by rw [HP.out], ((HB6.out.setCell (by dsimp only; omega) _).setCell (by dsimp only; omega) _)⟩

    · have HP : Hid (prM l (r1, r2) = (0, 0, false)) := by rw [Hid, prM, if_neg (fun e => by rw [hr] at e; cases e.1)]
      have HR := hide hr
      clear hr ht
      go_enter Tryd.func8, Tryd.ntmps8
      have N0 := hide (Box2.new (x := .int .i64 0) (y := .int .i64 0) w w.heap.size 23 rfl)
      have HB0 : Hid (Below w.heap.size w (w.alloc (.cells #[.int .i64 0, .int .i64 0] 23))) := (Below.refl _ _).alloc (Nat.le_refl _) _
      go_wp2_with fail
      refine (CU.out _).mono ?_; rintro e w1 ⟨s, rfl, ho, hb⟩
      have N1 := hide (N0.out.call hb)
      have HB1 := hide (kb_call HB0.out (Nat.le_refl _) hb)
      rcases OwnS.full ho with ⟨_, hz⟩ | ⟨g, cap, rfl, _, hg, hcap, hcell⟩
      · exfalso; rw [hz] at hne; simp at hne
      have q0 := hcell 0 hne
      rw [e0] at q0
      clear hb ho hcell N0 HB0
      rw [eN] at hcap ⊢
      go_wp2_with fail
      refine (CA.out _).mono ?_; rintro e w2 ⟨rfl, hb⟩
      have N2 := hide (N1.out.call hb)
      have HB2 := hide (kb_call HB1.out (Nat.le_refl _) hb)
      clear hb N1 HB1 q0
      have N3 := N2
      have HB3 := HB2
      clear N2 HB2
      go_wp2_with fail
      refine (CM.out _).mono ?_; rintro e w4 ⟨rfl, hb⟩
      have N4 := hide ((N3.out.call hb).alloc (.cells #[.int .i64 r1, .int .i64 r2] 23))
      have HB4 := hide ((kb_call HB3.out (Nat.le_refl _) hb).alloc (by have := HB3.out.size; have := hb.size; omega) (.cells #[.int .i64 r1, .int .i64 r2] 23))
      clear hb N3 HB3
      go_wp2_with fail
      refine (CR.out _).mono ?_; rintro e w5 ⟨rfl, hb⟩
      have N5 := hide (N4.out.call hb)
      have HB5 := hide (kb_call HB4.out (Nat.le_refl _) hb)
      have X5 := hide ((Box2.new (x := .int .i64 r1) (y := .int .i64 r2) w4 w4.heap.size 23 rfl).call hb)
      clear hb N4 HB4
      obtain ⟨⟨y0, y1⟩, u0, u1⟩ := N5.out
      obtain ⟨⟨x0, x1⟩, _⟩ := X5.out
      rw [HR.out]
      go_wp2_with fail
      obtain ⟨⟨m0, m1⟩, _⟩ := N5.out.stored (.int .i64 0) (.int .i64 0)
      exact bodyPost_ret (v := prV (0, 0, false)) (by simp [results, Tryd.results8, go_sem, m0, m1, prV]) rfl ⟨by rw [HP.out], ((HB5.out.setCell (by dsimp only; omega) _).setCell (by dsimp only; omega) _)⟩

end Go.Proofs.YtkaiekhmcjojoaaDoor
