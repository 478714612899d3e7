/- ParseRatio: both walks. -/
import Derived.Test.YtkaiekhmcjojoaaDoorSplW
import Derived.Test.YtkaiekhmcjojoaaDoorPrsX
import Derived.Test.YtkaiekhmcjojoaaDoorCur
import Derived.Test.YtkaiekhmcjojoaaDoorFmtR
import Derived.Test.YtkaiekhmcjojoaaDoorRatF
import Derived.Test.YtkaiekhmcjojoaaDoorCutL
namespace Go.Proofs.YtkaiekhmcjojoaaDoor
open Go.RowKit
set_option linter.unusedSimpArgs false
set_option linter.unusedVariables false
theorem cut_len (l sep : List UInt8) : (Lib.cut l sep).1.length ≤ l.length ∧ (Lib.cut l sep).2.1.length ≤ l.length := by
  unfold Lib.cut
  split
  · simp only [List.length_take, List.length_drop]; omega
  · simp
/-- What a ratio's reader returns. -/
def prV (p : Int × Int × Bool) : Value := .tuple #[rv p.1 p.2.1, .bool p.2.2]
/-- The program's reading of two parts. -/
def prE (l : List UInt8) : Option Int → Option Int → Int × Int × Bool
  | some n, some d => if isRatio n d = true ∧ ratT n d = l then (n, d, true) else (0, 0, false)
  | _, _ => (0, 0, false)
/-- What the program reads. -/
def prI (l : List UInt8) : Int × Int × Bool := prE l (parseI (Lib.cut l [47]).1) (parseI (if (Lib.cut l [47]).2.2 = true then (Lib.cut l [47]).2.1 else [49]))
theorem parseI_in {l : List UInt8} {n : Int} (h : parseI l = some n) : -9223372036854775808 ≤ n ∧ n ≤ 9223372036854775807 := by
  have := isNum_t (parseI_iff.1 h).1
  omega
theorem ratT_len {n d : Int} (n0 : -9223372036854775808 ≤ n) (n1 : n ≤ 9223372036854775807) (d0 : -9223372036854775808 ≤ d) (d1 : d ≤ 9223372036854775807) : (ratT n d).length ≤ 60 := by
  have h1 := itoa_len n0 n1
  have h2 := itoa_len d0 d1
  unfold ratT
  split
  · split
    · omega
    · simp only [List.length_append, List.length_cons, List.length_nil]; omega
  · decide
def RetP (w : World) (p : Int × Int × Bool) (e : Ending) (w' : World) : Prop := e = .returned (prV p) ∧ Below w.heap.size w w'
set_option maxHeartbeats 8000000 in
theorem implParseRatio (l : List UInt8) (hl : l.length ≤ 1048576) (w : World) (hE : Env w) :
    Calls Tryd.prog 9 #[sv l] w (RetP w (prI l)) := by
  have HE := hide hE
  clear hE
  have cu : ∀ w, Env w → Calls Tryd.prog 36 #[sv l, sv [47]] w fun e w' => e = .returned (.tuple #[sv (Lib.cut l [47]).1, sv (Lib.cut l [47]).2.1, .bool (Lib.cut l [47]).2.2]) ∧ ∃ n, w' = w.drewN n := fun w hE => by
    obtain ⟨_, _, _, m, hm⟩ := hE
    exact Tryd.strings_Cut ⟨l.toArray⟩ ⟨#[47]⟩ m w (by show l.length < 4294967281; omega) hm
  have hlen := cut_len l [47]
  unfold prI
  obtain ⟨c, hc⟩ : ∃ c, Lib.cut l [47] = c := ⟨_, rfl⟩
  rw [hc] at cu hlen
  rw [hc]
  clear hc
  obtain ⟨a, b, ok⟩ := c
  simp only at cu hlen
  have CU := hide cu
  clear cu
  have ca := fun (w : World) (hE : Env w) => implParseInt a (by omega) w hE
  cases ok
  · have cb := fun (w : World) (hE : Env w) => implParseInt [49] (by decide) w hE
    simp only [Bool.false_eq_true, if_false]
    cases hpa : parseI a with
    | none =>
      have HP : Hid (prE l none (parseI [49]) = (0, 0, false)) := rfl
      rw [hpa] at ca
      simp only [piV] at ca
      have CA := hide ca
      clear ca
      cases hpb : parseI [49] with
      | none =>
        rw [hpb] at cb HP
        simp only [piV] at cb
        have CB := hide cb
        clear cb hpa hpb
        go_enter Tryd.func9, Tryd.ntmps9
        have N0 := hide (Box2.new (x := .int .i64 0) (y := .int .i64 0) w w.heap.size 23 rfl)
        have HB0 : Hid (Below w.heap.size w (w.alloc (.cells #[.int .i64 0, .int .i64 0] 23))) := (Below.refl _ _).alloc (Nat.le_refl _) _
        go_wp2_with fail
        refine (CU.out _ (HE.out.below HB0.out)).mono ?_; rintro e w1 ⟨rfl, k1, rfl⟩
        have N1 := hide (N0.out.call (below_drewN (Below.refl _ _) k1))
        have HB1 := hide (below_drewN HB0.out k1)
        clear N0 HB0
        go_wp2_with fail
        refine (CA.out _ (HE.out.below HB1.out)).mono ?_; rintro e w2 ⟨rfl, hb⟩
        have N2 := hide (N1.out.call hb)
        have HB2 := hide (kb_call HB1.out (Nat.le_refl _) hb)
        clear hb N1
        go_wp2_with fail
        refine (CB.out _ (HE.out.below HB2.out)).mono ?_; rintro e w3 ⟨rfl, hb⟩
        have N3 := hide (N2.out.call hb)
        have HB3 := hide (kb_call HB2.out (Nat.le_refl _) hb)
        have hlt3 := N3.out.lt
        clear hb N2
        have N4 := hide (N3.out.alloc (.cells #[.int .i64 0, .int .i64 0] 23))
        have HB4 := hide (HB3.out.alloc HB3.out.size (.cells #[.int .i64 0, .int .i64 0] 23))
        obtain ⟨⟨y0, y1⟩, u0, u1⟩ := N4.out
        obtain ⟨⟨z0, z1⟩, v0, v1⟩ := N3.out
        go_wp2_with fail
        obtain ⟨⟨m0, m1⟩, _⟩ := (N3.out.stored (.int .i64 0) (.int .i64 0)).alloc (.cells #[.int .i64 0, .int .i64 0] 23)
        exact bodyPost_ret (v := prV (0, 0, false)) (by simp [results, Tryd.results9, go_sem, m0, m1, prV]) rfl ⟨by rw [HP.out], (((HB3.out.setCell (Nat.le_refl _) _).setCell (Nat.le_refl _) _).alloc (by simp; omega) _)⟩

      | some d =>
        rw [hpb] at cb HP
        simp only [piV] at cb
        have CB := hide cb
        clear cb hpa hpb
        go_enter Tryd.func9, Tryd.ntmps9
        have N0 := hide (Box2.new (x := .int .i64 0) (y := .int .i64 0) w w.heap.size 23 rfl)
        have HB0 : Hid (Below w.heap.size w (w.alloc (.cells #[.int .i64 0, .int .i64 0] 23))) := (Below.refl _ _).alloc (Nat.le_refl _) _
        go_wp2_with fail
        refine (CU.out _ (HE.out.below HB0.out)).mono ?_; rintro e w1 ⟨rfl, k1, rfl⟩
        have N1 := hide (N0.out.call (below_drewN (Below.refl _ _) k1))
        have HB1 := hide (below_drewN HB0.out k1)
        clear N0 HB0
        go_wp2_with fail
        refine (CA.out _ (HE.out.below HB1.out)).mono ?_; rintro e w2 ⟨rfl, hb⟩
        have N2 := hide (N1.out.call hb)
        have HB2 := hide (kb_call HB1.out (Nat.le_refl _) hb)
        clear hb N1
        go_wp2_with fail
        refine (CB.out _ (HE.out.below HB2.out)).mono ?_; rintro e w3 ⟨rfl, hb⟩
        have N3 := hide (N2.out.call hb)
        have HB3 := hide (kb_call HB2.out (Nat.le_refl _) hb)
        have hlt3 := N3.out.lt
        clear hb N2
        have N4 := hide (N3.out.alloc (.cells #[.int .i64 0, .int .i64 d] 23))
        have HB4 := hide (HB3.out.alloc HB3.out.size (.cells #[.int .i64 0, .int .i64 d] 23))
        obtain ⟨⟨y0, y1⟩, u0, u1⟩ := N4.out
        obtain ⟨⟨z0, z1⟩, v0, v1⟩ := N3.out
        go_wp2_with fail
        obtain ⟨⟨m0, m1⟩, _⟩ := (N3.out.stored (.int .i64 0) (.int .i64 0)).alloc (.cells #[.int .i64 0, .int .i64 d] 23)
        exact bodyPost_ret (v := prV (0, 0, false)) (by simp [results, Tryd.results9, go_sem, m0, m1, prV]) rfl ⟨by rw [HP.out], (((HB3.out.setCell (Nat.le_refl _) _).setCell (Nat.le_refl _) _).alloc (by simp; omega) _)⟩

    | some n =>
      rw [hpa] at ca
      simp only [piV] at ca
      have CA := hide ca
      clear ca
      have hn := parseI_in hpa
      cases hpb : parseI [49] with
      | none =>
        have HP : Hid (prE l (some n) none = (0, 0, false)) := rfl
        rw [hpb] at cb
        simp only [piV] at cb
        have CB := hide cb
        clear cb hpa hpb hn
        go_enter Tryd.func9, Tryd.ntmps9
        have N0 := hide (Box2.new (x := .int .i64 0) (y := .int .i64 0) w w.heap.size 23 rfl)
        have HB0 : Hid (Below w.heap.size w (w.alloc (.cells #[.int .i64 0, .int .i64 0] 23))) := (Below.refl _ _).alloc (Nat.le_refl _) _
        go_wp2_with fail
        refine (CU.out _ (HE.out.below HB0.out)).mono ?_; rintro e w1 ⟨rfl, k1, rfl⟩
        have N1 := hide (N0.out.call (below_drewN (Below.refl _ _) k1))
        have HB1 := hide (below_drewN HB0.out k1)
        clear N0 HB0
        go_wp2_with fail
        refine (CA.out _ (HE.out.below HB1.out)).mono ?_; rintro e w2 ⟨rfl, hb⟩
        have N2 := hide (N1.out.call hb)
        have HB2 := hide (kb_call HB1.out (Nat.le_refl _) hb)
        clear hb N1
        go_wp2_with fail
        refine (CB.out _ (HE.out.below HB2.out)).mono ?_; rintro e w3 ⟨rfl, hb⟩
        have N3 := hide (N2.out.call hb)
        have HB3 := hide (kb_call HB2.out (Nat.le_refl _) hb)
        have hlt3 := N3.out.lt
        clear hb N2
        have N4 := hide (N3.out.alloc (.cells #[.int .i64 n, .int .i64 0] 23))
        have HB4 := hide (HB3.out.alloc HB3.out.size (.cells #[.int .i64 n, .int .i64 0] 23))
        obtain ⟨⟨y0, y1⟩, u0, u1⟩ := N4.out
        obtain ⟨⟨z0, z1⟩, v0, v1⟩ := N3.out
        go_wp2_with fail
        obtain ⟨⟨m0, m1⟩, _⟩ := (N3.out.stored (.int .i64 0) (.int .i64 0)).alloc (.cells #[.int .i64 n, .int .i64 0] 23)
        exact bodyPost_ret (v := prV (0, 0, false)) (by simp [results, Tryd.results9, go_sem, m0, m1, prV]) rfl ⟨by rw [HP.out], (((HB3.out.setCell (Nat.le_refl _) _).setCell (Nat.le_refl _) _).alloc (by simp; omega) _)⟩

      | some d =>
        rw [hpb] at cb
        simp only [piV] at cb
        have CB := hide cb
        have hd := parseI_in hpb
        clear cb hpa hpb
        have CF := hide fun (w : World) hT => implFormatRatio n d hn.1 hn.2 hd.1 hd.2 w hT
        obtain ⟨t, ht⟩ : ∃ t, ratT n d = t := ⟨_, rfl⟩
        rw [ht] at CF
        rcases Bool.eq_false_or_eq_true (isRatio n d) with hr | hr
        · by_cases htl : t = l
          · have HP : Hid (prE l (some n) (some d) = (n, d, true)) := by rw [Hid, prE, if_pos ⟨hr, by rw [ht, htl]⟩]
            have HR := hide hr
            clear hr ht hn hd
            subst htl
            go_enter Tryd.func9, Tryd.ntmps9
            have N0 := hide (Box2.new (x := .int .i64 0) (y := .int .i64 0) w w.heap.size 23 rfl)
            have HB0 : Hid (Below w.heap.size w (w.alloc (.cells #[.int .i64 0, .int .i64 0] 23))) := (Below.refl _ _).alloc (Nat.le_refl _) _
            go_wp2_with fail
            refine (CU.out _ (HE.out.below HB0.out)).mono ?_; rintro e w1 ⟨rfl, k1, rfl⟩
            have N1 := hide (N0.out.call (below_drewN (Below.refl _ _) k1))
            have HB1 := hide (below_drewN HB0.out k1)
            clear N0 HB0
            go_wp2_with fail
            refine (CA.out _ (HE.out.below HB1.out)).mono ?_; rintro e w2 ⟨rfl, hb⟩
            have N2 := hide (N1.out.call hb)
            have HB2 := hide (kb_call HB1.out (Nat.le_refl _) hb)
            clear hb N1
            go_wp2_with fail
            refine (CB.out _ (HE.out.below HB2.out)).mono ?_; rintro e w3 ⟨rfl, hb⟩
            have N3 := hide (N2.out.call hb)
            have HB3 := hide (kb_call HB2.out (Nat.le_refl _) hb)
            have hlt3 := N3.out.lt
            clear hb N2
            have N4 := hide (N3.out.alloc (.cells #[.int .i64 n, .int .i64 d] 23))
            have HB4 := hide (HB3.out.alloc HB3.out.size (.cells #[.int .i64 n, .int .i64 d] 23))
            obtain ⟨⟨y0, y1⟩, u0, u1⟩ := N4.out
            go_wp2_with fail
            refine (implIsRatio n d _).mono ?_; rintro e w5 ⟨rfl, hb⟩
            have N5 := hide (N4.out.call hb)
            have HB5 := hide (kb_call HB4.out (Nat.le_refl _) hb)
            have X5 := hide ((Box2.new (x := .int .i64 n) (y := .int .i64 d) w3 w3.heap.size 23 rfl).call hb)
            clear hb N4 HB4 y0 y1 u0 u1
            obtain ⟨⟨y0, y1⟩, u0, u1⟩ := N5.out
            obtain ⟨⟨x0, x1⟩, _⟩ := X5.out
            rw [HR.out]
            go_wp2_with fail
            refine (CF.out _ (HE.out.1.below HB5.out)).mono ?_; rintro e w6 ⟨rfl, hb⟩
            have N6 := hide (N5.out.call hb)
            have HB6 := hide (kb_call HB5.out (Nat.le_refl _) hb)
            have X6 := hide (X5.out.call hb)
            clear hb N5 HB5 X5 y0 y1 u0 u1 x0 x1
            obtain ⟨⟨y0, y1⟩, u0, u1⟩ := N6.out
            obtain ⟨⟨x0, x1⟩, _⟩ := X6.out
            go_wp2_with fail
            have NL := N6
            have HBL := HB6
            obtain ⟨⟨m0, m1⟩, _⟩ := NL.out.stored (.int .i64 n) (.int .i64 d)
            exact bodyPost_ret (v := prV (n, d, true)) (by simp [results, Tryd.results9, go_sem, m0, m1, prV]) rfl ⟨by rw [HP.out], ((HBL.out.setCell (by dsimp only; omega) _).setCell (by dsimp only; omega) _)⟩

          · have HP : Hid (prE l (some n) (some d) = (0, 0, false)) := by rw [Hid, prE, if_neg (fun e => htl (by rw [← ht]; exact e.2))]
            have HR := hide hr
            have n2 : (t == l) = false := by simpa using htl
            have n3 : (t != l) = true := by simpa using htl
            clear hr ht hn hd htl
            go_enter Tryd.func9, Tryd.ntmps9
            have N0 := hide (Box2.new (x := .int .i64 0) (y := .int .i64 0) w w.heap.size 23 rfl)
            have HB0 : Hid (Below w.heap.size w (w.alloc (.cells #[.int .i64 0, .int .i64 0] 23))) := (Below.refl _ _).alloc (Nat.le_refl _) _
            go_wp2_with fail
            refine (CU.out _ (HE.out.below HB0.out)).mono ?_; rintro e w1 ⟨rfl, k1, rfl⟩
            have N1 := hide (N0.out.call (below_drewN (Below.refl _ _) k1))
            have HB1 := hide (below_drewN HB0.out k1)
            clear N0 HB0
            go_wp2_with fail
            refine (CA.out _ (HE.out.below HB1.out)).mono ?_; rintro e w2 ⟨rfl, hb⟩
            have N2 := hide (N1.out.call hb)
            have HB2 := hide (kb_call HB1.out (Nat.le_refl _) hb)
            clear hb N1
            go_wp2_with fail
            refine (CB.out _ (HE.out.below HB2.out)).mono ?_; rintro e w3 ⟨rfl, hb⟩
            have N3 := hide (N2.out.call hb)
            have HB3 := hide (kb_call HB2.out (Nat.le_refl _) hb)
            have hlt3 := N3.out.lt
            clear hb N2
            have N4 := hide (N3.out.alloc (.cells #[.int .i64 n, .int .i64 d] 23))
            have HB4 := hide (HB3.out.alloc HB3.out.size (.cells #[.int .i64 n, .int .i64 d] 23))
            obtain ⟨⟨y0, y1⟩, u0, u1⟩ := N4.out
            go_wp2_with fail
            refine (implIsRatio n d _).mono ?_; rintro e w5 ⟨rfl, hb⟩
            have N5 := hide (N4.out.call hb)
            have HB5 := hide (kb_call HB4.out (Nat.le_refl _) hb)
            have X5 := hide ((Box2.new (x := .int .i64 n) (y := .int .i64 d) w3 w3.heap.size 23 rfl).call hb)
            clear hb N4 HB4 y0 y1 u0 u1
            obtain ⟨⟨y0, y1⟩, u0, u1⟩ := N5.out
            obtain ⟨⟨x0, x1⟩, _⟩ := X5.out
            rw [HR.out]
            go_wp2_with fail
            refine (CF.out _ (HE.out.1.below HB5.out)).mono ?_; rintro e w6 ⟨rfl, hb⟩
            have N6 := hide (N5.out.call hb)
            have HB6 := hide (kb_call HB5.out (Nat.le_refl _) hb)
            have X6 := hide (X5.out.call hb)
            clear hb N5 HB5 X5 y0 y1 u0 u1 x0 x1
            obtain ⟨⟨y0, y1⟩, u0, u1⟩ := N6.out
            obtain ⟨⟨x0, x1⟩, _⟩ := X6.out
            go_wp2_with fail
            have NL := N6
            have HBL := HB6
            obtain ⟨⟨m0, m1⟩, _⟩ := NL.out.stored (.int .i64 0) (.int .i64 0)
            exact bodyPost_ret (v := prV (0, 0, false)) (by simp [results, Tryd.results9, go_sem, m0, m1, prV]) rfl ⟨by rw [HP.out], ((HBL.out.setCell (by dsimp only; omega) _).setCell (by dsimp only; omega) _)⟩

        · have HP : Hid (prE l (some n) (some d) = (0, 0, false)) := by rw [Hid, prE, if_neg (fun e => by rw [hr] at e; cases e.1)]
          have HR := hide hr
          clear hr ht hn hd
          go_enter Tryd.func9, Tryd.ntmps9
          have N0 := hide (Box2.new (x := .int .i64 0) (y := .int .i64 0) w w.heap.size 23 rfl)
          have HB0 : Hid (Below w.heap.size w (w.alloc (.cells #[.int .i64 0, .int .i64 0] 23))) := (Below.refl _ _).alloc (Nat.le_refl _) _
          go_wp2_with fail
          refine (CU.out _ (HE.out.below HB0.out)).mono ?_; rintro e w1 ⟨rfl, k1, rfl⟩
          have N1 := hide (N0.out.call (below_drewN (Below.refl _ _) k1))
          have HB1 := hide (below_drewN HB0.out k1)
          clear N0 HB0
          go_wp2_with fail
          refine (CA.out _ (HE.out.below HB1.out)).mono ?_; rintro e w2 ⟨rfl, hb⟩
          have N2 := hide (N1.out.call hb)
          have HB2 := hide (kb_call HB1.out (Nat.le_refl _) hb)
          clear hb N1
          go_wp2_with fail
          refine (CB.out _ (HE.out.below HB2.out)).mono ?_; rintro e w3 ⟨rfl, hb⟩
          have N3 := hide (N2.out.call hb)
          have HB3 := hide (kb_call HB2.out (Nat.le_refl _) hb)
          have hlt3 := N3.out.lt
          clear hb N2
          have N4 := hide (N3.out.alloc (.cells #[.int .i64 n, .int .i64 d] 23))
          have HB4 := hide (HB3.out.alloc HB3.out.size (.cells #[.int .i64 n, .int .i64 d] 23))
          obtain ⟨⟨y0, y1⟩, u0, u1⟩ := N4.out
          go_wp2_with fail
          refine (implIsRatio n d _).mono ?_; rintro e w5 ⟨rfl, hb⟩
          have N5 := hide (N4.out.call hb)
          have HB5 := hide (kb_call HB4.out (Nat.le_refl _) hb)
          have X5 := hide ((Box2.new (x := .int .i64 n) (y := .int .i64 d) w3 w3.heap.size 23 rfl).call hb)
          clear hb N4 HB4 y0 y1 u0 u1
          obtain ⟨⟨y0, y1⟩, u0, u1⟩ := N5.out
          obtain ⟨⟨x0, x1⟩, _⟩ := X5.out
          rw [HR.out]
          go_wp2_with fail
          have NL := N5
          have HBL := HB5
          obtain ⟨⟨m0, m1⟩, _⟩ := NL.out.stored (.int .i64 0) (.int .i64 0)
          exact bodyPost_ret (v := prV (0, 0, false)) (by simp [results, Tryd.results9, go_sem, m0, m1, prV]) rfl ⟨by rw [HP.out], ((HBL.out.setCell (by dsimp only; omega) _).setCell (by dsimp only; omega) _)⟩

  · have cb := fun (w : World) (hE : Env w) => implParseInt b (by omega) w hE
    simp only [if_true]
    cases hpa : parseI a with
    | none =>
      have HP : Hid (prE l none (parseI b) = (0, 0, false)) := rfl
      rw [hpa] at ca
      simp only [piV] at ca
      have CA := hide ca
      clear ca
      cases hpb : parseI b with
      | none =>
        rw [hpb] at cb HP
        simp only [piV] at cb
        have CB := hide cb
        clear cb hpa hpb
        go_enter Tryd.func9, Tryd.ntmps9
        have N0 := hide (Box2.new (x := .int .i64 0) (y := .int .i64 0) w w.heap.size 23 rfl)
        have HB0 : Hid (Below w.heap.size w (w.alloc (.cells #[.int .i64 0, .int .i64 0] 23))) := (Below.refl _ _).alloc (Nat.le_refl _) _
        go_wp2_with fail
        refine (CU.out _ (HE.out.below HB0.out)).mono ?_; rintro e w1 ⟨rfl, k1, rfl⟩
        have N1 := hide (N0.out.call (below_drewN (Below.refl _ _) k1))
        have HB1 := hide (below_drewN HB0.out k1)
        clear N0 HB0
        go_wp2_with fail
        refine (CA.out _ (HE.out.below HB1.out)).mono ?_; rintro e w2 ⟨rfl, hb⟩
        have N2 := hide (N1.out.call hb)
        have HB2 := hide (kb_call HB1.out (Nat.le_refl _) hb)
        clear hb N1
        go_wp2_with fail
        refine (CB.out _ (HE.out.below HB2.out)).mono ?_; rintro e w3 ⟨rfl, hb⟩
        have N3 := hide (N2.out.call hb)
        have HB3 := hide (kb_call HB2.out (Nat.le_refl _) hb)
        have hlt3 := N3.out.lt
        clear hb N2
        have N4 := hide (N3.out.alloc (.cells #[.int .i64 0, .int .i64 0] 23))
        have HB4 := hide (HB3.out.alloc HB3.out.size (.cells #[.int .i64 0, .int .i64 0] 23))
        obtain ⟨⟨y0, y1⟩, u0, u1⟩ := N4.out
        obtain ⟨⟨z0, z1⟩, v0, v1⟩ := N3.out
        go_wp2_with fail
        obtain ⟨⟨m0, m1⟩, _⟩ := (N3.out.stored (.int .i64 0) (.int .i64 0)).alloc (.cells #[.int .i64 0, .int .i64 0] 23)
        exact bodyPost_ret (v := prV (0, 0, false)) (by simp [results, Tryd.results9, go_sem, m0, m1, prV]) rfl ⟨by rw [HP.out], (((HB3.out.setCell (Nat.le_refl _) _).setCell (Nat.le_refl _) _).alloc (by simp; omega) _)⟩

      | some d =>
        rw [hpb] at cb HP
        simp only [piV] at cb
        have CB := hide cb
        clear cb hpa hpb
        go_enter Tryd.func9, Tryd.ntmps9
        have N0 := hide (Box2.new (x := .int .i64 0) (y := .int .i64 0) w w.heap.size 23 rfl)
        have HB0 : Hid (Below w.heap.size w (w.alloc (.cells #[.int .i64 0, .int .i64 0] 23))) := (Below.refl _ _).alloc (Nat.le_refl _) _
        go_wp2_with fail
        refine (CU.out _ (HE.out.below HB0.out)).mono ?_; rintro e w1 ⟨rfl, k1, rfl⟩
        have N1 := hide (N0.out.call (below_drewN (Below.refl _ _) k1))
        have HB1 := hide (below_drewN HB0.out k1)
        clear N0 HB0
        go_wp2_with fail
        refine (CA.out _ (HE.out.below HB1.out)).mono ?_; rintro e w2 ⟨rfl, hb⟩
        have N2 := hide (N1.out.call hb)
        have HB2 := hide (kb_call HB1.out (Nat.le_refl _) hb)
        clear hb N1
        go_wp2_with fail
        refine (CB.out _ (HE.out.below HB2.out)).mono ?_; rintro e w3 ⟨rfl, hb⟩
        have N3 := hide (N2.out.call hb)
        have HB3 := hide (kb_call HB2.out (Nat.le_refl _) hb)
        have hlt3 := N3.out.lt
        clear hb N2
        have N4 := hide (N3.out.alloc (.cells #[.int .i64 0, .int .i64 d] 23))
        have HB4 := hide (HB3.out.alloc HB3.out.size (.cells #[.int .i64 0, .int .i64 d] 23))
        obtain ⟨⟨y0, y1⟩, u0, u1⟩ := N4.out
        obtain ⟨⟨z0, z1⟩, v0, v1⟩ := N3.out
        go_wp2_with fail
        obtain ⟨⟨m0, m1⟩, _⟩ := (N3.out.stored (.int .i64 0) (.int .i64 0)).alloc (.cells #[.int .i64 0, .int .i64 d] 23)
        exact bodyPost_ret (v := prV (0, 0, false)) (by simp [results, Tryd.results9, go_sem, m0, m1, prV]) rfl ⟨by rw [HP.out], (((HB3.out.setCell (Nat.le_refl _) _).setCell (Nat.le_refl _) _).alloc (by simp; omega) _)⟩

    | some n =>
      rw [hpa] at ca
      simp only [piV] at ca
      have CA := hide ca
      clear ca
      have hn := parseI_in hpa
      cases hpb : parseI b with
      | none =>
        have HP : Hid (prE l (some n) none = (0, 0, false)) := rfl
        rw [hpb] at cb
        simp only [piV] at cb
        have CB := hide cb
        clear cb hpa hpb hn
        go_enter Tryd.func9, Tryd.ntmps9
        have N0 := hide (Box2.new (x := .int .i64 0) (y := .int .i64 0) w w.heap.size 23 rfl)
        have HB0 : Hid (Below w.heap.size w (w.alloc (.cells #[.int .i64 0, .int .i64 0] 23))) := (Below.refl _ _).alloc (Nat.le_refl _) _
        go_wp2_with fail
        refine (CU.out _ (HE.out.below HB0.out)).mono ?_; rintro e w1 ⟨rfl, k1, rfl⟩
        have N1 := hide (N0.out.call (below_drewN (Below.refl _ _) k1))
        have HB1 := hide (below_drewN HB0.out k1)
        clear N0 HB0
        go_wp2_with fail
        refine (CA.out _ (HE.out.below HB1.out)).mono ?_; rintro e w2 ⟨rfl, hb⟩
        have N2 := hide (N1.out.call hb)
        have HB2 := hide (kb_call HB1.out (Nat.le_refl _) hb)
        clear hb N1
        go_wp2_with fail
        refine (CB.out _ (HE.out.below HB2.out)).mono ?_; rintro e w3 ⟨rfl, hb⟩
        have N3 := hide (N2.out.call hb)
        have HB3 := hide (kb_call HB2.out (Nat.le_refl _) hb)
        have hlt3 := N3.out.lt
        clear hb N2
        have N4 := hide (N3.out.alloc (.cells #[.int .i64 n, .int .i64 0] 23))
        have HB4 := hide (HB3.out.alloc HB3.out.size (.cells #[.int .i64 n, .int .i64 0] 23))
        obtain ⟨⟨y0, y1⟩, u0, u1⟩ := N4.out
        obtain ⟨⟨z0, z1⟩, v0, v1⟩ := N3.out
        go_wp2_with fail
        obtain ⟨⟨m0, m1⟩, _⟩ := (N3.out.stored (.int .i64 0) (.int .i64 0)).alloc (.cells #[.int .i64 n, .int .i64 0] 23)
        exact bodyPost_ret (v := prV (0, 0, false)) (by simp [results, Tryd.results9, go_sem, m0, m1, prV]) rfl ⟨by rw [HP.out], (((HB3.out.setCell (Nat.le_refl _) _).setCell (Nat.le_refl _) _).alloc (by simp; omega) _)⟩

      | some d =>
        rw [hpb] at cb
        simp only [piV] at cb
        have CB := hide cb
        have hd := parseI_in hpb
        clear cb hpa hpb
        have CF := hide fun (w : World) hT => implFormatRatio n d hn.1 hn.2 hd.1 hd.2 w hT
        obtain ⟨t, ht⟩ : ∃ t, ratT n d = t := ⟨_, rfl⟩
        rw [ht] at CF
        rcases Bool.eq_false_or_eq_true (isRatio n d) with hr | hr
        · by_cases htl : t = l
          · have HP : Hid (prE l (some n) (some d) = (n, d, true)) := by rw [Hid, prE, if_pos ⟨hr, by rw [ht, htl]⟩]
            have HR := hide hr
            clear hr ht hn hd
            subst htl
            go_enter Tryd.func9, Tryd.ntmps9
            have N0 := hide (Box2.new (x := .int .i64 0) (y := .int .i64 0) w w.heap.size 23 rfl)
            have HB0 : Hid (Below w.heap.size w (w.alloc (.cells #[.int .i64 0, .int .i64 0] 23))) := (Below.refl _ _).alloc (Nat.le_refl _) _
            go_wp2_with fail
            refine (CU.out _ (HE.out.below HB0.out)).mono ?_; rintro e w1 ⟨rfl, k1, rfl⟩
            have N1 := hide (N0.out.call (below_drewN (Below.refl _ _) k1))
            have HB1 := hide (below_drewN HB0.out k1)
            clear N0 HB0
            go_wp2_with fail
            refine (CA.out _ (HE.out.below HB1.out)).mono ?_; rintro e w2 ⟨rfl, hb⟩
            have N2 := hide (N1.out.call hb)
            have HB2 := hide (kb_call HB1.out (Nat.le_refl _) hb)
            clear hb N1
            go_wp2_with fail
            refine (CB.out _ (HE.out.below HB2.out)).mono ?_; rintro e w3 ⟨rfl, hb⟩
            have N3 := hide (N2.out.call hb)
            have HB3 := hide (kb_call HB2.out (Nat.le_refl _) hb)
            have hlt3 := N3.out.lt
            clear hb N2
            have N4 := hide (N3.out.alloc (.cells #[.int .i64 n, .int .i64 d] 23))
            have HB4 := hide (HB3.out.alloc HB3.out.size (.cells #[.int .i64 n, .int .i64 d] 23))
            obtain ⟨⟨y0, y1⟩, u0, u1⟩ := N4.out
            go_wp2_with fail
            refine (implIsRatio n d _).mono ?_; rintro e w5 ⟨rfl, hb⟩
            have N5 := hide (N4.out.call hb)
            have HB5 := hide (kb_call HB4.out (Nat.le_refl _) hb)
            have X5 := hide ((Box2.new (x := .int .i64 n) (y := .int .i64 d) w3 w3.heap.size 23 rfl).call hb)
            clear hb N4 HB4 y0 y1 u0 u1
            obtain ⟨⟨y0, y1⟩, u0, u1⟩ := N5.out
            obtain ⟨⟨x0, x1⟩, _⟩ := X5.out
            rw [HR.out]
            go_wp2_with fail
            refine (CF.out _ (HE.out.1.below HB5.out)).mono ?_; rintro e w6 ⟨rfl, hb⟩
            have N6 := hide (N5.out.call hb)
            have HB6 := hide (kb_call HB5.out (Nat.le_refl _) hb)
            have X6 := hide (X5.out.call hb)
            clear hb N5 HB5 X5 y0 y1 u0 u1 x0 x1
            obtain ⟨⟨y0, y1⟩, u0, u1⟩ := N6.out
            obtain ⟨⟨x0, x1⟩, _⟩ := X6.out
            go_wp2_with fail
            have NL := N6
            have HBL := HB6
            obtain ⟨⟨m0, m1⟩, _⟩ := NL.out.stored (.int .i64 n) (.int .i64 d)
            exact bodyPost_ret (v := prV (n, d, true)) (by simp [results, Tryd.results9, go_sem, m0, m1, prV]) rfl ⟨by rw [HP.out], ((HBL.out.setCell (by dsimp only; omega) _).setCell (by dsimp only; omega) _)⟩

          · have HP : Hid (prE l (some n) (some d) = (0, 0, false)) := by rw [Hid, prE, if_neg (fun e => htl (by rw [← ht]; exact e.2))]
            have HR := hide hr
            have n2 : (t == l) = false := by simpa using htl
            have n3 : (t != l) = true := by simpa using htl
            clear hr ht hn hd htl
            go_enter Tryd.func9, Tryd.ntmps9
            have N0 := hide (Box2.new (x := .int .i64 0) (y := .int .i64 0) w w.heap.size 23 rfl)
            have HB0 : Hid (Below w.heap.size w (w.alloc (.cells #[.int .i64 0, .int .i64 0] 23))) := (Below.refl _ _).alloc (Nat.le_refl _) _
            go_wp2_with fail
            refine (CU.out _ (HE.out.below HB0.out)).mono ?_; rintro e w1 ⟨rfl, k1, rfl⟩
            have N1 := hide (N0.out.call (below_drewN (Below.refl _ _) k1))
            have HB1 := hide (below_drewN HB0.out k1)
            clear N0 HB0
            go_wp2_with fail
            refine (CA.out _ (HE.out.below HB1.out)).mono ?_; rintro e w2 ⟨rfl, hb⟩
            have N2 := hide (N1.out.call hb)
            have HB2 := hide (kb_call HB1.out (Nat.le_refl _) hb)
            clear hb N1
            go_wp2_with fail
            refine (CB.out _ (HE.out.below HB2.out)).mono ?_; rintro e w3 ⟨rfl, hb⟩
            have N3 := hide (N2.out.call hb)
            have HB3 := hide (kb_call HB2.out (Nat.le_refl _) hb)
            have hlt3 := N3.out.lt
            clear hb N2
            have N4 := hide (N3.out.alloc (.cells #[.int .i64 n, .int .i64 d] 23))
            have HB4 := hide (HB3.out.alloc HB3.out.size (.cells #[.int .i64 n, .int .i64 d] 23))
            obtain ⟨⟨y0, y1⟩, u0, u1⟩ := N4.out
            go_wp2_with fail
            refine (implIsRatio n d _).mono ?_; rintro e w5 ⟨rfl, hb⟩
            have N5 := hide (N4.out.call hb)
            have HB5 := hide (kb_call HB4.out (Nat.le_refl _) hb)
            have X5 := hide ((Box2.new (x := .int .i64 n) (y := .int .i64 d) w3 w3.heap.size 23 rfl).call hb)
            clear hb N4 HB4 y0 y1 u0 u1
            obtain ⟨⟨y0, y1⟩, u0, u1⟩ := N5.out
            obtain ⟨⟨x0, x1⟩, _⟩ := X5.out
            rw [HR.out]
            go_wp2_with fail
            refine (CF.out _ (HE.out.1.below HB5.out)).mono ?_; rintro e w6 ⟨rfl, hb⟩
            have N6 := hide (N5.out.call hb)
            have HB6 := hide (kb_call HB5.out (Nat.le_refl _) hb)
            have X6 := hide (X5.out.call hb)
            clear hb N5 HB5 X5 y0 y1 u0 u1 x0 x1
            obtain ⟨⟨y0, y1⟩, u0, u1⟩ := N6.out
            obtain ⟨⟨x0, x1⟩, _⟩ := X6.out
            go_wp2_with fail
            have NL := N6
            have HBL := HB6
            obtain ⟨⟨m0, m1⟩, _⟩ := NL.out.stored (.int .i64 0) (.int .i64 0)
            exact bodyPost_ret (v := prV (0, 0, false)) (by simp [results, Tryd.results9, go_sem, m0, m1, prV]) rfl ⟨by rw [HP.out], ((HBL.out.setCell (by dsimp only; omega) _).setCell (by dsimp only; omega) _)⟩

        · have HP : Hid (prE l (some n) (some d) = (0, 0, false)) := by rw [Hid, prE, if_neg (fun e => by rw [hr] at e; cases e.1)]
          have HR := hide hr
          clear hr ht hn hd
          go_enter Tryd.func9, Tryd.ntmps9
          have N0 := hide (Box2.new (x := .int .i64 0) (y := .int .i64 0) w w.heap.size 23 rfl)
          have HB0 : Hid (Below w.heap.size w (w.alloc (.cells #[.int .i64 0, .int .i64 0] 23))) := (Below.refl _ _).alloc (Nat.le_refl _) _
          go_wp2_with fail
          refine (CU.out _ (HE.out.below HB0.out)).mono ?_; rintro e w1 ⟨rfl, k1, rfl⟩
          have N1 := hide (N0.out.call (below_drewN (Below.refl _ _) k1))
          have HB1 := hide (below_drewN HB0.out k1)
          clear N0 HB0
          go_wp2_with fail
          refine (CA.out _ (HE.out.below HB1.out)).mono ?_; rintro e w2 ⟨rfl, hb⟩
          have N2 := hide (N1.out.call hb)
          have HB2 := hide (kb_call HB1.out (Nat.le_refl _) hb)
          clear hb N1
          go_wp2_with fail
          refine (CB.out _ (HE.out.below HB2.out)).mono ?_; rintro e w3 ⟨rfl, hb⟩
          have N3 := hide (N2.out.call hb)
          have HB3 := hide (kb_call HB2.out (Nat.le_refl _) hb)
          have hlt3 := N3.out.lt
          clear hb N2
          have N4 := hide (N3.out.alloc (.cells #[.int .i64 n, .int .i64 d] 23))
          have HB4 := hide (HB3.out.alloc HB3.out.size (.cells #[.int .i64 n, .int .i64 d] 23))
          obtain ⟨⟨y0, y1⟩, u0, u1⟩ := N4.out
          go_wp2_with fail
          refine (implIsRatio n d _).mono ?_; rintro e w5 ⟨rfl, hb⟩
          have N5 := hide (N4.out.call hb)
          have HB5 := hide (kb_call HB4.out (Nat.le_refl _) hb)
          have X5 := hide ((Box2.new (x := .int .i64 n) (y := .int .i64 d) w3 w3.heap.size 23 rfl).call hb)
          clear hb N4 HB4 y0 y1 u0 u1
          obtain ⟨⟨y0, y1⟩, u0, u1⟩ := N5.out
          obtain ⟨⟨x0, x1⟩, _⟩ := X5.out
          rw [HR.out]
          go_wp2_with fail
          have NL := N5
          have HBL := HB5
          obtain ⟨⟨m0, m1⟩, _⟩ := NL.out.stored (.int .i64 0) (.int .i64 0)
          exact bodyPost_ret (v := prV (0, 0, false)) (by simp [results, Tryd.results9, go_sem, m0, m1, prV]) rfl ⟨by rw [HP.out], ((HBL.out.setCell (by dsimp only; omega) _).setCell (by dsimp only; omega) _)⟩

end Go.Proofs.YtkaiekhmcjojoaaDoor
