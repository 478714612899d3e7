/- The walks of ExtendedGcd. -/
import Derived.Test.YtkoopheikdbliaaNumW
import Derived.Test.YtkoopheikdbliaaEg
import Derived.IntWalk
import Derived.RegionTactic
import Derived.BigRegion
import Derived.ChangeAlike
import Derived.Deep.LoopGhost
namespace Go.Proofs.Ytkoopheikdbliaa
open Go.RowKit
set_option linter.unusedSimpArgs false
set_option linter.unusedVariables false

theorem ret_egs {g x y g' x' y' : Int} {k k' : Bool} (h : (g, x, y) = (g', x', y')) (hk : k = k') : Ending.returned (.tuple #[.int .i64 g, .int .i64 x, .int .i64 y, .bool k]) = .returned (.tuple #[.int .i64 g', .int .i64 x', .int .i64 y', .bool k']) := by
  simp only [Prod.mk.injEq] at h
  obtain ⟨rfl, rfl, rfl⟩ := h
  rw [hk]
def egV (a b : Int) : Value := .tuple #[.int .i64 (egRes a b).1, .int .i64 (egRes a b).2.1, .int .i64 (egRes a b).2.2, .bool (egIn a b)]
theorem ret_eg {a b g x y : Int} {k : Bool} (h : egRes a b = (g, x, y)) (hk : egIn a b = k) : Ending.returned (.tuple #[.int .i64 g, .int .i64 x, .int .i64 y, .bool k]) = .returned (egV a b) := by
  rw [egV, h, hk]
theorem egRes_pos {a b g x y : Int} (hi : egIn a b = true) (h : egAll a b = (g, x, y)) (hg : ¬ g < 0) : egRes a b = (g, x, y) := by
  rw [egRes, if_pos hi, h, egFin, if_neg hg]
theorem egRes_neg {a b g x y : Int} (hi : egIn a b = true) (h : egAll a b = (g, x, y)) (hg : g < 0) : egRes a b = (-g, wrap64 (-x), wrap64 (-y)) := by
  rw [egRes, if_pos hi, h, egFin, if_pos hg]
theorem egRes_no {a b : Int} (hi : egIn a b = false) : egRes a b = (0, 0, 0) := by rw [egRes, if_neg (by simp [hi])]
/-- What a round wants to know. -/
theorem eg_facts {g h : Int} (hg : -400000000 ≤ g ∧ g ≤ 400000000) (hh : -400000000 ≤ h ∧ h ≤ 400000000) (h0 : h ≠ 0) :
    (-400000000 ≤ g.tdiv h ∧ g.tdiv h ≤ 400000000) ∧ (-400000000 ≤ g.tdiv h * h ∧ g.tdiv h * h ≤ 400000000) ∧ (g - g.tdiv h * h = g.tmod h) ∧ (-400000000 ≤ g.tmod h ∧ g.tmod h ≤ 400000000) ∧ (g.tmod h).natAbs < h.natAbs := by
  have h1 := Int.natAbs_tdiv_le_natAbs g h
  have h2 := tdiv_mul_in g h
  have h3 := Int.mul_tdiv_add_tmod g h
  have h4 := tmod_lt g h h0
  rw [Int.mul_comm] at h3
  omega
set_option maxHeartbeats 2000000 in
theorem specEgcd (a b : Int) (w : World) :
    Calls Try.prog 20 #[.int .i64 a, .int .i64 b] w fun e w' => e = .returned (egV a b) ∧ w = w' := by
  rcases Bool.eq_false_or_eq_true (isNum a) with ha | ha
  · rcases Bool.eq_false_or_eq_true (isNum b) with hb | hb
    · have hi : egIn a b = true := by simp [egIn, ha, hb]
      have h1 := isNum_t ha
      have h2 := isNum_t hb
      have HI := hide hi; clear hi
      go_enter Try.func20, Try.ntmps20
      go_wp2_with (go_at_call 35; refine (specIsNumber _ _).mono ?_; rintro e w' ⟨rfl, rfl⟩)
      go_loop [8, 9, 10, 11, 12, 13] (fun gv xv yv hv uv vv => ∃ (f : Nat) (g x y h u v : Int), gv = .int .i64 g ∧ xv = .int .i64 x ∧ yv = .int .i64 y ∧ hv = .int .i64 h ∧ uv = .int .i64 u ∧ vv = .int .i64 v ∧ (-400000000 ≤ g ∧ g ≤ 400000000) ∧ (-400000000 ≤ h ∧ h ≤ 400000000) ∧ h.natAbs ≤ f ∧ Hid (eg f g x y h u v = egAll a b)) (fun _ _ _ h _ _ => (intOf h).natAbs)
      case atStart => exact ⟨b.natAbs, a, 1, 0, b, 0, 1, rfl, rfl, rfl, rfl, rfl, rfl, h1, h2, Nat.le_refl _, rfl⟩
      case round =>
        obtain ⟨f, g, x, y, h, u, v, rfl, rfl, rfl, rfl, rfl, rfl, hg, hh, hf, he⟩ := hrel
        by_cases h0 : h = 0
        · subst h0
          have HE : Hid (egAll a b = (g, x, y)) := by have := he.out; rw [eg_zero] at this; exact this.symm
          clear he
          by_cases hn : g < 0
          · go_wp2
            go_returns
            exact ⟨ret_eg (egRes_neg HI.out HE.out hn) HI.out, rfl⟩
          · go_wp2
            go_returns
            exact ⟨ret_eg (egRes_pos HI.out HE.out (by omega)) HI.out, rfl⟩
        · obtain ⟨⟨f0, f1⟩, ⟨f2, f3⟩, f4, f5, f6⟩ := eg_facts hg hh h0
          have z1 : (h == 0) = false := by simpa using h0
          have z2 : (h != 0) = true := by simpa using h0
          obtain ⟨f', rfl⟩ : ∃ f', f = f' + 1 := ⟨f - 1, by omega⟩
          have HE := hide (he.out.symm.trans (eg_step f' g x y h u v h0))
          have HF := hide f4
          have HM := hide f6
          clear he f4 f6
          go_wp2
          go_round
          case rel => exact ⟨f', h, u, v, g.tmod h, _, _, rfl, rfl, rfl, by rw [HF.out], rfl, rfl, hh, f5, by have := HM.out; omega, HE.out.symm⟩
          case measure => have := HM.out; have h7 := HF.out; simp only [intOf]; omega
    · have hi : egIn a b = false := by simp [egIn, hb]
      go_enter Try.func20, Try.ntmps20
      go_wp2_with (go_at_call 35; refine (specIsNumber _ _).mono ?_; rintro e w' ⟨rfl, rfl⟩)
      go_returns
      exact ⟨ret_eg (egRes_no hi) hi, rfl⟩
  · have hi : egIn a b = false := by simp [egIn, ha]
    go_enter Try.func20, Try.ntmps20
    go_wp2_with (go_at_call 35; refine (specIsNumber _ _).mono ?_; rintro e w' ⟨rfl, rfl⟩)
    go_returns
    exact ⟨ret_eg (egRes_no hi) hi, rfl⟩
/-- A block of three whole numbers that may be written. -/
def Arr3 (w : World) (b : Nat) (x y z : Int) : Prop :=
  (w.cell? ⟨b, 0, none⟩ = some (.int .i64 x) ∧ w.cell? ⟨b, 1, none⟩ = some (.int .i64 y) ∧ w.cell? ⟨b, 2, none⟩ = some (.int .i64 z)) ∧ w.frozen? ⟨b, 0, none⟩ = false ∧ w.frozen? ⟨b, 1, none⟩ = false ∧ w.frozen? ⟨b, 2, none⟩ = false
namespace Arr3
variable {w w' : World} {b : Nat} {x y z : Int}
theorem lt (h : Arr3 w b x y z) : b < w.heap.size := World.block_lt_of_cell? _ ⟨b, 0, none⟩ h.1.1
theorem of_block (h : Arr3 w b x y z) (e : w'.heap[b]? = w.heap[b]?) : Arr3 w' b x y z := by
  obtain ⟨⟨h0, h1, h2⟩, f0, f1, f2⟩ := h
  have hf : ∀ o, w'.frozen? ⟨b, o, none⟩ = w.frozen? ⟨b, o, none⟩ := fun o => World.frozen?_of_block e
  have hc : ∀ o, w'.cell? ⟨b, o, none⟩ = w.cell? ⟨b, o, none⟩ := fun o => World.cell?_of_block e
  exact ⟨⟨(hc 0).trans h0, (hc 1).trans h1, (hc 2).trans h2⟩, (hf 0).trans f0, (hf 1).trans f1, (hf 2).trans f2⟩
theorem alloc (h : Arr3 w b x y z) (o : Obj) : Arr3 (w.alloc o) b x y z := h.of_block (Below.heap_alloc w o b h.lt)
theorem drew (h : Arr3 w b x y z) : Arr3 w.drew b x y z := h
theorem drewN (h : Arr3 w b x y z) (n : Nat) : Arr3 (w.drewN n) b x y z := h
theorem set {p : Addr} (h : Arr3 w b x y z) (hp : p.block ≠ b) (u : Value) : Arr3 (w.setCell p u) b x y z := h.of_block (Below.heap_setCell w p u b (fun e => hp e.symm))
theorem new (w : World) (n : Nat) (t : TypeId) (hn : n = w.heap.size) : Arr3 (w.alloc (.cells #[.int .i64 x, .int .i64 y, .int .i64 z] t)) n x y z := by
  subst hn
  refine ⟨⟨?_, ?_, ?_⟩, ?_, ?_, ?_⟩ <;> go_simp
theorem set0 (h : Arr3 w b x y z) (v : Int) : Arr3 (w.setCell ⟨b, 0, none⟩ (.int .i64 v)) b v y z := by
  obtain ⟨⟨h0, h1, h2⟩, f0, f1, f2⟩ := h
  refine ⟨⟨?_, ?_, ?_⟩, ?_, ?_, ?_⟩ <;> go_simp
theorem set1 (h : Arr3 w b x y z) (v : Int) : Arr3 (w.setCell ⟨b, 1, none⟩ (.int .i64 v)) b x v z := by
  obtain ⟨⟨h0, h1, h2⟩, f0, f1, f2⟩ := h
  refine ⟨⟨?_, ?_, ?_⟩, ?_, ?_, ?_⟩ <;> go_simp
theorem set2 (h : Arr3 w b x y z) (v : Int) : Arr3 (w.setCell ⟨b, 2, none⟩ (.int .i64 v)) b x y v := by
  obtain ⟨⟨h0, h1, h2⟩, f0, f1, f2⟩ := h
  refine ⟨⟨?_, ?_, ?_⟩, ?_, ?_, ?_⟩ <;> go_simp
end Arr3
theorem arr_copy {w w0 : World} {a b B : Nat} {x y z x' y' z' : Int} (hA : Arr3 w a x y z) (hB : Arr3 w b x' y' z') (hw : Below B w0 w) (hab : a ≠ b) (ha : B ≤ a) (hb : B ≤ b) (h u v X Y Z : Int) :
    Arr3 ((((((w.setCell ⟨a, 0, none⟩ (.int .i64 h)).setCell ⟨a, 1, none⟩ (.int .i64 u)).setCell ⟨a, 2, none⟩ (.int .i64 v)).setCell ⟨b, 0, none⟩ (.int .i64 X)).setCell ⟨b, 1, none⟩ (.int .i64 Y)).setCell ⟨b, 2, none⟩ (.int .i64 Z)).drew a h u v ∧
    Arr3 ((((((w.setCell ⟨a, 0, none⟩ (.int .i64 h)).setCell ⟨a, 1, none⟩ (.int .i64 u)).setCell ⟨a, 2, none⟩ (.int .i64 v)).setCell ⟨b, 0, none⟩ (.int .i64 X)).setCell ⟨b, 1, none⟩ (.int .i64 Y)).setCell ⟨b, 2, none⟩ (.int .i64 Z)).drew b X Y Z ∧
    Below B w0 ((((((w.setCell ⟨a, 0, none⟩ (.int .i64 h)).setCell ⟨a, 1, none⟩ (.int .i64 u)).setCell ⟨a, 2, none⟩ (.int .i64 v)).setCell ⟨b, 0, none⟩ (.int .i64 X)).setCell ⟨b, 1, none⟩ (.int .i64 Y)).setCell ⟨b, 2, none⟩ (.int .i64 Z)).drew := by
  refine ⟨?_, ?_, ?_⟩
  · exact ((((((hA.set0 h).set1 u).set2 v).set (p := ⟨b, 0, none⟩) (fun e => hab e.symm) _).set (p := ⟨b, 1, none⟩) (fun e => hab e.symm) _).set (p := ⟨b, 2, none⟩) (fun e => hab e.symm) _).drew
  · exact ((((((hB.set (p := ⟨a, 0, none⟩) hab _).set (p := ⟨a, 1, none⟩) hab _).set (p := ⟨a, 2, none⟩) hab _).set0 X).set1 Y).set2 Z).drew
  · exact ((((((hw.setCell (p := ⟨a, 0, none⟩) ha _).setCell (p := ⟨a, 1, none⟩) ha _).setCell (p := ⟨a, 2, none⟩) ha _).setCell (p := ⟨b, 0, none⟩) hb _).setCell (p := ⟨b, 1, none⟩) hb _).setCell (p := ⟨b, 2, none⟩) hb _).drew
/-- How far an inner loop over three cells has come. -/
def Step3 (iv : Value) (w : World) (b : Nat) (x y z X Y Z : Int) : Prop :=
  (iv = .int .i64 0 ∧ Arr3 w b x y z) ∨ (iv = .int .i64 1 ∧ Arr3 w b X y z) ∨ (iv = .int .i64 2 ∧ Arr3 w b X Y z) ∨ (iv = .int .i64 3 ∧ Arr3 w b X Y Z)
set_option maxHeartbeats 4000000 in
theorem implEgcd (a b : Int) (w : World) :
    Calls Try.prog 19 #[.int .i64 a, .int .i64 b] w fun e w' => e = .returned (egV a b) ∧ Below w.heap.size w w' := by
  rcases Bool.eq_false_or_eq_true (isNum a) with ha | ha
  · rcases Bool.eq_false_or_eq_true (isNum b) with hb | hb
    · have hi : egIn a b = true := by simp [egIn, ha, hb]
      have h1 := isNum_t ha
      have h2 := isNum_t hb
      have HI := hide hi; clear hi
      go_enter Try.func19, Try.ntmps19
      go_wp2_with (go_at_call 34; refine (implIsNumber _ _).mono ?_; rintro e w' ⟨rfl, rfl⟩)
      go_loopg [10] b.natAbs (fun k qv wr => ∃ (g x y h u v : Int), Arr3 wr w.heap.size g x y ∧ Arr3 wr (w.heap.size + 1) h u v ∧ Below w.heap.size w wr ∧ (-400000000 ≤ g ∧ g ≤ 400000000) ∧ (-400000000 ≤ h ∧ h ≤ 400000000) ∧ h.natAbs ≤ k ∧ Hid (eg k g x y h u v = egAll a b))
      case atStart => exact ⟨a, 1, 0, b, 0, 1, ⟨⟨by go_simp, by go_simp, by go_simp⟩, by go_simp, by go_simp, by go_simp⟩, ⟨⟨by go_simp, by go_simp, by go_simp⟩, by go_simp, by go_simp, by go_simp⟩, (by repeat' (first | exact Below.refl _ _ | (refine Below.alloc ?_ ?_ _) | (refine Below.setCell ?_ ?_ _) | (refine Below.drew ?_) | (refine below_drewN ?_ _) | (refine Below.trans ?_ (Below.mono (by assumption) ?_)) | omega | (simp only [World.size_alloc, World.size_setCell, World.size_drew, size_drewN]; omega))), h1, h2, Nat.le_refl _, rfl⟩
      case round =>
        obtain ⟨g, x, y, h, u, v, ha, hb, hB, hg, hh, hf, he⟩ := hrel
        obtain ⟨wo, rfl⟩ : ∃ wo : World, wo = wr := ⟨_, rfl⟩
        obtain ⟨⟨a0, a1, a2⟩, p0, p1, p2⟩ := ha
        obtain ⟨⟨b0, b1, b2⟩, q0, q1, q2⟩ := hb
        by_cases h0 : h = 0
        · subst h0
          have HE : Hid (egAll a b = (g, x, y)) := by have := he.out; rw [eg_zero] at this; exact this.symm
          clear he
          have ha3 : Arr3 wo w.heap.size g x y := ⟨⟨a0, a1, a2⟩, p0, p1, p2⟩
          by_cases hn : g < 0
          · obtain ⟨X, hX⟩ : ∃ X, wrap64 (-x) = X := ⟨_, rfl⟩
            obtain ⟨Y, hY⟩ : ∃ Y, wrap64 (-y) = Y := ⟨_, rfl⟩
            have HR : Hid (egRes a b = (-g, X, Y)) := by rw [← hX, ← hY]; exact egRes_neg HI.out HE.out hn
            have HA3 := hide ha3
            have kx : IntKind.i64.wrap (-x) = X := by rw [← hX]; exact IntWalk.i64_left _
            have ky : IntKind.i64.wrap (-y) = Y := by rw [← hY]; exact IntWalk.i64_left _
            clear hX hY ha3
            go_wp2
            go_loopw [55] (fun iv w2 => Step3 iv w2 w.heap.size g x y (-g) X Y ∧ Below w.heap.size w w2) (fun iv _ => 3 - (intOf iv).toNat)
            case atStart => exact ⟨.inl ⟨rfl, HA3.out⟩, hB⟩
            case round =>
              clear a0 a1 a2 p0 p1 p2 b0 b1 b2 q0 q1 q2 HA3 hB
              obtain ⟨hs, hB⟩ := hrel
              obtain ⟨w5, rfl⟩ : ∃ w5 : World, w5 = wr := ⟨_, rfl⟩
              rcases hs with ⟨rfl, hA⟩ | ⟨rfl, hA⟩ | ⟨rfl, hA⟩ | ⟨rfl, hA⟩
              · have HA := hide hA
                obtain ⟨⟨a0, a1, a2⟩, p0, p1, p2⟩ := hA
                go_wp2
                go_roundw
                case rel => exact ⟨.inr (.inl ⟨rfl, HA.out.set0 _⟩), hB.setCell (by dsimp only; omega) _⟩
                case measure => simp [intOf]
              · have HA := hide hA
                obtain ⟨⟨a0, a1, a2⟩, p0, p1, p2⟩ := hA
                go_wp2
                go_roundw
                case rel => exact ⟨.inr (.inr (.inl ⟨rfl, HA.out.set1 _⟩)), hB.setCell (by dsimp only; omega) _⟩
                case measure => simp [intOf]
              · have HA := hide hA
                obtain ⟨⟨a0, a1, a2⟩, p0, p1, p2⟩ := hA
                go_wp2
                go_roundw
                case rel => exact ⟨.inr (.inr (.inr ⟨rfl, HA.out.set2 _⟩)), hB.setCell (by dsimp only; omega) _⟩
                case measure => simp [intOf]
              · obtain ⟨⟨a0, a1, a2⟩, p0, p1, p2⟩ := hA
                go_wp2
                go_quiet (fail)
                go_wp2
                go_returns
                exact ⟨ret_eg HR.out HI.out, below_drewN hB _⟩
          · have hn' : decide (g < 0) = false := decide_eq_false hn
            go_wp2
            go_quiet (fail)
            go_wp2
            go_returns
            exact ⟨ret_eg (egRes_pos HI.out HE.out (by omega)) HI.out, below_drewN hB _⟩
        · obtain ⟨⟨f0, f1⟩, ⟨f2, f3⟩, f4, f5, f6⟩ := eg_facts hg hh h0
          have z1 : (h == 0) = false := by simpa using h0
          have z2 : (h != 0) = true := by simpa using h0
          obtain ⟨f', rfl⟩ : ∃ f', gk = f' + 1 := ⟨gk - 1, by omega⟩
          have HE := hide (he.out.symm.trans (eg_step f' g x y h u v h0))
          have HF := hide f4
          have HM := hide f6
          clear he f4 f6
          have ha3 : Hid (Arr3 wo w.heap.size g x y) := ⟨⟨a0, a1, a2⟩, p0, p1, p2⟩
          have hb3 : Hid (Arr3 wo (w.heap.size + 1) h u v) := ⟨⟨b0, b1, b2⟩, q0, q1, q2⟩
          obtain ⟨X, hX⟩ : ∃ X, wrap64 (x - wrap64 (g.tdiv h * u)) = X := ⟨_, rfl⟩
          obtain ⟨Y, hY⟩ : ∃ Y, wrap64 (y - wrap64 (g.tdiv h * v)) = Y := ⟨_, rfl⟩
          obtain ⟨q, hq⟩ : ∃ q, g.tdiv h = q := ⟨_, rfl⟩
          rw [hX, hY] at HE
          have HQ := hide hq
          rw [hq] at hX hY f0 f1 f2 f3 HF
          have kq : IntKind.i64.wrap (g.tdiv h) = q := by rw [hq]; exact IntWalk.i64_in _ (by omega)
          have HX := hide hX
          have HY := hide hY
          have k1 : IntKind.i64.wrap (q * h) = q * h := IntWalk.i64_in _ (by omega)
          have k2 : IntKind.i64.wrap (g - q * h) = g - q * h := IntWalk.i64_in _ (by have := HF.out; omega)
          have HB := hide hB
          clear hX hY hq hB
          go_wp2
          go_loopw [35] (fun iv w2 => Step3 iv w2 wo.heap.size 0 0 0 (g - q * h) X Y ∧ Arr3 w2 w.heap.size g x y ∧ Arr3 w2 (w.heap.size + 1) h u v ∧ Below w.heap.size w w2) (fun iv _ => 3 - (intOf iv).toNat)
          case atStart => exact ⟨.inl ⟨rfl, Arr3.new _ _ _ rfl⟩, ha3.out.alloc _, hb3.out.alloc _, HB.out.alloc HB.out.size _⟩
          case round =>
            have hz := hb3.out.lt
            clear a0 a1 a2 p0 p1 p2 b0 b1 b2 q0 q1 q2 ha3 hb3 HB
            obtain ⟨hs, ha3, hb3, hB⟩ := hrel
            obtain ⟨w5, rfl⟩ : ∃ w5 : World, w5 = wr := ⟨_, rfl⟩
            have HA3 := hide ha3
            have HB3 := hide hb3
            have HB := hide hB
            obtain ⟨⟨a0, a1, a2⟩, p0, p1, p2⟩ := ha3
            obtain ⟨⟨b0, b1, b2⟩, q0, q1, q2⟩ := hb3
            clear hB
            rcases hs with ⟨rfl, hA⟩ | ⟨rfl, hA⟩ | ⟨rfl, hA⟩ | ⟨rfl, hA⟩
            · have HA := hide hA
              obtain ⟨⟨c0, c1, c2⟩, r0, r1, r2⟩ := hA
              go_wp2
              go_region
              go_wp2
              go_roundw
              case rel => exact ⟨.inr (.inl ⟨rfl, HA.out.set0 _⟩), HA3.out.set (by dsimp only; omega) _, HB3.out.set (by dsimp only; omega) _, (HB.out.setCell (by dsimp only; omega) _).drew⟩
              case measure => simp [intOf]
            · have HA := hide hA
              obtain ⟨⟨c0, c1, c2⟩, r0, r1, r2⟩ := hA
              go_wp2
              go_region
              go_wp2
              go_roundw
              case rel => exact ⟨.inr (.inr (.inl ⟨rfl, by rw [← HX.out]; exact HA.out.set1 _⟩)), HA3.out.set (by dsimp only; omega) _, HB3.out.set (by dsimp only; omega) _, (HB.out.setCell (by dsimp only; omega) _).drew⟩
              case measure => simp [intOf]
            · have HA := hide hA
              obtain ⟨⟨c0, c1, c2⟩, r0, r1, r2⟩ := hA
              go_wp2
              go_region
              go_wp2
              go_roundw
              case rel => exact ⟨.inr (.inr (.inr ⟨rfl, by rw [← HY.out]; exact HA.out.set2 _⟩)), HA3.out.set (by dsimp only; omega) _, HB3.out.set (by dsimp only; omega) _, (HB.out.setCell (by dsimp only; omega) _).drew⟩
              case measure => simp [intOf]
            · have HA := hide hA
              obtain ⟨⟨c0, c1, c2⟩, r0, r1, r2⟩ := hA
              go_wp2
              go_region
              go_wp2
              go_roundg f'
              case measure => omega
              case rel =>
                have hm := HM.out
                have hf0 := HF.out
                obtain ⟨e1, e2, e3⟩ := arr_copy HA3.out HB3.out HB.out (by omega) (by omega) (by omega) h u v (g - q * h) X Y
                exact ⟨h, u, v, g - q * h, X, Y, e1, e2, e3, hh, by omega, by rw [hf0]; omega, by rw [hf0]; exact HE.out.symm⟩
    · have hi : egIn a b = false := by simp [egIn, hb]
      go_enter Try.func19, Try.ntmps19
      go_wp2_with (go_at_call 34; refine (implIsNumber _ _).mono ?_; rintro e w' ⟨rfl, rfl⟩)
      go_returns
      exact ⟨ret_eg (egRes_no hi) hi, Below.refl _ _⟩
  · have hi : egIn a b = false := by simp [egIn, ha]
    go_enter Try.func19, Try.ntmps19
    go_wp2_with (go_at_call 34; refine (implIsNumber _ _).mono ?_; rintro e w' ⟨rfl, rfl⟩)
    go_returns
    exact ⟨ret_eg (egRes_no hi) hi, Below.refl _ _⟩
end Go.Proofs.Ytkoopheikdbliaa
