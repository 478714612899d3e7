/- How an argument that is a slice of bytes is opened; the cursor of the draws. -/
import Derived.Test.YtkoopheikdbliaaNumW
import Derived.Lib.SmallJoins
import Derived.ProofKit
namespace Go.Proofs.Ytkoopheikdbliaa
set_option linter.unusedSimpArgs false
set_option linter.unusedVariables false
open Go.RowKit Go.Joins Go.ChangeShapes Go.WideShapes

/-- A slice value of n bytes with the address A can be read, below block B. -/
def SlB (w : World) (B : Nat) (A : Option Addr) (n : Nat) : Prop :=
  0 < n → ∃ g off, A = some ⟨g, off, none⟩ ∧ g < B ∧ ∀ i, i < n → ∃ x : Int, w.cell? ⟨g, off + i, none⟩ = some (.int .u8 x) ∧ 0 ≤ x ∧ x ≤ 255
theorem SlB.below {w w' : World} {B : Nat} {A : Option Addr} {n : Nat} (h : SlB w B A n) (hb : Below B w w') : SlB w' B A n := by
  intro hp
  obtain ⟨g, off, e, hg, hc⟩ := h hp
  refine ⟨g, off, e, hg, fun i hi => ?_⟩
  obtain ⟨x, hx, h0⟩ := hc i hi
  exact ⟨x, (hb.cell (p := ⟨g, off + i, none⟩) hg).trans hx, h0⟩
theorem SlB.mono {w : World} {B B' : Nat} {A : Option Addr} {n : Nat} (h : SlB w B A n) (hB : B ≤ B') : SlB w B' A n := by
  intro hp
  obtain ⟨g, off, e, hg, hc⟩ := h hp
  exact ⟨g, off, e, by omega, hc⟩
def SlBArg (w : World) (A : Option Addr) (n cap : Nat) (xs : List Int) : Prop := n = xs.length ∧ n ≤ maxLen ∧ SlB w w.heap.size A n
theorem open_SlB {H : Type} {enc : TypeId × Value → H} {P : Program} {w : World} {base : Nat} {spare : Nat → Bool} {held : Bool} {fuel : Nat} {t e : TypeId} {v : Value} {y : DataW H × List MemPlace}
    (hc : P.cellsOf e = 1) (ht : P.underlying t = some (.slice e)) (he : P.underlying e = some (.int .u8)) (h : DataW.trod enc P w base spare held fuel t [v] = some y) :
    ∃ A n cap xs, v = .slice A n cap ∧ SlBArg w A n cap xs := by
  rcases open_ints ht he hc h with ⟨hcs, _⟩ | ⟨a, len, cap, zs, hcs, _, hl, hm, hz, _, hcell, hwf⟩
  · simp only [List.cons.injEq, and_true] at hcs
    exact ⟨none, 0, 0, [], hcs, rfl, by simp, fun h => absurd h (by simp)⟩
  · simp only [List.cons.injEq, and_true] at hcs
    have hzl : len ≤ zs.length := by rw [hz]; split <;> omega
    refine ⟨some a, len, cap, zs.take len, hcs, by simp; omega, by omega, fun hp => ?_⟩
    have h0 := hcell 0 (by omega)
    obtain ⟨b, off, spot⟩ := a
    have hspot : spot = none := by simpa [Addr.add] using World.cell?_spot h0
    subst hspot
    have hadd : ∀ i, (⟨b, off, none⟩ : Addr).add i = ⟨b, off + i, none⟩ := fun i => by unfold Addr.add; split <;> simp_all
    refine ⟨b, off, rfl, ?_, fun i hi => ?_⟩
    · exact World.block_lt_of_cell? w _ (by rw [hadd] at h0; exact h0)
    · have h1 := hcell i (by omega)
      rw [hadd] at h1
      refine ⟨_, h1, ?_⟩
      have hw := hwf (zs.getD i 0) (by
        simp only [List.getD, List.getElem?_eq_getElem (show i < zs.length by omega), Option.getD_some]
        exact List.getElem_mem _)
      simp only [Lit.wf, Bool.and_eq_true, decide_eq_true_eq] at hw
      have m0 : IntKind.u8.min = 0 := rfl
      have m1 : IntKind.u8.max = 255 := rfl
      rw [m0, m1] at hw
      exact hw

/-- The draws' cursor at block p: its three cells, of which two may be written; the bytes lie below it. -/
def Cur (w : World) (p : Nat) : Prop :=
  ∃ A n cap i h, (w.cell? ⟨p, 0, none⟩ = some (.slice A n cap) ∧ w.cell? ⟨p, 1, none⟩ = some (.int .i64 (i : Nat)) ∧ w.cell? ⟨p, 2, none⟩ = some (.int .i64 h)) ∧
    (w.frozen? ⟨p, 1, none⟩ = false ∧ w.frozen? ⟨p, 2, none⟩ = false) ∧ i ≤ n ∧ n ≤ 1048576 ∧ (-9223372036854775808 ≤ h ∧ h ≤ 9223372036854775807) ∧ SlB w p A n
theorem Cur.lt {w : World} {p : Nat} (h : Cur w p) : p < w.heap.size := by
  obtain ⟨A, n, cap, i, x, ⟨h0, _, _⟩, _⟩ := h
  exact World.block_lt_of_cell? _ ⟨p, 0, none⟩ h0
theorem Cur.below {w w' : World} {p : Nat} (h : Cur w p) (hb : Below (p + 1) w w') : Cur w' p := by
  obtain ⟨A, n, cap, i, x, ⟨h0, h1, h2⟩, ⟨f1, f2⟩, hi, hn, hx, hs⟩ := h
  refine ⟨A, n, cap, i, x, ⟨?_, ?_, ?_⟩, ⟨?_, ?_⟩, hi, hn, hx, hs.below (hb.mono (by omega))⟩
  · exact (hb.cell (p := ⟨p, 0, none⟩) (by simp)).trans h0
  · exact (hb.cell (p := ⟨p, 1, none⟩) (by simp)).trans h1
  · exact (hb.cell (p := ⟨p, 2, none⟩) (by simp)).trans h2
  · exact (hb.frozen (p := ⟨p, 1, none⟩) (by simp)).trans f1
  · exact (hb.frozen (p := ⟨p, 2, none⟩) (by simp)).trans f2
theorem Cur.call {w w' : World} {p : Nat} (h : Cur w p) (hb : Below w.heap.size w w') : Cur w' p := h.below (hb.mono h.lt)
theorem Cur.alloc {w : World} {p : Nat} (h : Cur w p) (o : Obj) : Cur (w.alloc o) p := h.call ((Below.refl _ _).alloc (Nat.le_refl _) o)
theorem Cur.drew {w : World} {p : Nat} (h : Cur w p) : Cur w.drew p := h
theorem Cur.drewN {w : World} {p : Nat} (h : Cur w p) (n : Nat) : Cur (w.drewN n) p := h
theorem Cur.set {w : World} {p : Nat} (h : Cur w p) {a : Addr} (ha : p < a.block) (v : Value) : Cur (w.setCell a v) p := h.below ((Below.refl _ _).setCell ha v)
/-- What an inner draw keeps: all but the cursor. -/
def Kept (w w' : World) (p : Nat) : Prop := Cur w' p ∧ w.grownBy w' (some p)
theorem Kept.refl {w : World} {p : Nat} (h : Cur w p) : Kept w w p := ⟨h, World.grownBy.refl _ _⟩
theorem grown_of_below' {w w' : World} {row : Option Nat} (hb : Below w.heap.size w w') : w.grownBy w' row := ⟨hb.os, hb.tape, hb.output, hb.size, fun k hk _ => hb.block k hk⟩
theorem grown_trans {w w1 w2 : World} {row : Option Nat} (h1 : w.grownBy w1 row) (h2 : w1.grownBy w2 row) : w.grownBy w2 row :=
  ⟨h2.os.trans h1.os, h2.tape.trans h1.tape, h2.output.trans h1.output, Nat.le_trans h1.size h2.size, fun k hk hne => (h2.block k (Nat.lt_of_lt_of_le hk h1.size) hne).trans (h1.block k hk hne)⟩
theorem Kept.trans {w w1 w2 : World} {p : Nat} (h1 : Kept w w1 p) (h2 : Kept w1 w2 p) : Kept w w2 p := ⟨h2.1, grown_trans h1.2 h2.2⟩
theorem Kept.call {w w1 w2 : World} {p : Nat} (h : Kept w w1 p) (hb : Below w1.heap.size w1 w2) : Kept w w2 p := ⟨h.1.call hb, grown_trans h.2 (grown_of_below' hb)⟩
theorem Kept.below {B : Nat} {W w w' : World} {p : Nat} (h : Kept w w' p) (hB : Below B W w) (hp : B ≤ p) (hs : B ≤ w.heap.size) : Below B W w' := hB.grown h.2 hs (fun k hk => by cases hk; exact hp)
/-- The cursor's parts written out. -/
def CurAt (w : World) (p : Nat) (A : Option Addr) (n cap i : Nat) (h : Int) : Prop :=
  (w.cell? ⟨p, 0, none⟩ = some (.slice A n cap) ∧ w.cell? ⟨p, 1, none⟩ = some (.int .i64 (i : Nat)) ∧ w.cell? ⟨p, 2, none⟩ = some (.int .i64 h)) ∧
    (w.frozen? ⟨p, 1, none⟩ = false ∧ w.frozen? ⟨p, 2, none⟩ = false) ∧ i ≤ n ∧ n ≤ 1048576 ∧ (-9223372036854775808 ≤ h ∧ h ≤ 9223372036854775807) ∧ SlB w p A n
theorem Cur.at {w : World} {p : Nat} (h : Cur w p) : ∃ A n cap i x, CurAt w p A n cap i x := h
theorem CurAt.cur {w : World} {p : Nat} {A : Option Addr} {n cap i : Nat} {h : Int} (c : CurAt w p A n cap i h) : Cur w p := ⟨A, n, cap, i, h, c⟩
theorem grown_set (w : World) (p o : Nat) (v : Value) : w.grownBy (w.setCell ⟨p, o, none⟩ v) (some p) := ⟨rfl, rfl, rfl, by simp, fun k _ hk => Below.heap_setCell w ⟨p, o, none⟩ v k (fun e => hk (by rw [e]))⟩
theorem CurAt.set2 {w : World} {p : Nat} {A : Option Addr} {n cap i : Nat} {h h' : Int} (c : CurAt w p A n cap i h) (h0 : -9223372036854775808 ≤ h' ∧ h' ≤ 9223372036854775807) : CurAt (w.setCell ⟨p, 2, none⟩ (.int .i64 h')) p A n cap i h' := by
  obtain ⟨⟨c0, c1, c2⟩, ⟨f1, f2⟩, hi, hn, hx, hs⟩ := c
  refine ⟨⟨by go_simp, by go_simp, by go_simp⟩, ⟨by go_simp, by go_simp⟩, hi, hn, h0, hs.below ((Below.refl _ _).setCell (by simp) _)⟩
theorem CurAt.set1 {w : World} {p : Nat} {A : Option Addr} {n cap i i' : Nat} {h : Int} (c : CurAt w p A n cap i h) (h0 : i' ≤ n) : CurAt (w.setCell ⟨p, 1, none⟩ (.int .i64 (i' : Nat))) p A n cap i' h := by
  obtain ⟨⟨c0, c1, c2⟩, ⟨f1, f2⟩, hi, hn, hx, hs⟩ := c
  refine ⟨⟨by go_simp, by go_simp, by go_simp⟩, ⟨by go_simp, by go_simp⟩, h0, hn, hx, hs.below ((Below.refl _ _).setCell (by simp) _)⟩
theorem w64_in (n : Int) : -9223372036854775808 ≤ wrap64 n ∧ wrap64 n ≤ 9223372036854775807 := by unfold wrap64; omega
theorem kept_one {w : World} {p : Nat} {A : Option Addr} {n cap i : Nat} {h h' : Int} (c : CurAt w p A n cap i h) (h0 : -9223372036854775808 ≤ h' ∧ h' ≤ 9223372036854775807) : Kept w (w.setCell ⟨p, 2, none⟩ (.int .i64 h')) p :=
  ⟨(c.set2 h0).cur, grown_set _ _ _ _⟩
theorem kept_two {w : World} {p : Nat} {A : Option Addr} {n cap i : Nat} {h h' x : Int} (c : CurAt w p A n cap i h) (h0 : -9223372036854775808 ≤ h' ∧ h' ≤ 9223372036854775807) (hi : i < n) (hx : x = (i : Int) + 1) : Kept w ((w.setCell ⟨p, 2, none⟩ (.int .i64 h')).setCell ⟨p, 1, none⟩ (.int .i64 x)) p := by
  have e : x = ((i + 1 : Nat) : Int) := by omega
  subst e
  exact ⟨((c.set2 h0).set1 (i' := i + 1) hi).cur, grown_trans (grown_set _ _ _ _) (grown_set _ _ _ _)⟩
theorem Kept.drewN {w w' : World} {p : Nat} (h : Kept w w' p) (n : Nat) : Kept w (w'.drewN n) p := ⟨h.1, ⟨h.2.os, h.2.tape, h.2.output, h.2.size, h.2.block⟩⟩
theorem kept_two' {w : World} {p : Nat} {A : Option Addr} {n cap i : Nat} {h h' x : Int} (m : Nat) (c : CurAt w p A n cap i h) (h0 : -9223372036854775808 ≤ h' ∧ h' ≤ 9223372036854775807) (hi : i < n) (hx : x = (i : Int) + 1) : Kept w (((w.setCell ⟨p, 2, none⟩ (.int .i64 h')).drewN m).setCell ⟨p, 1, none⟩ (.int .i64 x)) p :=
  (kept_two c h0 hi hx).drewN m
/-- A box of two cells, which may be written. -/
def Box2 (w : World) (b : Nat) (x y : Value) : Prop := (w.cell? ⟨b, 0, none⟩ = some x ∧ w.cell? ⟨b, 1, none⟩ = some y) ∧ w.frozen? ⟨b, 0, none⟩ = false ∧ w.frozen? ⟨b, 1, none⟩ = false
namespace Box2
variable {w w' : World} {b : Nat} {x y : Value}
theorem lt (h : Box2 w b x y) : b < w.heap.size := World.block_lt_of_cell? _ ⟨b, 0, none⟩ h.1.1
theorem of_block (h : Box2 w b x y) (e : w'.heap[b]? = w.heap[b]?) : Box2 w' b x y := by
  obtain ⟨⟨h0, h1⟩, f0, f1⟩ := h
  have hf : ∀ o, w'.frozen? ⟨b, o, none⟩ = w.frozen? ⟨b, o, none⟩ := fun o => World.frozen?_of_block e
  have hc : ∀ o, w'.cell? ⟨b, o, none⟩ = w.cell? ⟨b, o, none⟩ := fun o => World.cell?_of_block e
  exact ⟨⟨(hc 0).trans h0, (hc 1).trans h1⟩, (hf 0).trans f0, (hf 1).trans f1⟩
theorem call (h : Box2 w b x y) (hb : Below w.heap.size w w') : Box2 w' b x y := h.of_block (hb.block b h.lt)
theorem grown {g : Option Nat} (h : Box2 w b x y) (hg : w.grownBy w' g) (hne : some b ≠ g) : Box2 w' b x y := h.of_block (hg.block b h.lt hne)
theorem kept {p : Nat} (h : Box2 w b x y) (hk : Kept w w' p) (hne : b ≠ p) : Box2 w' b x y := h.grown hk.2 (by simpa using hne)
theorem alloc (h : Box2 w b x y) (o : Obj) : Box2 (w.alloc o) b x y := h.of_block (Below.heap_alloc w o b h.lt)
theorem set {p : Addr} (h : Box2 w b x y) (hp : p.block ≠ b) (u : Value) : Box2 (w.setCell p u) b x y := h.of_block (Below.heap_setCell w p u b (fun e => hp e.symm))
theorem new (w : World) (n : Nat) (t : TypeId) (hn : n = w.heap.size) : Box2 (w.alloc (.cells #[x, y] t)) n x y := by
  subst hn
  refine ⟨⟨?_, ?_⟩, ?_, ?_⟩ <;> go_simp
theorem stored (h : Box2 w b x y) (x' y' : Value) : Box2 ((w.setCell ⟨b, 0, none⟩ x').setCell ⟨b, 1, none⟩ y') b x' y' := by
  obtain ⟨⟨h0, h1⟩, f0, f1⟩ := h
  refine ⟨⟨?_, ?_⟩, ?_, ?_⟩ <;> go_simp
end Box2
/-- A number that an inner draw gives. -/
def DrawI (w : World) (p : Nat) (lo hi : Int) (e : Ending) (w' : World) : Prop := (∃ x : Int, e = .returned (.int .i64 x) ∧ lo ≤ x ∧ x ≤ hi) ∧ Kept w w' p
def DrawB (w : World) (p : Nat) (e : Ending) (w' : World) : Prop := (∃ b : Bool, e = .returned (.bool b)) ∧ Kept w w' p
/-- 'x & m' is from 0 to m. -/
theorem and_in (x m : Int) (h0 : 0 ≤ m) (h1 : m ≤ 4611686018427387904) : 0 ≤ bits BinOp.and IntKind.i64 x m ∧ bits BinOp.and IntKind.i64 x m ≤ m := by
  have h2 : ((BitVec.ofInt 64 x &&& BitVec.ofInt 64 m).toNat : Int) ≤ m := by
    have e1 : (BitVec.ofInt 64 m).toNat = m.toNat := by
      rw [BitVec.toNat_ofInt]
      omega
    rw [BitVec.toNat_and, e1]
    have := @Nat.and_le_right (BitVec.ofInt 64 x).toNat m.toNat
    omega
  have h3 : bits BinOp.and IntKind.i64 x m = IntKind.i64.wrap ((BitVec.ofInt 64 x &&& BitVec.ofInt 64 m).toNat : Int) := rfl
  rw [h3, IntWalk.i64_in _ (by omega)]
  omega
end Go.Proofs.Ytkoopheikdbliaa
