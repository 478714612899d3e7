/- FnExactUndoRowOps: the law's walk. -/
import Derived.Test.YthbmmoajfghjbaaUndoW
namespace Go.Proofs.Ythbmmoajfghjbaa
open Go.RowKit
set_option linter.unusedSimpArgs false
set_option linter.unusedVariables false
theorem eqX_own (s t : Value) (lo lo' n : Nat) (cs : List Int) (w : World) (h : OwnX w lo s n cs) (h' : OwnX w lo' t n cs) (hn : n ≤ 1048576) :
    Calls Try.prog 11 #[s, t] w fun e w' => e = .returned (.bool true) ∧ Below w.heap.size w w' := by
  obtain ⟨A, p, rfl, hA⟩ := OwnX.sl h
  obtain ⟨B, q, rfl, hB⟩ := OwnX.sl h'
  exact eqRowOpS_same A B p q n cs w hA hB hn
theorem keepX {w w' : World} {s t : Value} {lo hi lo' hi' n : Nat} {cs : List Int} (hg : w.grownBy w' s.ownBlock) (hl : ∀ k, s.ownBlock = some k → lo ≤ k ∧ k < hi) (h : OwnX w lo' t n cs) (ht : ∀ k, t.ownBlock = some k → lo' ≤ k ∧ k < hi') (hd : hi' ≤ lo ∨ hi ≤ lo') : OwnX w' lo' t n cs := by
  refine OwnX.keep h hg ?_
  cases e : t.ownBlock with
  | none => exact .inl rfl
  | some k =>
    refine .inr fun e2 => ?_
    have h1 := ht k e
    have h2 := hl k e2.symm
    omega
set_option maxHeartbeats 4000000 in
theorem walkFnExactUndoRowOps (A : Option Addr) (n cap : Nat) (cs : List Int) (w : World) (hs : SlXArg w A n cap cs) :
    Calls Try.prog 3 #[.slice A n cap] w fun e w' => e = .returned (.bool true) ∧ Below w.heap.size w w' := by
  obtain ⟨hl, hm, hA⟩ := hs
  unfold maxLen at hm
  have HA := hide hA
  have HL := hide hl
  clear hA hl
  by_cases hn : n ≤ 1048576
  · have CT := hide fun (w' : World) (hb : Below w.heap.size w w') => toRowOpS A cap n cs w' (HA.out.below hb) HL.out hn
    have CS := hide fun (w' : World) (B : Option Addr) (c : Nat) (lo : Nat) (h : OwnX w' lo (.slice B n c) n cs) => specUndo B c n cs w' (OwnX.reads h) hn
    have CI := hide fun (w' : World) (B : Option Addr) (c : Nat) (lo : Nat) (h : OwnX w' lo (.slice B n c) n cs) => implUndo B c n cs w' (OwnX.reads h) hn
    obtain ⟨us, hus⟩ : ∃ us, undoN cs n n = us := ⟨_, rfl⟩
    rw [hus] at CS CI
    have eM : ((1 + ((n * 4 : Nat) : Int)) != (1 + ((n * 4 : Nat) : Int))) = false := by simp
    obtain ⟨N4, hN4⟩ : ∃ N4 : Int, 1 + ((n * 4 : Nat) : Int) = N4 := ⟨_, rfl⟩
    have hN40 : 0 ≤ N4 ∧ N4 ≤ 5000000 := by omega
    have CMk := hide fun (w' : World) (s : Value) (lo : Nat) (xs : List Int) (h : OwnX w' lo s n xs) => markRowOpS s lo n xs 1 w' h hn (by omega) (by omega)
    have CHd := hide fun (w' : World) (s : Value) (lo : Nat) (h : OwnX w' lo s n (marks 1 (n * 4))) => heldRowOpS_own s lo 1 n w' h hn (by omega) (by omega)
    have CE := hide fun (w' : World) (s t : Value) (lo lo' : Nat) (xs : List Int) (h : OwnX w' lo s n xs) (h' : OwnX w' lo' t n xs) => eqX_own s t lo lo' n xs w' h h' hn
    rw [hN4] at CMk CHd eM
    clear hus hN4
    go_enter Try.func3, Try.ntmps3
    go_wp2_with fail
    refine (szRowOpS_yes A cap n 1048576 _ (by omega) (by omega) (by omega)).mono ?_; rintro e w' ⟨rfl, rfl⟩
    go_wp2_with fail
    refine (CT.out _ (Below.refl _ _)).mono ?_; rintro e w1 ⟨rfl, ho, hb⟩
    have X1 := hide ho
    have HB1 := hide hb
    clear ho hb
    go_wp2_with fail
    refine (CS.out _ _ _ _ X1.out).mono ?_; rintro e w2 ⟨s0, rfl, ho, hb⟩
    have O0 := hide ho
    have hl0 := OwnX.lt ho
    have HB2 := hide (kb_call HB1.out (Nat.le_refl _) hb)
    have hz1 := HB1.out.size
    have hz2 := hb.size
    clear ho hb X1 HB1
    go_wp2_with fail
    refine (CT.out _ HB2.out).mono ?_; rintro e w3 ⟨rfl, ho, hb⟩
    have X0 := hide ho
    have hlx := OwnX.lt ho
    have O0b := hide (O0.out.below hb)
    have HB3 := hide (kb_call HB2.out (Nat.le_refl _) hb)
    have hz3 := hb.size
    clear ho hb O0 HB2
    go_wp2_with fail
    refine (CI.out _ _ _ _ X0.out).mono ?_; rintro e w4 ⟨s1, rfl, ho, hb⟩
    have O1 := hide ho
    have hl1 := OwnX.lt ho
    have X0b := hide (X0.out.below hb)
    have O0c := hide (O0b.out.below hb)
    have HB4 := hide (kb_call HB3.out (Nat.le_refl _) hb)
    have hz4 := hb.size
    clear ho hb X0 O0b HB3
    go_wp2_with fail
    refine (CE.out _ _ _ _ _ _ O1.out O0c.out).mono ?_; rintro e w5 ⟨rfl, hb⟩
    have O0 := hide (O0c.out.below hb)
    have O1b := hide (O1.out.below hb)
    have X0 := hide (X0b.out.below hb)
    have HB5 := hide (kb_call HB4.out (Nat.le_refl _) hb)
    clear hb O0c O1 X0b HB4
    go_wp2_with fail
    refine (CT.out _ HB5.out).mono ?_; rintro e w6 ⟨rfl, ho, hb⟩
    have Y0 := hide ho
    have O0b := hide (O0.out.below hb)
    have O1 := hide (O1b.out.below hb)
    have X0b := hide (X0.out.below hb)
    have HB6 := hide (kb_call HB5.out (Nat.le_refl _) hb)
    clear ho hb O0 O1b X0 HB5
    go_wp2_with fail
    refine (CE.out _ _ _ _ _ _ X0b.out Y0.out).mono ?_; rintro e w7 ⟨rfl, hb⟩
    have O0 := hide (O0b.out.below hb)
    have O1b := hide (O1.out.below hb)
    have X0 := hide (X0b.out.below hb)
    have HB7 := hide (kb_call HB6.out (Nat.le_refl _) hb)
    have hz7 := HB7.out.size
    clear hb O0b O1 X0b Y0 HB6
    go_wp2_with fail
    refine (CMk.out _ _ _ _ X0.out).mono ?_; rintro e w8 ⟨rfl, _, hg⟩
    have HB8 := hide (below_mark HB7.out hg hlx (by omega) (by omega))
    have O0b := hide (keepX hg hlx O0.out hl0 (by omega))
    have O1 := hide (keepX hg hlx O1b.out hl1 (by omega))
    clear hg O0 O1b X0 HB7
    go_wp2_with fail
    refine (CE.out _ _ _ _ _ _ O1.out O0b.out).mono ?_; rintro e w9 ⟨rfl, hb⟩
    have O0 := hide (O0b.out.below hb)
    have O1b := hide (O1.out.below hb)
    have HB9 := hide (kb_call HB8.out (Nat.le_refl _) hb)
    have hz9 := HB9.out.size
    clear hb O0b O1 HB8
    go_wp2_with fail
    refine (CMk.out _ _ _ _ O1b.out).mono ?_; rintro e w10 ⟨rfl, ho, hg⟩
    have HB10 := hide (below_mark HB9.out hg hl1 (by omega) (by omega))
    have O0b := hide (keepX hg hl1 O0.out hl0 (by omega))
    have M1 := hide ho
    clear hg ho O0 O1b HB9
    go_wp2_with fail
    refine (CHd.out _ _ _ M1.out).mono ?_; rintro e w10b ⟨rfl, rfl⟩
    go_wp2_with fail
    refine (CT.out _ HB10.out).mono ?_; rintro e w11 ⟨rfl, ho, hb⟩
    have Y0 := hide ho
    have O0 := hide (O0b.out.below hb)
    have M1b := hide (M1.out.below hb)
    have HB11 := hide (kb_call HB10.out (Nat.le_refl _) hb)
    clear ho hb O0b M1 HB10
    go_wp2_with fail
    refine (CI.out _ _ _ _ Y0.out).mono ?_; rintro e w12 ⟨s2, rfl, ho, hb⟩
    have O2 := hide ho
    have O0b := hide (O0.out.below hb)
    have M1 := hide (M1b.out.below hb)
    have HB12 := hide (kb_call HB11.out (Nat.le_refl _) hb)
    clear ho hb O0 M1b Y0 HB11
    go_wp2_with fail
    refine (CE.out _ _ _ _ _ _ O2.out O0b.out).mono ?_; rintro e w13 ⟨rfl, hb⟩
    have M1b := hide (M1.out.below hb)
    have HB13 := hide (kb_call HB12.out (Nat.le_refl _) hb)
    clear hb O0b M1 O2 HB12
    go_wp2_with fail
    refine (CHd.out _ _ _ M1b.out).mono ?_; rintro e w13b ⟨rfl, rfl⟩
    go_wp2
    go_ret
    exact ⟨rfl, HB13.out⟩
  · go_enter Try.func3, Try.ntmps3
    go_wp2_with fail
    refine (szRowOpS_no A cap n 1048576 _ (by omega) (by omega) (by omega) (by omega)).mono ?_; rintro e w1 ⟨rfl, rfl⟩
    go_wp2
    go_ret
    exact ⟨rfl, Below.refl _ _⟩
end Go.Proofs.Ythbmmoajfghjbaa
