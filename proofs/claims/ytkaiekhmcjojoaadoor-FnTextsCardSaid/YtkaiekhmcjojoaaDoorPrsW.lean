/- ParseInt: both walks. -/
import Derived.Test.YtkaiekhmcjojoaaDoorFmtW
import Derived.Test.YtkaiekhmcjojoaaDoorFmtR
import Derived.Test.YtkaiekhmcjojoaaDoorPrsL
import Derived.Test.YtkaiekhmcjojoaaDoorNumW
import Derived.LoopTactic
namespace Go.Proofs.YtkaiekhmcjojoaaDoor
open Go.RowKit
set_option linter.unusedSimpArgs false
set_option linter.unusedVariables false
/-- What the texts' functions find in the variables. -/
def Env (w : World) : Prop := Tab10 w ∧ (∃ te pe, w.cell? ⟨1, 0, none⟩ = some (.iface te pe)) ∧ (∃ te pe, w.cell? ⟨2, 0, none⟩ = some (.iface te pe)) ∧ ∃ m : Int, w.cell? ⟨0, 0, none⟩ = some (.int .i64 m)
theorem Env.below {w w' : World} (h : Env w) (hb : Below w.heap.size w w') : Env w' := by
  obtain ⟨h1, ⟨a, b, h2⟩, ⟨c, d, h3⟩, m, h4⟩ := h
  exact ⟨h1.below hb, ⟨a, b, kc_call h2 hb⟩, ⟨c, d, kc_call h3 hb⟩, m, kc_call h4 hb⟩
/-- What ParseInt returns. -/
def piV : Option Int → Value
  | some n => .tuple #[.int .i64 n, .bool true]
  | none => .tuple #[.int .i64 0, .bool false]
theorem parseI_atoi {l : List UInt8} {n : Int} (h : parseI l = some n) : Lib.atoiAll l = .ok n := by
  obtain ⟨h1, rfl⟩ := parseI_iff.1 h
  exact atoiAll_num h1
theorem parseI_ok {l : List UInt8} {v : Int} (h : Lib.atoiAll l = .ok v) : parseI l = if isNum v = true ∧ Lib.itoa v = l then some v else none := by
  split
  · rename_i h2; exact parseI_iff.2 h2
  · rename_i h2
    cases hp : parseI l with
    | none => rfl
    | some n =>
      have := parseI_atoi hp
      rw [h] at this
      injection this with this
      subst this
      exact absurd (parseI_iff.1 hp) h2
theorem parseI_fail {l : List UInt8} (h : ∀ v, Lib.atoiAll l ≠ .ok v) : parseI l = none := by
  cases hp : parseI l with
  | none => rfl
  | some n => exact absurd (parseI_atoi hp) (h n)
theorem piV_some {l : List UInt8} {v : Int} (h : Lib.atoiAll l = .ok v) (h1 : isNum v = true) (h2 : Lib.itoa v = l) : piV (parseI l) = .tuple #[.int .i64 v, .bool true] := by
  rw [parseI_ok h, if_pos ⟨h1, h2⟩]; rfl
theorem piV_none {l : List UInt8} {v : Int} (h : Lib.atoiAll l = .ok v) (h1 : ¬ (isNum v = true ∧ Lib.itoa v = l)) : piV (parseI l) = .tuple #[.int .i64 0, .bool false] := by
  rw [parseI_ok h, if_neg h1]; rfl
theorem bs_ne {t l : List UInt8} (h : ¬ t = l) : ¬ ((⟨t.toArray⟩ : ByteArray) = ⟨l.toArray⟩) := fun e => h (by
  injection e with e
  exact congrArg Array.toList e)
set_option maxHeartbeats 2000000 in
theorem implParseInt (l : List UInt8) (hl : l.length ≤ 1000000000) (w : World) (hE : Env w) :
    Calls Tryd.prog 26 #[sv l] w fun e w' => e = .returned (piV (parseI l)) ∧ Below w.heap.size w w' := by
  have hsz : (⟨l.toArray⟩ : ByteArray).size = l.length := rfl
  have HE := hide hE
  obtain ⟨_, ⟨ta, pa, ea⟩, ⟨tb, pb, eb⟩, _⟩ := hE
  have EA := hide ea
  have EB := hide eb
  clear ea eb
  rcases ha : Lib.atoiAll l with v | _ | _
  · skip
    have ca := Tryd.strconv_Atoi_ok ⟨l.toArray⟩ (by rw [hsz]; omega) v ha w
    have CA := hide ca
    have HA := hide ha
    obtain ⟨v0, v1⟩ := Lib.atoiAll_bounds ha
    clear ca ha hsz
    have C1 := hide fun (w : World) hT => implFormatInt v v0 v1 w hT
    cases hn : isNum v
    · have HN := hide hn
      go_enter Tryd.func26, Tryd.ntmps26
      go_wp2_with fail
      refine (CA.out).mono ?_; rintro e w1 ⟨rfl, hw⟩
      have HB1 : Hid (Below w.heap.size w w1) := by
        rcases hw with rfl | ⟨t, rfl⟩
        · exact Below.refl _ _
        · exact Lib.bytesWorld_below _ _ _
      clear hw
      go_wp2_with (go_at_call 60; refine (implIsNumber v _).mono ?_; rintro e w2 ⟨rfl, rfl⟩; rw [HN.out])
      go_returns
      exact ⟨by rw [piV_none HA.out (fun e => by rw [HN.out] at e; cases e.1)]; rfl, HB1.out⟩
    · have HN := hide hn
      obtain ⟨t, ht⟩ : ∃ t, Lib.itoa v = t := ⟨_, rfl⟩
      have HTT := hide ht
      rw [ht] at C1
      clear ht hn
      by_cases htl : t = l
      · subst htl
        go_enter Tryd.func26, Tryd.ntmps26
        go_wp2_with fail
        refine (CA.out).mono ?_; rintro e w1 ⟨rfl, hw⟩
        have HB1 : Hid (Below w.heap.size w w1) := by
          rcases hw with rfl | ⟨t, rfl⟩
          · exact Below.refl _ _
          · exact Lib.bytesWorld_below _ _ _
        clear hw
        go_wp2_with (first
          | (go_at_call 60; refine (implIsNumber v _).mono ?_; rintro e w2 ⟨rfl, rfl⟩; rw [HN.out])
          | (go_at_call 28; refine (C1.out _ (HE.out.1.below HB1.out)).mono ?_; rintro e w2 ⟨rfl, hb⟩))
        go_returns
        exact ⟨by rw [piV_some HA.out HN.out HTT.out]; rfl, kb_call HB1.out (Nat.le_refl _) hb⟩
      · have n1 := bs_ne htl
        have n2 : (t == l) = false := by simpa using htl
        have n3 : (t != l) = true := by simpa using htl
        go_enter Tryd.func26, Tryd.ntmps26
        go_wp2_with fail
        refine (CA.out).mono ?_; rintro e w1 ⟨rfl, hw⟩
        have HB1 : Hid (Below w.heap.size w w1) := by
          rcases hw with rfl | ⟨t, rfl⟩
          · exact Below.refl _ _
          · exact Lib.bytesWorld_below _ _ _
        clear hw
        go_wp2_with (first
          | (go_at_call 60; refine (implIsNumber v _).mono ?_; rintro e w2 ⟨rfl, rfl⟩; rw [HN.out])
          | (go_at_call 28; refine (C1.out _ (HE.out.1.below HB1.out)).mono ?_; rintro e w2 ⟨rfl, hb⟩))
        go_returns
        exact ⟨by rw [piV_none HA.out (fun e => htl (HTT.out ▸ e.2))]; rfl, kb_call HB1.out (Nat.le_refl _) hb⟩
  · skip
    have HN : Hid (parseI l = none) := parseI_fail fun v h => by rw [ha] at h; cases h
    have ca := Any.strconv_Atoi_syntax Tryd.laysC172 ⟨l.toArray⟩ (by rw [hsz]; omega) ha _ w EA.out (.inr ⟨_, _, rfl⟩)
    have CA := hide ca
    clear ca ha hsz
    go_enter Tryd.func26, Tryd.ntmps26
    go_wp2_with fail
    refine (CA.out).mono ?_; rintro e w1 ⟨N, rfl, _, _, hb⟩
    go_wp2_with fail
    go_returns
    exact ⟨by rw [HN.out]; rfl, hb⟩
  · skip
    have HN : Hid (parseI l = none) := parseI_fail fun v h => by rw [ha] at h; cases h
    have ca := Tryd.strconv_Atoi_range ⟨l.toArray⟩ (by rw [hsz]; omega) ha _ w EB.out (.inr ⟨_, _, rfl⟩)
    obtain ⟨z, hz⟩ : ∃ z, Lib.atoiSat (⟨l.toArray⟩ : ByteArray).data.toList = z := ⟨_, rfl⟩
    rw [hz] at ca
    have CA := hide ca
    clear ca ha hsz hz
    go_enter Tryd.func26, Tryd.ntmps26
    go_wp2_with fail
    refine (CA.out).mono ?_; rintro e w1 ⟨N, rfl, _, _, hb⟩
    go_wp2_with fail
    go_returns
    exact ⟨by rw [HN.out]; rfl, hb⟩
end Go.Proofs.YtkaiekhmcjojoaaDoor
