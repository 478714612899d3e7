/- ParseInt: the reference's walk. -/
import Derived.Test.YtkaiekhmcjojoaaDoorPrsW
import Derived.IntWalk
import Derived.Laws.DeepStrings4
namespace Go.Proofs.YtkaiekhmcjojoaaDoor
open Go.RowKit
set_option linter.unusedSimpArgs false
set_option linter.unusedVariables false
def sgnOf (l : List UInt8) : Nat := if l.head? = some 45 then 1 else 0
theorem body_at {l : List UInt8} {j : Nat} : (bodyOf l)[j]? = l[j + sgnOf l]? := by
  unfold bodyOf sgnOf
  split
  · rw [List.getElem?_drop, Nat.add_comm]
  · rfl
theorem body_len (l : List UInt8) : (bodyOf l).length + sgnOf l = l.length := by
  unfold bodyOf sgnOf
  split
  · rename_i h
    cases l with
    | nil => simp at h
    | cons b r => simp
  · rfl
theorem decFrom_next {bd : List UInt8} {j k : Nat} {b : UInt8} (h : Lib.decFrom 0 (bd.take j) = some k) (hb : bd[j]? = some b) (h1 : 48 ≤ b.toNat) (h2 : b.toNat ≤ 57) : Lib.decFrom 0 (bd.take (j + 1)) = some (k * 10 + (b.toNat - 48)) :=
  Lib.decFrom_take bd j 0 k b _ h hb (by rw [Lib.digitVal, if_pos ⟨h1, h2⟩])
theorem dec_bound {bd : List UInt8} {j k : Nat} (h : Lib.decFrom 0 (bd.take j) = some k) (hj : j ≤ 12) : k ≤ 1000000000000 := by
  have h1 := Lib.decFrom_lt _ _ _ h
  have h2 : (10 : Nat) ^ (bd.take j).length ≤ 10 ^ 12 := Nat.pow_le_pow_right (by omega) (by rw [List.length_take]; omega)
  omega
theorem byte_at {l : List UInt8} {p : Nat} {b : UInt8} (hp : p < l.length) (hb : l[p]? = some b) : ((⟨l.toArray⟩ : ByteArray)[p]'(by exact hp)).toNat = b.toNat := by
  have : l[p]'hp = b := by rw [List.getElem?_eq_getElem hp] at hb; exact Option.some.inj hb
  rw [← this]
  rfl
set_option maxHeartbeats 2000000 in
theorem specParseInt (l : List UInt8) (hl : l.length ≤ 1000000000) (w : World) :
    Calls Tryd.prog 25 #[sv l] w fun e w' => e = .returned (piV (parseI l)) ∧ Below w.heap.size w w' := by
  go_enter Tryd.func25, Tryd.ntmps25
  go_wp2
  go_loop [4, 5, 6] (fun n d i => ∃ (k j p : Nat), n = .int .i64 k ∧ d = .int .i64 j ∧ i = .int .i64 p ∧ j ≤ 12 ∧ j ≤ (bodyOf l).length ∧ Hid (Lib.decFrom 0 ((bodyOf l).take j) = some k) ∧ (p = j + sgnOf l ∨ p = 0 ∧ j = 0)) (fun _ _ i => l.length - (intOf i).toNat)
  case atStart => exact ⟨0, 0, 0, rfl, rfl, rfl, by omega, by omega, rfl, .inr ⟨rfl, rfl⟩⟩
  case round =>
    obtain ⟨k, j, p, rfl, rfl, rfl, hj, hjl, hk, hp⟩ := hrel
    have hkb := dec_bound hk.out hj
    have hbl := body_len l
    by_cases hlt : p < l.length ∧ j < 12
    · obtain ⟨hlt, hj12⟩ := hlt
      obtain ⟨b, hb⟩ : ∃ b, l[p]? = some b := ⟨_, List.getElem?_eq_getElem hlt⟩
      have hbb := byte_at hlt hb
      have hB256 : b.toNat < 256 := b.toNat_lt
      by_cases hm : p = 0 ∧ b.toNat = 45
      · obtain ⟨hp0, hb45⟩ := hm
        subst hp0
        have hj0 : j = 0 := by omega
        subst hj0
        have hs : sgnOf l = 1 := by
          have hh : l.head? = some 45 := by
            rw [List.head?_eq_getElem?, hb]
            congr 1
            exact UInt8.toNat_inj.1 hb45
          rw [sgnOf, if_pos hh]
        rw [hb45] at hbb
        have c1 : (0 : Int) < (l.length : Int) := by omega
        have HS := hide hs
        have HK := hide hk.out
        clear hs hk hp hb hbl
        go_wp2
        go_round
        case rel => exact ⟨k, 0, 1, rfl, rfl, rfl, by omega, by omega, HK.out, .inl (by rw [HS.out])⟩
        case measure => simp [intOf]; omega
      · have hps : p = j + sgnOf l := by
          rcases hp with hp | ⟨hp, hj0⟩
          · exact hp
          · subst hp
            subst hj0
            have hh : ¬ l.head? = some 45 := fun e => by
              rw [List.head?_eq_getElem?, hb] at e
              injection e with e
              exact hm ⟨rfl, by rw [e]; rfl⟩
            rw [sgnOf, if_neg hh]
        have hbj : (bodyOf l)[j]? = some b := by rw [body_at, ← hps, hb]
        have hjl2 : j < (bodyOf l).length := (List.getElem?_eq_some_iff.1 hbj).1
        obtain ⟨BB, hBB⟩ : ∃ BB, b.toNat = BB := ⟨_, rfl⟩
        have hBad : Hid (BB < 48 ∨ 57 < BB → parseI l = none) := fun h => parseI_bad hbj (by rw [hBB]; exact h)
        have hNX : Hid (48 ≤ BB → BB ≤ 57 → Lib.decFrom 0 ((bodyOf l).take (j + 1)) = some (k * 10 + (BB - 48))) := fun h1 h2 => by
          have := decFrom_next hk.out hbj (by omega) (by omega)
          rwa [hBB] at this
        rw [hBB] at hbb hm hB256
        have HPX : p + 1 = j + 1 + sgnOf l := by omega
        have c1 : (p : Int) < (l.length : Int) := by omega
        have c2 : (j : Int) < 12 := by omega
        clear hk hp hb hbj hBB hps hbl
        by_cases hp0 : p = 0
        · have hb45 : ¬ BB = 45 := fun e => hm ⟨hp0, e⟩
          subst hp0
          have c7 : (0 : Int) < (l.length : Int) := by omega
          have c4 : ((BB : Int) == 45) = false := by simp; omega
          clear hm
          rcases (by omega : BB < 48 ∨ 57 < BB ∨ (48 ≤ BB ∧ BB ≤ 57)) with hB | hB | ⟨hB48, hB57⟩
          · have HN := hide (hBad.out (.inl hB))
            have c5 : (BB : Int) < 48 := by omega
            go_wp2
            go_returns
            exact ⟨by rw [HN.out]; rfl, Below.refl _ _⟩
          · have HN := hide (hBad.out (.inr hB))
            have c5 : ¬ (BB : Int) < 48 := by omega
            have c6 : (57 : Int) < (BB : Int) := by omega
            go_wp2
            go_returns
            exact ⟨by rw [HN.out]; rfl, Below.refl _ _⟩
          · have HNX := hide (hNX.out hB48 hB57)
            have c5 : ¬ (BB : Int) < 48 := by omega
            have c6 : ¬ (57 : Int) < (BB : Int) := by omega
            clear hNX hBad
            go_wp2
            go_round
            case rel => exact ⟨k * 10 + (BB - 48), j + 1, 0 + 1, by congr 1; omega, by go_num, by go_num, by omega, by omega, HNX.out, .inl HPX⟩
            case measure => simp [intOf]; omega
        · have c3 : ((p : Int) == 0) = false := by simp; omega
          clear hm
          rcases (by omega : BB < 48 ∨ 57 < BB ∨ (48 ≤ BB ∧ BB ≤ 57)) with hB | hB | ⟨hB48, hB57⟩
          · have HN := hide (hBad.out (.inl hB))
            have c5 : (BB : Int) < 48 := by omega
            go_wp2
            go_returns
            exact ⟨by rw [HN.out]; rfl, Below.refl _ _⟩
          · have HN := hide (hBad.out (.inr hB))
            have c5 : ¬ (BB : Int) < 48 := by omega
            have c6 : (57 : Int) < (BB : Int) := by omega
            go_wp2
            go_returns
            exact ⟨by rw [HN.out]; rfl, Below.refl _ _⟩
          · have HNX := hide (hNX.out hB48 hB57)
            have c5 : ¬ (BB : Int) < 48 := by omega
            have c6 : ¬ (57 : Int) < (BB : Int) := by omega
            clear hNX hBad
            go_wp2
            go_round
            case rel => exact ⟨k * 10 + (BB - 48), j + 1, p + 1, by congr 1; omega, by go_num, by go_num, by omega, by omega, HNX.out, .inl HPX⟩
            case measure => simp [intOf]; omega
    · have hend : j = 12 ∨ l.length ≤ p := by omega
      have c0 : ((p : Int) < (l.length : Int)) ∧ ¬ ((j : Int) < 12) ∨ ¬ ((p : Int) < (l.length : Int)) := by omega
      have hkb := dec_bound hk.out hj
      obtain ⟨sg, hsg⟩ : ∃ sg, sgnOf l = sg := ⟨_, rfl⟩
      by_cases hj0 : j = 0
      · have HN : Hid (parseI l = none) := parseI_short (by rw [hsg] at hbl; omega)
        have c1 : ¬ ((p : Int) < (l.length : Int)) := by
          rw [hsg] at hbl hp
          omega
        have c2 : ¬ ((0 : Int) < (j : Int)) := by omega
        have c3 : ((j : Int) < 1) := by omega
        clear hk hp hbl c0 hend hj0
        go_wp2
        go_returns
        exact ⟨by rw [HN.out]; rfl, Below.refl _ _⟩
      · have hps : p = j + sgnOf l := by omega
        have hl0 : 0 < l.length := by omega
        obtain ⟨b, hb⟩ : ∃ b, l[0]? = some b := ⟨_, List.getElem?_eq_getElem hl0⟩
        have hbb := byte_at hl0 hb
        obtain ⟨BB, hBB⟩ : ∃ BB, b.toNat = BB := ⟨_, rfl⟩
        have hB256 : b.toNat < 256 := b.toNat_lt
        rw [hBB] at hbb hB256
        have hss : (l.head? = some 45) ↔ BB = 45 := by
          rw [List.head?_eq_getElem?, hb, ← hBB]
          constructor
          · intro e; injection e with e; rw [e]; rfl
          · intro e; congr 1; exact UInt8.toNat_inj.1 e
        have c1 : (0 : Int) < (j : Int) := by omega
        have c2 : ¬ ((j : Int) < 1) := by omega
        obtain ⟨m, hm⟩ : ∃ m : Int, m = if l.head? = some 45 then -(k : Int) else k := ⟨_, rfl⟩
        have hm0 : -1000000000000 ≤ m ∧ m ≤ 1000000000000 := by rw [hm]; split <;> omega
        by_cases hj10 : 10 < j
        · have HN : Hid (parseI l = none) := parseI_long (by omega)
          have c3 : (10 : Int) < (j : Int) := by omega
          clear hk hp hbl hps hend hm hm0 hb hBB hss
          rcases c0 with ⟨c4, c5⟩ | c4
          · by_cases hB : BB = 45
            · have d1 : ((BB : Int) == 45) = true := by simp [hB]
              go_wp2
              go_returns
              exact ⟨by rw [HN.out]; rfl, Below.refl _ _⟩
            · have d1 : ((BB : Int) == 45) = false := by simp; omega
              go_wp2
              go_returns
              exact ⟨by rw [HN.out]; rfl, Below.refl _ _⟩
          · by_cases hB : BB = 45
            · have d1 : ((BB : Int) == 45) = true := by simp [hB]
              go_wp2
              go_returns
              exact ⟨by rw [HN.out]; rfl, Below.refl _ _⟩
            · have d1 : ((BB : Int) == 45) = false := by simp; omega
              go_wp2
              go_returns
              exact ⟨by rw [HN.out]; rfl, Below.refl _ _⟩
        · have hpl : l.length ≤ p := by omega
          have hjb : j = (bodyOf l).length := by omega
          have hkk : Lib.decFrom 0 (bodyOf l) = some k := by have := hk.out; rwa [hjb, List.take_length] at this
          have HP := hide (parseI_end hkk hm)
          have c3 : ¬ ((10 : Int) < (j : Int)) := by omega
          have c4 : ¬ ((p : Int) < (l.length : Int)) := by omega
          have CN := hide fun (w : World) => specIsNumber m w
          have CF := hide fun (w : World) => specFormatInt m (by omega) (by omega) w
          obtain ⟨t, ht⟩ : ∃ t, Lib.itoa m = t := ⟨_, rfl⟩
          rw [ht] at CF HP
          clear hk hp hbl hps hend hb hBB hkk hjb hpl c0 ht
          by_cases hB : BB = 45
          · have hmk : m = -(k : Int) := by rw [hm, if_pos (hss.2 hB)]
            have d1 : ((BB : Int) == 45) = true := by simp [hB]
            subst hmk
            clear hm hss
            cases hn : isNum (-(k : Int))
            · have HN := hide hn
              go_wp2_with (go_at_call 29; refine (CN.out _).mono ?_; rintro e w2 ⟨rfl, rfl⟩; rw [HN.out])
              go_returns
              exact ⟨by rw [HP.out, if_neg (fun e => by rw [HN.out] at e; cases e.1)]; rfl, Below.refl _ _⟩
            · have HN := hide hn
              by_cases htl : t = l
              · subst htl
                go_wp2_with (first
                  | (go_at_call 29; refine (CN.out _).mono ?_; rintro e w2 ⟨rfl, rfl⟩; rw [HN.out])
                  | (go_at_call 58; refine (CF.out _).mono ?_; rintro e w2 ⟨rfl, rfl⟩))
                go_returns
                exact ⟨by rw [HP.out, if_pos ⟨HN.out, by trivial⟩]; rfl, Below.refl _ _⟩
              · have n2 : (t == l) = false := by simpa using htl
                have n3 : (t != l) = true := by simpa using htl
                go_wp2_with (first
                  | (go_at_call 29; refine (CN.out _).mono ?_; rintro e w2 ⟨rfl, rfl⟩; rw [HN.out])
                  | (go_at_call 58; refine (CF.out _).mono ?_; rintro e w2 ⟨rfl, rfl⟩))
                go_returns
                exact ⟨by rw [HP.out, if_neg (fun e => htl e.2)]; rfl, Below.refl _ _⟩
          · have hmk : m = (k : Int) := by rw [hm, if_neg (fun e => hB (hss.1 e))]
            have d1 : ((BB : Int) == 45) = false := by simp; omega
            subst hmk
            clear hm hss
            cases hn : isNum (k : Int)
            · have HN := hide hn
              go_wp2_with (go_at_call 29; refine (CN.out _).mono ?_; rintro e w2 ⟨rfl, rfl⟩; rw [HN.out])
              go_returns
              exact ⟨by rw [HP.out, if_neg (fun e => by rw [HN.out] at e; cases e.1)]; rfl, Below.refl _ _⟩
            · have HN := hide hn
              by_cases htl : t = l
              · subst htl
                go_wp2_with (first
                  | (go_at_call 29; refine (CN.out _).mono ?_; rintro e w2 ⟨rfl, rfl⟩; rw [HN.out])
                  | (go_at_call 58; refine (CF.out _).mono ?_; rintro e w2 ⟨rfl, rfl⟩))
                go_returns
                exact ⟨by rw [HP.out, if_pos ⟨HN.out, by trivial⟩]; rfl, Below.refl _ _⟩
              · have n2 : (t == l) = false := by simpa using htl
                have n3 : (t != l) = true := by simpa using htl
                go_wp2_with (first
                  | (go_at_call 29; refine (CN.out _).mono ?_; rintro e w2 ⟨rfl, rfl⟩; rw [HN.out])
                  | (go_at_call 58; refine (CF.out _).mono ?_; rintro e w2 ⟨rfl, rfl⟩))
                go_returns
                exact ⟨by rw [HP.out, if_neg (fun e => htl e.2)]; rfl, Below.refl _ _⟩
end Go.Proofs.YtkaiekhmcjojoaaDoor
