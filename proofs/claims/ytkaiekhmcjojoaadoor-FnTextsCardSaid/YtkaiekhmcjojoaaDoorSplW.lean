/- The reference's split: its walk. -/
import Derived.Test.YtkaiekhmcjojoaaDoorStrW
import Derived.Test.YtkaiekhmcjojoaaDoorCutL
import Derived.Test.YtkaiekhmcjojoaaDoorPrsX
import Derived.LoopTactic
import Derived.Deep.QuietTactic
import Derived.BigQuiet
import Derived.Laws.DeepStrings4
namespace Go.Proofs.YtkaiekhmcjojoaaDoor
open Go.RowKit
set_option linter.unusedSimpArgs false
set_option linter.unusedVariables false
/-- A slice of strings of the call's own is returned. -/
def RetS (w : World) (ts : List (List UInt8)) (e : Ending) (w' : World) : Prop := ∃ s, e = .returned s ∧ OwnS w' w.heap.size s ts ∧ Below w.heap.size w w'
theorem ext_val (l : List UInt8) (a b : Nat) : Value.string ((⟨l.toArray⟩ : ByteArray).extract a b) = sv ((l.drop a).take (b - a)) := by
  congr 1
  apply ByteArray.ext
  rw [ByteArray.data_extract]
  simp [List.extract_eq_take_drop]
theorem piece_next {l : List UInt8} {fr i : Nat} {b : UInt8} (h : fr ≤ i) (hb : l[i]? = some b) : (l.drop fr).take (i + 1 - fr) = (l.drop fr).take (i - fr) ++ [b] := by
  rw [show i + 1 - fr = (i - fr) + 1 by omega, List.take_add_one, List.getElem?_drop, show fr + (i - fr) = i by omega, hb]
  rfl
theorem drop_next {l : List UInt8} {i : Nat} {b : UInt8} (hb : l[i]? = some b) : l.drop i = b :: l.drop (i + 1) := by
  obtain ⟨hi, e⟩ := List.getElem?_eq_some_iff.1 hb
  rw [List.drop_eq_getElem_cons hi, e]
/-- A byte that is a mark. -/
def inM (m : List UInt8) (b : UInt8) : Bool := m.contains b
/-- What has been cut off ahead of place i. -/
def SplAt (m l : List UInt8) (ts : List (List UInt8)) (fr i : Nat) : Prop :=
  (i ≤ l.length ∧ fr ≤ i ∧ splitF (inM m) [] l = ts ++ splitF (inM m) ((l.drop fr).take (i - fr)) (l.drop i)) ∨ (i = l.length + 1 ∧ splitF (inM m) [] l = ts)
theorem spl_start (m l : List UInt8) : SplAt m l [] 0 0 := .inl ⟨Nat.zero_le _, Nat.le_refl _, by simp⟩
theorem spl_on {m l : List UInt8} {ts : List (List UInt8)} {fr i : Nat} {b : UInt8} (h : SplAt m l ts fr i) (hb : l[i]? = some b) (hm : inM m b = false) : SplAt m l ts fr (i + 1) := by
  have hi := (List.getElem?_eq_some_iff.1 hb).1
  rcases h with ⟨h1, h2, h3⟩ | ⟨h1, _⟩
  · refine .inl ⟨hi, by omega, ?_⟩
    rw [h3, drop_next hb, splitF, hm, if_neg (by decide), piece_next h2 hb]
  · omega
theorem spl_cut {m l : List UInt8} {ts : List (List UInt8)} {fr i : Nat} {b : UInt8} (h : SplAt m l ts fr i) (hb : l[i]? = some b) (hm : inM m b = true) : SplAt m l (ts ++ [(l.drop fr).take (i - fr)]) (i + 1) (i + 1) := by
  have hi := (List.getElem?_eq_some_iff.1 hb).1
  rcases h with ⟨h1, h2, h3⟩ | ⟨h1, _⟩
  · refine .inl ⟨hi, Nat.le_refl _, ?_⟩
    rw [h3, drop_next hb, splitF, if_pos hm]
    simp
  · omega
theorem spl_end {m l : List UInt8} {ts : List (List UInt8)} {fr i : Nat} (h : SplAt m l ts fr i) (hi : i = l.length) : SplAt m l (ts ++ [(l.drop fr).take (i - fr)]) (i + 1) (i + 1) := by
  rcases h with ⟨h1, h2, h3⟩ | ⟨h1, _⟩
  · refine .inr ⟨by omega, ?_⟩
    rw [h3, hi, List.drop_of_length_le (Nat.le_refl _), splitF]
  · omega
theorem spl_done {m l : List UInt8} {ts : List (List UInt8)} {fr i : Nat} (h : SplAt m l ts fr i) (hi : ¬ i ≤ l.length) : splitF (inM m) [] l = ts := by
  rcases h with ⟨h1, _⟩ | ⟨_, h⟩
  · omega
  · exact h
theorem spl_le {m l : List UInt8} {ts : List (List UInt8)} {fr i : Nat} (h : SplAt m l ts fr i) (h2 : i ≤ l.length) : fr ≤ i := by
  rcases h with ⟨_, h, _⟩ | ⟨h, _⟩ <;> omega
theorem take_has {m : List UInt8} {k : Nat} {b c : UInt8} (hc : m[k]? = some c) : inM (m.take (k + 1)) b = (inM (m.take k) b || decide (b.toNat = c.toNat)) := by
  rw [inM, inM, List.take_add_one, hc, List.contains_eq_mem, List.contains_eq_mem]
  by_cases h : b = c
  · subst h; simp
  · have h2 : ¬ b.toNat = c.toNat := fun e => h (UInt8.toNat_inj.1 e)
    simp [h, h2]
theorem new_cell (w : World) (v : Value) (t : TypeId) : (w.alloc (.cells #[v] t)).cell? ⟨w.heap.size, 0, none⟩ = some v := by go_simp
set_option maxHeartbeats 4000000 in
theorem specSplit (l m : List UInt8) (hl : l.length ≤ 1048576) (hm : m.length ≤ 100) (hm0 : 0 < m.length) (w : World) :
    Calls Tryd.prog 33 #[sv l, sv m] w (RetS w (splitF (inM m) [] l)) := by
  go_enter Tryd.func33, Tryd.ntmps33
  go_wp2
  go_loopw [5, 6, 7] (fun o f i wr => ∃ (ts : List (List UInt8)) (v0 : Value) (fr p : Nat), v0 = o ∧ f = .int .i64 fr ∧ i = .int .i64 p ∧ Hid (SplAt m l ts fr p) ∧ p ≤ l.length + 1 ∧ ts.length ≤ p ∧ OwnS wr w.heap.size v0 ts ∧ Below w.heap.size w wr) (fun _ _ i _ => l.length + 1 - (intOf i).toNat)
  case atStart => exact ⟨[], _, 0, 0, rfl, rfl, rfl, spl_start m l, by omega, by simp, ownS_empty w _ rfl, Below.alloc (Below.refl _ _) (Nat.le_refl _) _⟩
  case round =>
    obtain ⟨ts, v0, fr, p, rfl, rfl, rfl, hsp, hp, htl, ho, hB⟩ := hrel
    have HO := hide ho
    clear ho
    have hsz := hB.size
    by_cases hpl : p ≤ l.length
    · have c1 : (p : Int) ≤ (l.length : Int) := by omega
      have hfr := spl_le hsp.out hpl
      by_cases hpe : p = l.length
      · have c2 : ((p : Int) == (l.length : Int)) = true := by simp [hpe]
        have c3 : ¬ ((p : Int) < (l.length : Int)) := by omega
        have HSN := hide (spl_end hsp.out hpe)
        obtain ⟨y, hy⟩ : ∃ y, (l.drop fr).take (p - fr) = y := ⟨_, rfl⟩
        have HY : Hid (Value.string ((⟨l.toArray⟩ : ByteArray).extract fr p) = sv y) := by rw [Hid, ext_val, hy]
        rw [hy] at HSN
        clear hsp hpe hy
        go_wp2
        have d9 : (0 : Int) < (m.length : Int) := by omega
        go_loop [8, 9] (fun c k => c = .bool true ∧ k = .int .i64 0) (fun _ _ => 0)
        case atStart => exact ⟨rfl, rfl⟩
        case round =>
          obtain ⟨rfl, rfl⟩ := hrel
          go_wp2_with (at_builtin; refine wpList_append_str rfl _ _ rfl v0 w.heap.size ts rfl (HO.out.alloc _) wr.heap.size y rfl (by rw [← HY.out]; go_simp) (by omega) (by simp; omega) ?_; intro v4 w4 ho4 hg4 _; have HO4 := hide ho4; have HB4 := hide ((hB.alloc hsz _).grown hg4 (by simp; omega) (fun k hk => (OwnS.lt HO.out k hk).1)); clear ho4 hg4)
          go_roundw
          case rel => exact ⟨ts ++ [y], v4, p + 1, p + 1, rfl, by go_num, by go_num, HSN.out, by omega, by simp; omega, HO4.out, HB4.out⟩
          case measure => simp [intOf]; omega
      · have hlt : p < l.length := by omega
        have c2 : ((p : Int) == (l.length : Int)) = false := by simp; omega
        have c3 : (p : Int) < (l.length : Int) := by omega
        obtain ⟨b, hb⟩ : ∃ b, l[p]? = some b := ⟨_, List.getElem?_eq_getElem hlt⟩
        have hbb := byte_at hlt hb
        obtain ⟨BB, hBB⟩ : ∃ BB, b.toNat = BB := ⟨_, rfl⟩
        have hB256 : b.toNat < 256 := b.toNat_lt
        rw [hBB] at hbb hB256
        have HON := hide fun hm => spl_on hsp.out hb hm
        have HCN := hide fun hm => spl_cut hsp.out hb hm
        have HTK := hide fun k c (hc : m[k]? = some c) => take_has (b := b) hc
        obtain ⟨y, hy⟩ : ∃ y, (l.drop fr).take (p - fr) = y := ⟨_, rfl⟩
        have HY : Hid (Value.string ((⟨l.toArray⟩ : ByteArray).extract fr p) = sv y) := by rw [Hid, ext_val, hy]
        rw [hy] at HCN
        rw [hBB] at HTK
        clear hsp hpe hy hb hBB
        go_wp2
        go_loopw [8, 9] (fun c k wq => ∃ j n : Nat, j ≤ m.length ∧ c = .bool (inM (m.take j) b) ∧ k = .int .i64 j ∧ wq = wr.drewN n) (fun _ k _ => m.length - (intOf k).toNat)
        case atStart => exact ⟨0, 0, Nat.zero_le _, rfl, rfl, rfl⟩
        case round =>
          obtain ⟨j, n9, hj, rfl, rfl, rfl⟩ := hrel
          by_cases hjl : j < m.length
          · have d1 : (j : Int) < (m.length : Int) := by omega
            obtain ⟨c, hc⟩ : ∃ c, m[j]? = some c := ⟨_, List.getElem?_eq_getElem hjl⟩
            have hcc := byte_at hjl hc
            have HT := hide (HTK.out j c hc)
            obtain ⟨CC, hCC⟩ : ∃ CC, c.toNat = CC := ⟨_, rfl⟩
            have hC256 : c.toNat < 256 := c.toNat_lt
            rw [hCC] at hcc hC256 HT
            obtain ⟨q, hq⟩ : ∃ q, inM (m.take j) b = q := ⟨_, rfl⟩
            rw [hq] at HT
            rw [hq]
            clear HTK hc hq hCC
            have hj0 : (0 : Int) ≤ (j : Int) := by omega
            have hp0 : (0 : Int) ≤ (p : Int) := by omega
            cases q
            · by_cases he : BB = CC
              · have e1 : ((BB : Int) == (CC : Int)) = true := by simp [he]
                have HE := hide he
                go_wp2
                go_quiet (fail)
                go_wp2
                go_roundw
                case rel => exact ⟨j + 1, _, by omega, by rw [HT.out, HE.out]; simp, by go_num, rfl⟩
                case measure => simp [intOf]; omega
              · have e1 : ((BB : Int) == (CC : Int)) = false := by simp; omega
                have HE := hide he
                go_wp2
                go_quiet (fail)
                go_wp2
                go_roundw
                case rel => exact ⟨j + 1, _, by omega, by rw [HT.out, decide_eq_false HE.out]; simp, by go_num, rfl⟩
                case measure => simp [intOf]; omega
            · go_wp2
              go_quiet (fail)
              go_wp2
              go_roundw
              case rel => exact ⟨j + 1, _, by omega, by rw [HT.out]; simp, by go_num, rfl⟩
              case measure => simp [intOf]; omega
          · have hje : j = m.length := by omega
            have d1 : ¬ ((j : Int) < (m.length : Int)) := by omega
            rw [hje, List.take_length]
            obtain ⟨q, hq⟩ : ∃ q, inM m b = q := ⟨_, rfl⟩
            rw [hq] at HON HCN
            rw [hq]
            clear hq HTK
            rw [hje] at d1
            cases q
            · have HSN := hide (HON.out rfl)
              clear HON HCN
              go_wp2
              go_roundw
              case rel => exact ⟨ts, v0, fr, p + 1, rfl, rfl, by go_num, HSN.out, by omega, by omega, HO.out.drewN n9, below_drewN hB n9⟩
              case measure => simp [intOf]; omega
            · have HSN := hide (HCN.out rfl)
              clear HON HCN
              go_wp2_with (at_builtin; refine wpList_append_str rfl _ _ rfl v0 w.heap.size ts rfl (OwnS.alloc (w := wr.drewN n9) (HO.out.drewN n9) _) wr.heap.size y rfl (by rw [← HY.out]; exact new_cell (wr.drewN n9) _ _) (by omega) (by simp; omega) ?_; intro v4 w4 ho4 hg4 _; have HO4 := hide ho4; have HB4 := hide ((Below.alloc (below_drewN hB n9) hsz _).grown hg4 (by simp; omega) (fun k hk => (OwnS.lt HO.out k hk).1)); clear ho4 hg4)
              go_roundw
              case rel => exact ⟨ts ++ [y], v4, p + 1, p + 1, rfl, by go_num, by go_num, HSN.out, by omega, by simp; omega, HO4.out, HB4.out⟩
              case measure => simp [intOf]; omega
    · have HSN := hide (spl_done hsp.out hpl)
      have c1 : ¬ ((p : Int) ≤ (l.length : Int)) := by omega
      clear hsp
      go_wp2
      go_ret
      exact ⟨v0, rfl, by rw [HSN.out]; exact HO.out, hB⟩
end Go.Proofs.YtkaiekhmcjojoaaDoor
