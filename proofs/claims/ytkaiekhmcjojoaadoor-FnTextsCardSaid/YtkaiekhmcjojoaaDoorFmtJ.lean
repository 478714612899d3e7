/- The text of a list of numbers: the program's walk. -/
import Derived.Test.YtkaiekhmcjojoaaDoorStrW
import Derived.LoopTactic
namespace Go.Proofs.YtkaiekhmcjojoaaDoor
open Go.RowKit
set_option linter.unusedSimpArgs false
set_option linter.unusedVariables false
theorem map_take_itoa {xs : List Int} {k : Nat} (h : k < xs.length) : (xs.take k).map Lib.itoa ++ [Lib.itoa (xs.getD k 0)] = (xs.take (k + 1)).map Lib.itoa := by
  rw [List.take_succ_eq_append_getElem h, List.map_append]
  simp [List.getD, h]
set_option maxHeartbeats 2000000 in
theorem implFormatInts (A : Option Addr) (cap : Nat) (xs : List Int) (w : World) (hA : SlI w A xs) (hn : xs.length ≤ 1048576) (hb : ∀ x ∈ xs, isI64 x) (hT : Tab10 w) :
    Calls Tryd.prog 48 #[.slice A xs.length cap] w fun e w' => e = .returned (sv (intsT xs)) ∧ Below w.heap.size w w' := by
  have HL : Hid ((intsT xs).length ≤ 140737488355328) := by
    have := intsT_len hb
    rw [Hid]; omega
  have HB := hide hb
  have HA := hide hA
  have HT := hide hT
  clear hb hA hT
  go_enter Tryd.func48, Tryd.ntmps48
  go_wp2
  go_loopw [3, 9] (fun v i wr => ∃ (k : Nat) (v0 : Value), k ≤ xs.length ∧ i = .int .i64 k ∧ v0 = v ∧ OwnS wr w.heap.size v0 ((xs.take k).map Lib.itoa) ∧ Below w.heap.size w wr) (fun _ i _ => xs.length - (intOf i).toNat)
  case atStart => exact ⟨0, _, Nat.zero_le _, rfl, rfl, ownS_empty w _ rfl, Below.alloc (Below.refl _ _) (Nat.le_refl _) _⟩
  case round =>
    obtain ⟨k, v0, hk, rfl, rfl, ho, hB⟩ := hrel
    have HO := hide ho
    clear ho
    by_cases hlt : k < xs.length
    · obtain ⟨g, off, rfl, hc⟩ := HA.out (by omega)
      have hcx : wr.cell? ⟨g, off + k, none⟩ = some (.int .i64 (xs.getD k 0)) := kc_call (hc k hlt) hB
      have HM := hide (map_take_itoa hlt)
      obtain ⟨x, hx⟩ : ∃ x, xs.getD k 0 = x := ⟨_, rfl⟩
      have hxm : x ∈ xs := by rw [← hx]; simp [List.getD, hlt]
      obtain ⟨x0, x1⟩ := HB.out x hxm
      have C1 := hide fun (w : World) hT => implFormatInt x x0 x1 w hT
      rw [hx] at hcx HM
      clear hx hc hxm x0 x1
      have hll : ((xs.take k).map Lib.itoa).length ≤ 1048576 := by rw [List.length_map, List.length_take]; omega
      obtain ⟨ts, hts⟩ : ∃ ts, (xs.take k).map Lib.itoa = ts := ⟨_, rfl⟩
      have HO2 : Hid (OwnS wr w.heap.size v0 ts) := by have := HO.out; rwa [hts] at this
      rw [hts] at HM hll
      clear HO hts
      have hk0 : (0 : Int) ≤ (k : Int) := by omega
      have hk1 : (k : Int) < (xs.length : Int) := by omega
      go_wp2_with (first
        | (go_at_call 28; refine (C1.out _ (HT.out.below hB)).mono ?_; rintro e w2 ⟨rfl, hb2⟩; have HB2 := hide hb2; have hs2 := hb2.size; have HO3 := hide (HO2.out.below hb2); have hsB := hB.size; clear hb2)
        | (at_builtin; refine wpList_append_str rfl _ _ rfl v0 w.heap.size ts rfl (HO3.out.alloc _) w2.heap.size (Lib.itoa x) rfl (by go_simp) (by omega) (by simp; omega) ?_; intro v4 w4 ho4 hg4 _; have HO4 := hide ho4; have HB4 := hide (((kb_call hB (Nat.le_refl _) HB2.out).alloc (by omega) _).grown hg4 (by simp; omega) (fun k hk => (OwnS.lt HO3.out k hk).1)); clear ho4 hg4))
      go_roundw
      case rel => exact ⟨k + 1, v4, by omega, by go_num, rfl, by rw [← HM.out]; exact HO4.out, HB4.out⟩
      case measure => simp [intOf]; omega
    · have hke : k = xs.length := by omega
      have HO2 : Hid (OwnS wr w.heap.size v0 (xs.map Lib.itoa)) := by have := HO.out; rwa [hke, List.take_length] at this
      clear HO
      go_wp2_with fail
      refine (joinS wr w.heap.size v0 (xs.map Lib.itoa) [32] HO2.out (by rw [List.length_map]; omega) HL.out).mono ?_
      rintro e w5 ⟨rfl, hb5⟩
      go_wp2
      go_ret
      exact ⟨rfl, kb_call hB (Nat.le_refl _) hb5⟩
end Go.Proofs.YtkaiekhmcjojoaaDoor
