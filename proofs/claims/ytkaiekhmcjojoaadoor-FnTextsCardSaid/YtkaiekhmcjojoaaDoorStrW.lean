/- Slices of strings that are owned: append of one string, reading. -/
import Derived.Test.YtkaiekhmcjojoaaDoorFmtI
import Derived.Test.YtkaiekhmcjojoaaDoorAppS
import Derived.Maps.AppendAt
namespace Go.Proofs.YtkaiekhmcjojoaaDoor
set_option linter.unusedSimpArgs false
set_option linter.unusedVariables false
open Go.RowKit Go.Joins
abbrev svs (l : List (List UInt8)) : List Value := l.map sv
/-- The slice value s owns, in a block from lo on, just the strings ts. -/
def OwnS (w : World) (lo : Nat) (s : Value) (ts : List (List UInt8)) : Prop := w.ownsRow lo 9 1 s ts.length (svs ts)
theorem str_info : (Tryd.prog.info? 9).map (fun i => (i.zero, i.size, i.bytes)) = some (some (.string ⟨#[]⟩), 1, 16) := by kernel_rfl
theorem OwnS.lt {w : World} {lo : Nat} {s : Value} {xs : List (List UInt8)} (h : OwnS w lo s xs) : ∀ k, s.ownBlock = some k → lo ≤ k ∧ k < w.heap.size := World.ownsRow.lt h
theorem OwnS.form {w : World} {lo : Nat} {s : Value} {xs : List (List UInt8)} (h : OwnS w lo s xs) : (s = .slice none 0 0 ∧ xs = []) ∨ ∃ g cap, s = .slice (some ⟨g, 0, none⟩) xs.length cap ∧ lo ≤ g ∧ g < w.heap.size := by
  rcases ownsRow_forms h with ⟨e, hn⟩ | ⟨g, cap, e⟩
  · exact .inl ⟨e, List.eq_nil_of_length_eq_zero hn⟩
  · have := OwnS.lt h g (by rw [e]; rfl)
    exact .inr ⟨g, cap, e, this.1, this.2⟩
theorem OwnS.keep {w w' : World} {lo : Nat} {s : Value} {xs : List (List UInt8)} {row : Option Nat} (h : OwnS w lo s xs) (hg : w.grownBy w' row) (hne : s.ownBlock = none ∨ s.ownBlock ≠ row) : OwnS w' lo s xs := World.ownsRow.kept h hg hne
theorem OwnS.below {w w' : World} {lo : Nat} {s : Value} {xs : List (List UInt8)} (h : OwnS w lo s xs) (hb : Below w.heap.size w w') : OwnS w' lo s xs := by
  refine OwnS.keep h (grown_of_below hb) ?_
  cases hs : s.ownBlock
  · exact .inl rfl
  · exact .inr (by simp)
theorem OwnS.mono {w : World} {lo lo' : Nat} {s : Value} {xs : List (List UInt8)} (h : OwnS w lo s xs) (hl : lo' ≤ lo) : OwnS w lo' s xs := ownsRow_le h hl
theorem OwnS.alloc {w : World} {lo : Nat} {s : Value} {xs : List (List UInt8)} (h : OwnS w lo s xs) (o : Obj) : OwnS (w.alloc o) lo s xs := World.ownsRow.alloc h o
theorem OwnS.drewN {w : World} {lo : Nat} {s : Value} {xs : List (List UInt8)} (h : OwnS w lo s xs) (n : Nat) : OwnS (w.drewN n) lo s xs := h
/-- What is owned can be read, with room. -/
theorem OwnS.full {w : World} {lo : Nat} {s : Value} {xs : List (List UInt8)} (h : OwnS w lo s xs) : (s = .slice none 0 0 ∧ xs = []) ∨ ∃ g cap, s = .slice (some ⟨g, 0, none⟩) xs.length cap ∧ lo ≤ g ∧ g < w.heap.size ∧ xs.length ≤ cap ∧ ∀ i, i < xs.length → w.cell? ⟨g, i, none⟩ = some (sv (xs.getD i [])) := by
  have hx := h
  obtain ⟨_, h2⟩ := h
  rcases h2 with ⟨rfl, hn⟩ | ⟨g, cap, cur, rfl, _, _, h3, h4, _, _⟩
  · exact .inl ⟨rfl, List.eq_nil_of_length_eq_zero hn⟩
  · have hl := OwnS.lt hx g rfl
    refine .inr ⟨g, cap, rfl, hl.1, hl.2, h3, fun i hi => ?_⟩
    have := World.ownsRow.cellAt hx i (by omega)
    rw [this]
    simp [svs, List.getD, hi]
theorem ownS_empty (w : World) (n : Nat) (hn : n = w.heap.size) : OwnS (w.alloc (.cells #[] 9)) n (.slice (some ⟨n, 0, none⟩) 0 0) [] := by
  subst hn
  have := World.ownsRow_lit (base := w.heap.size) (e := 9) (size := 1) w #[] 0 (Nat.le_refl _) (by simp [maxLen]) rfl
  simpa [OwnS, svs] using this
-- One string is appended, out of a block of its own.
set_option maxRecDepth 100000 in
theorem wpList_append_str {w : World} {ops : Array Oper} {rest : List Oper} {o : Oper} {a : Act} {Q : Exit → Act → World → Prop} (hgd : o.guard = none) (s x : Operand)
    (ho : o.op = .call { callee := .builtin .append, args := #[s, x], argTypes := #[54, 54] })
    (v : Value) (lo : Nat) (xs : List (List UInt8)) (hs : a.eval s = v) (hown : OwnS w lo v xs)
    (b : Nat) (y : List UInt8) (hx : a.eval x = .slice (some ⟨b, 0, none⟩) 1 1) (hc : w.cell? ⟨b, 0, none⟩ = some (sv y)) (hlen : xs.length + 1 ≤ 4294967296) (hlo : lo ≤ w.heap.size)
    (h : ∀ v' w', OwnS w' lo v' (xs ++ [y]) → w.grownBy w' v.ownBlock → (v'.ownBlock = v.ownBlock ∨ v'.ownBlock = some w.heap.size) → wpList Tryd.prog ops Q rest (a.put o.dst v') w') : wpList Tryd.prog ops Q (o :: rest) a w := by
  obtain ⟨i0, hi, hz0, hz1, hz2⟩ := info_parts str_info
  refine wpList_append_own_at w hgd s x 54 ho lo 9 i0 (.string ⟨#[]⟩) 1 16 Tryd.underlying54 hi hz0 hz1 hz2 rfl (by decide) v xs.length (svs xs) hs hown ⟨b, 0, none⟩ 1 1 [sv y] hx rfl ?_ (by simp [Value.oneCell']) (by simp only [maxLen]; omega) (by omega) hlo ?_
  · intro j u hj
    cases j with
    | zero => simp at hj; subst hj; exact hc
    | succ j => simp at hj
  · intro v' w' ho' hg _ hb
    refine h v' w' ?_ hg hb
    rw [OwnS, List.length_append, svs, List.map_append]
    exact ho'
-- The same at a step of a region that draws.
set_option maxRecDepth 100000 in
theorem step_append_str {w : World} {ops : Array Oper} {o : Oper} {a : Act} {K : Act → World → Prop} {Q : Exit → Act → World → Prop} {E : Prop} (hgd : o.guard = none) (s x : Operand)
    (ho : o.op = .call { callee := .builtin .append, args := #[s, x], argTypes := #[54, 54] })
    (v : Value) (lo : Nat) (xs : List (List UInt8)) (hs : a.eval s = v) (hown : OwnS w lo v xs)
    (b : Nat) (y : List UInt8) (hx : a.eval x = .slice (some ⟨b, 0, none⟩) 1 1) (hc : w.cell? ⟨b, 0, none⟩ = some (sv y)) (hlen : xs.length + 1 ≤ 4294967296) (hlo : lo ≤ w.heap.size)
    (h : ∀ v' w', OwnS w' lo v' (xs ++ [y]) → w.grownBy w' v.ownBlock → (v'.ownBlock = v.ownBlock ∨ v'.ownBlock = some w.heap.size) → K (a.put o.dst v') w') :
    if Region.wanted o (yielded ops a.tmps) = true then Oper.wp Tryd.prog o a w K Q else E := by
  have hw : Region.wanted o (yielded ops a.tmps) = true := by simp [Region.wanted, hgd]
  rw [if_pos hw]
  obtain ⟨i0, hi, hz0, hz1, hz2⟩ := info_parts str_info
  obtain ⟨v', w', hr, h2, h3, _, h5⟩ := run_append_own_at (P := Tryd.prog) w lo 54 o.type 9 i0 (.string ⟨#[]⟩) 1 16 Tryd.underlying54 hi hz0 hz1 hz2 rfl (by decide) v xs.length (svs xs) hown ⟨b, 0, none⟩ 1 1 [sv y] rfl (fun j u hj => by
    cases j with
    | zero => simp at hj; subst hj; exact hc
    | succ j => simp at hj) (by simp [Value.oneCell']) (by simp only [maxLen]; omega) (by omega) hlo
  unfold Oper.wp execOp
  simp only [ho, resolve, invoke, builtin, Sem.run_bind, Sem.run_pure, Result.andThen_ok, List.map_toArray, List.map_cons, List.map_nil, hs, hx, hr]
  refine h v' w' ?_ h3 h5
  rw [OwnS, List.length_append, svs, List.map_append]
  exact h2
theorem belowS_of_grown {w w' : World} {lo : Nat} {v : Value} {xs : List (List UInt8)} (ho : OwnS w lo v xs) (hg : w.grownBy w' v.ownBlock) (hl : lo ≤ w.heap.size) : Below lo w w' :=
  (Below.refl lo w).grown hg hl (fun k hk => (OwnS.lt ho k hk).1)
/-- strings.Join of an own slice, at one byte. -/
theorem joinS (w : World) (lo : Nat) (s : Value) (ts : List (List UInt8)) (sep : List UInt8) (h : OwnS w lo s ts) (hn : ts.length ≤ 1048576) (hl : (Lib.join ts sep).length ≤ 140737488355328) :
    Calls Tryd.prog 50 #[s, sv sep] w fun e w' => e = .returned (sv (Lib.join ts sep)) ∧ Below w.heap.size w w' := by
  rcases OwnS.full h with ⟨rfl, rfl⟩ | ⟨g, cap, rfl, _, hg, hcap, hc⟩
  · exact (Tryd.strings_Join_none none 0 ⟨sep.toArray⟩ w).mono fun e w' ⟨he, hw⟩ => ⟨he, hw ▸ Below.refl _ _⟩
  · have hm : (ts.map fun t => (⟨t.toArray⟩ : ByteArray)).map (fun x => x.data.toList) = ts := by
      rw [List.map_map]
      conv => rhs; rw [← List.map_id ts]
      congr 1
    have := Tryd.strings_Join g 0 cap (ts.map fun t => (⟨t.toArray⟩ : ByteArray)) ⟨sep.toArray⟩ w (fun j x hj => by
      rw [List.getElem?_map, Option.map_eq_some_iff] at hj
      obtain ⟨t, ht, rfl⟩ := hj
      have hjl := (List.getElem?_eq_some_iff.1 ht).1
      rw [Nat.zero_add, hc j hjl]
      simp [List.getD, ht]) hg (by rw [List.length_map]; omega) (by rw [List.length_map]; omega) (by rw [hm]; exact hl)
    rw [hm, List.length_map] at this
    exact this
end Go.Proofs.YtkaiekhmcjojoaaDoor
