/- The text of a list of numbers: the reference's walk. -/
import Derived.Test.YtkaiekhmcjojoaaDoorFmtR
import Derived.Test.YtkaiekhmcjojoaaDoorMatW
import Derived.Test.YtkaiekhmcjojoaaDoorOpen
namespace Go.Proofs.YtkaiekhmcjojoaaDoor
set_option linter.unusedSimpArgs false
set_option linter.unusedVariables false
open Go.RowKit Go.ChangeShapes Go.WideShapes
theorem open_SlIB {H : Type} {enc : TypeId × Value → H} {P : Program} {w : World} {base : Nat} {spare : Nat → Bool} {held : Bool} {fuel : Nat} {t e : TypeId} {v : Value} {y : DataW H × List MemPlace}
    (hc : P.cellsOf e = 1) (ht : P.underlying t = some (.slice e)) (he : P.underlying e = some (.int .i64)) (h : DataW.trod enc P w base spare held fuel t [v] = some y) :
    ∃ A n cap xs, v = .slice A n cap ∧ SlArg w A n cap xs ∧ ∀ x ∈ xs, isI64 x := by
  rcases open_ints ht he hc h with ⟨hcs, _⟩ | ⟨a, len, cap, zs, hcs, _, hl, hm, hz, _, hcell, hwf⟩
  · simp only [List.cons.injEq, and_true] at hcs
    exact ⟨none, 0, 0, [], hcs, ⟨rfl, by simp, SlI.nil⟩, fun x hx => by cases hx⟩
  · simp only [List.cons.injEq, and_true] at hcs
    have hzl : len ≤ zs.length := by rw [hz]; split <;> omega
    refine ⟨some a, len, cap, zs.take len, hcs, ⟨by simp; omega, by simp; omega, fun hp => ?_⟩, fun x hx => bounds_i64 (hwf x (List.mem_of_mem_take hx))⟩
    simp only [List.length_take] at hp
    have h0 := hcell 0 (by omega)
    obtain ⟨b, off, spot⟩ := a
    have hspot : spot = none := by simpa [Addr.add] using World.cell?_spot h0
    subst hspot
    refine ⟨b, off, rfl, fun i hi => ?_⟩
    simp only [List.length_take] at hi
    have h1 := hcell i (by omega)
    have : (zs.take len).getD i 0 = zs.getD i 0 := by simp [List.getD, List.getElem?_take, show i < len from by omega]
    rw [this, ← h1]
    congr 1
    unfold Addr.add
    split <;> simp_all
theorem intsT_take_len {xs : List Int} (h : ∀ x ∈ xs, isI64 x) (hn : xs.length ≤ 1048576) (k : Nat) : (intsT (xs.take k)).length ≤ 23068672 := by
  have h1 := intsT_len (xs := xs.take k) (fun x hx => h x (List.mem_of_mem_take hx))
  have h2 : (xs.take k).length ≤ xs.length := by rw [List.length_take]; omega
  omega
theorem intsT_first {xs : List Int} {k : Nat} {x : Int} {l : List UInt8} (h : k < xs.length) (hk : k = 0) (hl : intsT (xs.take k) = l) (hx : xs.getD k 0 = x) :
    Value.string ((⟨l.toArray⟩ : ByteArray) ++ (⟨(Lib.itoa x).toArray⟩ : ByteArray)) = sv (intsT (xs.take (k + 1))) := by
  rw [intsT_take h, if_pos hk, hx, bs_append]
  subst hk
  rw [← hl]
  rfl
theorem intsT_next {xs : List Int} {k : Nat} {x : Int} {l : List UInt8} (h : k < xs.length) (hk : ¬ k = 0) (hl : intsT (xs.take k) = l) (hx : xs.getD k 0 = x) :
    Value.string ((⟨l.toArray⟩ : ByteArray) ++ (⟨#[32]⟩ : ByteArray) ++ (⟨(Lib.itoa x).toArray⟩ : ByteArray)) = sv (intsT (xs.take (k + 1))) := by
  rw [intsT_take h, if_neg hk, hx, hl, show (⟨#[32]⟩ : ByteArray) = ⟨([32] : List UInt8).toArray⟩ from rfl, bs_append, bs_append]
end Go.Proofs.YtkaiekhmcjojoaaDoor
