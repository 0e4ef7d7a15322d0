/- For the second form: what the bound gives of a list of bytes. No condition. -/
import Derived.Test.YtpbaojjcbpfdaaaRow
import Derived.JoinedCond
namespace Go.Proofs.Ytpbaojjcbpfdaaa
open Go.ChangeShapes Go.WideShapes Go.ChangeAt Go.RowKit Go.Joins

theorem bulk_one {H : Type} (d : DataW H) : 1 ≤ Rows.uptoBulk d := by
  cases d with
  | lit l => cases l <;> simp [Rows.uptoBulk]
  | nil => simp [Rows.uptoBulk]
  | ptr d => simp [Rows.uptoBulk]
  | slice elems spare => simp [Rows.uptoBulk]
  | agg parts => simp [Rows.uptoBulk]
  | iface t d => simp [Rows.uptoBulk]
  | map entries => simp [Rows.uptoBulk]
  | held h => simp [Rows.uptoBulk]

theorem bulk_mem {H : Type} {d : DataW H} {l : List (DataW H)} (h : d ∈ l) : Rows.uptoBulk d ≤ Rows.uptoBulkAll l := by
  induction l with
  | nil => cases h
  | cons x r ih =>
    simp only [Rows.uptoBulkAll]
    cases List.mem_cons.1 h with
    | inl e => subst e; omega
    | inr e => have := ih e; omega

theorem bulk_length {H : Type} (l : List (DataW H)) : l.length ≤ Rows.uptoBulkAll l := by
  induction l with
  | nil => simp [Rows.uptoBulkAll]
  | cons x r ih => have := bulk_one x; simp only [Rows.uptoBulkAll, List.length_cons]; omega

theorem bulk_slice {H : Type} (elems spare : List (DataW H)) : elems.length + spare.length + 1 ≤ Rows.uptoBulk (.slice elems spare) := by
  have h1 := bulk_length elems
  have h2 := bulk_length spare
  simp only [Rows.uptoBulk]
  omega

theorem bulk_bound {H : Type} {l : List (DataW H)} (hk : Rows.uptoSmall H l = true) : Rows.uptoBulkAll l ≤ 1048576 := of_decide_eq_true hk

theorem came_bulk {H : Type} {enc : TypeId × Value → H} {P : Program} {t e : TypeId} {W : World} {v : Value} {d : DataW H} {ps : List MemPlace} {r : Reach} {b0 : Nat} (ht : P.underlying t = some (.slice e)) (he : P.underlying e = some (.int .u8)) (hc : P.cellsOf e = 1)
    (hval : Value.okWide P W r b0 t v) (h : DataW.Trod enc P W 0 (fun _ => true) true t v d ps) :
    ∃ (A : Option Addr) (n c : Nat) (f : Nat → UInt8), v = .slice A n c ∧ n ≤ c ∧ c + 1 ≤ Rows.uptoBulk d ∧ Sl W A c (byteV f) ∧ (A = none → c = 0) := by
  obtain ⟨A, n, c, zs, rfl, hnc, hcm, hzl, hsl, hwf, hnil, hsome⟩ := came_ints ht he hc hval h
  refine ⟨A, n, c, fun i => UInt8.ofNat (zs.getD i 0).toNat, rfl, hnc, ?_, hsl.congr fun i hi => ?_, fun h => (hnil h).1⟩
  · by_cases hAn : A = none
    · obtain ⟨h, _⟩ := hnil hAn
      have := bulk_one d
      omega
    · obtain rfl := hsome hAn
      have := bulk_slice (H := H) (lits .u8 (zs.take n)) (lits .u8 (zs.drop n))
      simp only [lits, List.length_map, List.length_take, List.length_drop] at this ⊢
      omega
  · have hw := bounds_u8 (hwf (zs.getD i 0) (by simp [List.getD, show i < zs.length by omega]))
    show Value.int .u8 (zs.getD i 0) = Value.int .u8 ((UInt8.ofNat (zs.getD i 0).toNat).toNat : Int)
    congr 1
    rw [UInt8.toNat_ofNat']
    omega
end Go.Proofs.Ytpbaojjcbpfdaaa
