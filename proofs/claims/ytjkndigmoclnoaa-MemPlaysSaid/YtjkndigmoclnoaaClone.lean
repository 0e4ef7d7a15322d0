/- bytes.Clone: the contract. No condition. -/
import Derived.Test.YtjkndigmoclnoaaProg
import Derived.Test.YtjkndigmoclnoaaBase3
import Derived.Lib.SliceRun
namespace Go.Proofs.Ytjkndigmoclnoaa
open Go.RowKit

theorem Try.info5 : (Try.prog.info? 5).map (fun i => (i.zero, i.size, i.bytes)) = some (some (.int .u8 0), 1, 1) := by kernel_rfl

set_option maxHeartbeats 400000 in
theorem clone_some (b o n c : Nat) (v : Nat → UInt8) (w : World) (hn : n ≤ 140737488351232) (hA : Sl w (some ⟨b, o, none⟩) n (byteV v)) :
    Calls Try.prog 31 #[.slice (some ⟨b, o, none⟩) n c] w fun e w' => ∃ g cap, e = .returned (.slice (some ⟨g, 0, none⟩) n cap) ∧ Own w' w.heap.size 5 1 IsByte (.slice (some ⟨g, 0, none⟩) n cap) n (byteV v) ∧ Kept S0 w w' := by
  have q := fun (w : World) (a : Option Addr) (n c n' c' : Nat) => Lib.run_eql_slice_nil (P := Try.prog) w 36 5 a n c n' c' Try.underlying36
  have hown : Own (w.alloc (.cells #[] 5)) w.heap.size 5 1 IsByte (.slice (some ⟨w.heap.size, 0, none⟩) 0 0) 0 (byteV v) :=
    .inr ⟨w.heap.size, 0, fun _ => undef, rfl, Nat.le_refl _, Nat.le_refl _, Nat.zero_le _, ⟨#[], heap_alloc_new w _, rfl, fun i hi => absurd hi (by omega)⟩, fun i hi => absurd hi (by omega), fun i hi => absurd hi (by omega)⟩
  have hsl : Sl (w.alloc (.cells #[] 5)) (some ⟨b, o, none⟩) (n * 1) (byteV v) := by
    rw [Nat.mul_one]
    exact (hA.slb.kept ((Kept.refl S0 w).alloc _) (Nat.le_refl _) (fun _ h => h.elim)).sl
  go_enter Try.func31, Try.ntmps31
  go_wp2_with (at_builtin; refine wpList_append_all rfl (.tmp 5) (.tmp 6) 36 rfl w.heap.size 5 (.int .u8 0) 1 1 Try.underlying36 Try.info5 rfl (by decide) IsByte (fun u hu => ⟨0, by simpa [Value.cells] using hu⟩) _ 0 (byteV v) rfl hown (some ⟨b, o, none⟩) n c (byteV v) rfl hsl (fun h => by cases h) (fun j _ => byteV_is v j) (fun _ _ => rfl) (by unfold maxLen; omega) (by omega) (by simp) ?_)
  intro v' w' ha
  have H1 := Lib.hid ha
  obtain ⟨A', c', rfl, _⟩ := ha.own.out
  have hk : Kept S0 w w' := ((Kept.refl S0 w).alloc (.cells #[] 5)).grown ha.grown (fun k hk => by cases hk; exact .inr (Nat.le_refl _))
  have HK := Lib.hid hk
  clear hk ha
  go_wp2
  go_ret
  obtain ⟨g, rfl⟩ : ∃ g, A' = some ⟨g, 0, none⟩ := by
    rcases H1.out.own with ⟨e, hz⟩ | ⟨g, cap, fr, e, _⟩
    · exact absurd (H1.out.nil (by rw [e])) (by rintro ⟨h, _⟩; cases h)
    · cases e; exact ⟨g, rfl⟩
  refine ⟨g, c', by simp, ?_, HK.out⟩
  exact H1.out.own.congr (fun i hi => by simp [after])
end Go.Proofs.Ytjkndigmoclnoaa
