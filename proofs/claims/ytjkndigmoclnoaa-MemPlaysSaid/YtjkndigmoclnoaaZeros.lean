/- append(s, make([]byte, m)...) onto an owned slice. No condition. -/
import Derived.Test.YtjkndigmoclnoaaBase3
import Derived.Lib.AppendZerosOnto
namespace Go.Proofs.Ytjkndigmoclnoaa
open Go.RowKit

section
variable {P : Program}
theorem zeros_get {z : Value} {m j : Nat} (h : j < m) : (Builtin.zeroCells #[z] m)[j]? = some z := by
  obtain ⟨u, hu, hm⟩ := zeroCells_get #[z] m j (by simp) (by simpa using h)
  rw [hu]
  simp at hm
  rw [hm]

theorem run_append_zeros (w : World) (base t tn ty e : TypeId) (i : TypeInfo) (z : Value) (kq kn : IntKind) (ht : P.underlying t = some (.slice e)) (htn : P.underlying tn = some (.int kn)) (hi : P.info? e = some i) (hz : i.zero = some z)
    (hsize : i.size = 1) (hby : i.bytes = 1) (hz1 : z.cells = #[z]) (h1z : z.oneCell' = true) (Q : Value → Prop) (hQz : Q z)
    (v : Value) (n : Nat) (F : Nat → Value) (hown : Own w base e 1 Q v n F) (m : Nat) (h63 : n + m ≤ maxLen) (hbytes : n + m ≤ 140737488355328) (hbase : base ≤ w.heap.size) :
    ∃ v' w', (Builtin.append_ #[t, tn] ty #[v, .int kq (m : Int)]).run P w = .ok v' w' ∧ Own w' base e 1 Q v' (n + m) (after n F (fun _ => z)) ∧ w.grownBy w' v.ownBlock ∧
      (v'.ownBlock = v.ownBlock ∨ v'.ownBlock = some w.heap.size) := by
  have hsmall : n + m ≤ 9223372036854775807 := by simp only [maxLen] at h63; omega
  have hw : IntKind.i64.wrap (m : Int) = m := by rw [IntKind.wrap_i64]; omega
  have h48i : ¬ (281474976710656 < (m : Int)) := by omega
  have hneg : ¬ ((m : Int) < 0) := by omega
  by_cases hm : m = 0
  · subst hm
    have hcongr : ∀ j, j < n * 1 → F j = after n F (fun _ => z) j := fun j hj => by unfold after; rw [if_pos (by omega)]
    have hw0 : IntKind.i64.wrap 0 = 0 := by decide
    refine ⟨v, w, ?_, hown.congr hcongr, ⟨rfl, rfl, rfl, Nat.le_refl _, fun _ _ _ => rfl⟩, .inl rfl⟩
    rcases hown with ⟨rfl, rfl⟩ | ⟨g, cap, fr, rfl, _, hnc, _⟩
    · simp [Builtin.append_, run_underlying ht, run_underlying htn, sizeOf, typeInfo, hi, asInt, asIntOf, hw0]
    · simp [Builtin.append_, run_underlying ht, run_underlying htn, sizeOf, typeInfo, hi, asInt, asIntOf, hw0, hnc, storeCells]
  · have hns : ¬ (m * i.size = 0) := by rw [hsize]; omega
    have grown : ∀ (old : Nat) (xs : List Value), xs.length = n → (∀ j, j < n → xs[j]? = some (F j)) → (∀ j, j < n → Q (F j)) → ∀ (row : Option Nat),
        Own (w.drew.alloc (.cells (xs.toArray ++ Builtin.zeroCells #[z] m ++ Builtin.zeroCells #[z] (grownCap w (n + m) old e - (n + m))) e)) base e 1 Q
          (.slice (some ⟨w.heap.size, 0, none⟩) (n + m) (grownCap w (n + m) old e)) (n + m) (after n F (fun _ => z)) ∧
        w.grownBy (w.drew.alloc (.cells (xs.toArray ++ Builtin.zeroCells #[z] m ++ Builtin.zeroCells #[z] (grownCap w (n + m) old e - (n + m))) e)) row := by
      intro old xs hxl hxs hxq row
      have hge := grownCap_ge w (n + m) old e
      have hcm : grownCap w (n + m) old e ≤ maxLen := grownCap_le_maxLen w (n + m) old e h63
      generalize hC : grownCap w (n + m) old e = C at *
      have hsz2 : (xs.toArray ++ Builtin.zeroCells #[z] m ++ Builtin.zeroCells #[z] (C - (n + m))).size = C * 1 := by
        simp only [Array.size_append, List.size_toArray, size_zeroCells, hxl]
        simp
        omega
      have hcell : ∀ j, j < C → ∃ u, (xs.toArray ++ Builtin.zeroCells #[z] m ++ Builtin.zeroCells #[z] (C - (n + m)))[j]? = some u ∧ (j < n + m → u = after n F (fun _ => z) j) ∧ Q u := by
        intro j hj
        by_cases hj1 : j < n
        · refine ⟨F j, ?_, fun _ => by unfold after; rw [if_pos hj1], hxq j hj1⟩
          rw [Array.append_assoc, Array.getElem?_append_left (by simpa [hxl] using hj1)]
          simpa using hxs j hj1
        · by_cases hj2 : j < n + m
          · refine ⟨z, ?_, fun _ => by unfold after; rw [if_neg hj1], hQz⟩
            rw [Array.getElem?_append_left (by simp [hxl, size_zeroCells]; omega), Array.getElem?_append_right (by simp [hxl]; omega)]
            exact zeros_get (by simp [hxl]; omega)
          · refine ⟨z, ?_, fun h => absurd h hj2, hQz⟩
            rw [Array.getElem?_append_right (by simp [hxl, size_zeroCells]; omega)]
            exact zeros_get (by simp [hxl, size_zeroCells]; omega)
      refine ⟨.inr ⟨w.heap.size, C, fun j => ((xs.toArray ++ Builtin.zeroCells #[z] m ++ Builtin.zeroCells #[z] (C - (n + m)))[j]?).getD undef, rfl, hbase, hge, hcm, ⟨_, heap_alloc_new w.drew _, hsz2, fun j hj => ?_⟩, fun j hj => ?_, fun j hj => ?_⟩, ⟨rfl, rfl, rfl, by simp, fun k hk _ => Below.heap_alloc w.drew _ k hk⟩⟩
      · obtain ⟨u, hu, _⟩ := hcell j (by omega)
        simp only [hu, Option.getD_some]
      · obtain ⟨u, hu, he, _⟩ := hcell j (by omega)
        simp only [hu, Option.getD_some]
        exact he (by omega)
      · obtain ⟨u, hu, _, hq⟩ := hcell j (by omega)
        simp only [hu, Option.getD_some]
        exact hq
    rcases hown with ⟨rfl, rfl⟩ | ⟨g, cap, fr, rfl, hbg, hnc, hcm, hrow, hF, hQF⟩
    · have hr := Lib.run_append_nil_zeros (P := P) w t tn ty e i z kq kn ht htn hi hz m (by omega) (by omega) (by omega) (by rw [hby]; omega)
      have hgr := grown 0 [] (by simp) (fun j hj => absurd hj (by omega)) (fun j hj => absurd hj (by omega)) (Value.ownBlock (.slice none 0 0))
      rw [hz1] at hr
      simp only [Nat.zero_add, Array.empty_append] at hgr ⊢
      exact ⟨_, _, hr, hgr.1, hgr.2, .inr rfl⟩
    · obtain ⟨cur, hg, hcs, hcur⟩ := hrow
      rw [Nat.mul_one] at hcs
      simp only [Nat.mul_one] at hcur hF hQF
      by_cases hroom : n + m ≤ cap
      · have hst := run_storeCells_at P g n e (Builtin.zeroCells #[z] m).toList 0 cur w hg (by simp [size_zeroCells]; omega) (fun u hu => by
          have hu' : u ∈ Builtin.zeroCells #[z] m := by simpa using hu
          obtain ⟨j, hj, rfl⟩ := Array.mem_iff_getElem.1 hu'
          have hj' : j < m := by simpa [size_zeroCells] using hj
          have h2 := zeros_get (z := z) hj'
          rw [Array.getElem?_eq_getElem hj] at h2
          rw [Option.some.inj h2]; exact h1z)
        simp only [Nat.add_zero, Array.length_toList, size_zeroCells, List.size_toArray, List.length_cons, List.length_nil, Nat.zero_add, Nat.mul_one] at hst
        have hr : (Builtin.append_ #[t, tn] ty #[.slice (some ⟨g, 0, none⟩) n cap, .int kq (m : Int)]).run P w = .ok (.slice (some ⟨g, 0, none⟩) (n + m) cap) (w.setRow g (cur.toList.take n ++ (Builtin.zeroCells #[z] m).toList ++ cur.toList.drop (n + m)).toArray) := by
          simp [Builtin.append_, run_underlying ht, run_underlying htn, sizeOf, typeInfo, zeroValue, hi, hz, asInt, asIntOf, hw, hm, hneg, hsize, hby, h48i, hroom, hz1, Addr.add_lit, hst]
        have hmin : min n cap = n := by omega
        refine ⟨_, _, hr, .inr ⟨g, cap, fun j => if j < n then fr j else if j < n + m then z else fr j, rfl, hbg, hroom, hcm, ⟨_, setRow_heap w g cur _ e _ hg, ?_, fun j hj => ?_⟩, fun j hj => ?_, fun j hj => ?_⟩, ⟨rfl, rfl, rfl, by simp, fun k _ hk => setRow_other w g k _ (fun e => hk (by simp [Value.ownBlock, e]))⟩, .inl rfl⟩
        · simp only [List.size_toArray, List.length_append, List.length_take, List.length_drop, Array.length_toList, hcs, size_zeroCells]
          simp
          omega
        · rw [Nat.mul_one] at hj
          simp only [List.getElem?_toArray]
          by_cases hj1 : j < n
          · rw [if_pos hj1, List.append_assoc, List.getElem?_append_left (by simp only [List.length_take, Array.length_toList, hcs, hmin]; exact hj1), List.getElem?_take, if_pos hj1]
            simpa using hcur j hj
          · rw [if_neg hj1]
            by_cases hj2 : j < n + m
            · rw [if_pos hj2, List.getElem?_append_left (by simp [hcs, size_zeroCells, hmin]; omega), List.getElem?_append_right (by simp only [List.length_take, Array.length_toList, hcs, hmin]; omega)]
              simp only [List.length_take, Array.length_toList, hcs, hmin, Array.getElem?_toList]
              exact zeros_get (by omega)
            · rw [if_neg hj2, List.getElem?_append_right (by simp [hcs, size_zeroCells, hmin]; omega)]
              simp only [List.length_append, List.length_take, Array.length_toList, hcs, List.getElem?_drop, size_zeroCells, hmin, List.size_toArray, List.length_cons, List.length_nil, Nat.zero_add, Nat.mul_one]
              rw [show n + m + (j - (n + m)) = j by omega]
              simpa using hcur j hj
        · rw [Nat.mul_one] at hj
          by_cases hj1 : j < n
          · simp only [after]; rw [if_pos hj1, if_pos hj1]; exact hF j hj1
          · simp only [after]; rw [if_neg hj1, if_neg hj1, if_pos hj]
        · rw [Nat.mul_one] at hj
          by_cases hj1 : j < n
          · show Q (if _ then _ else _); rw [if_pos hj1]; exact hQF j hj
          · show Q (if _ then _ else _); rw [if_neg hj1]
            by_cases hj2 : j < n + m
            · rw [if_pos hj2]; exact hQz
            · rw [if_neg hj2]; exact hQF j hj
      · have hxs : ∀ j, j < n → (rng n F)[j]? = some (F j) := fun j hj => rng_get hj
        have holds : ∀ j u, (rng n F)[j]? = some u → w.drew.cell? ((⟨g, 0, none⟩ : Addr).add j) = some u := by
          intro j u hu
          obtain ⟨hj, rfl⟩ := rng_some hu
          have h2 : w.cell? ((⟨g, 0, none⟩ : Addr).add j) = some (F j) := by rw [Addr.add_lit, Nat.zero_add, cell_of_row w g j cur e (0, 0) hg, hcur j (by omega), hF j hj]
          exact h2
        have hfc := run_firstCells_some (P := P) w.drew i.size n ⟨g, 0, none⟩ n cap (rng n F) (by rw [length_rng, hsize, Nat.mul_one]) holds
        have hr := Lib.run_append_grow_zeros (P := P) w t tn ty e i z kq kn ht htn hi hz (some ⟨g, 0, none⟩) n cap _ hfc m (by omega) (by omega) (by omega) (by omega) (by rw [hby]; omega) (growslice_fits (by omega) (by rw [hby]; omega))
        have hgr := grown cap _ (length_rng _ _) hxs (fun j hj => by rw [← hF j hj]; exact hQF j (by omega)) (Value.ownBlock (.slice (some ⟨g, 0, none⟩) n cap))
        rw [hz1] at hr
        exact ⟨_, _, hr, hgr.1, hgr.2, .inr rfl⟩
end
end Go.Proofs.Ytjkndigmoclnoaa
