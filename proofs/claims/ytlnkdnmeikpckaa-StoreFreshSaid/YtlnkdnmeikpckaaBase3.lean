/- A slice that the call itself owns, its cells told by a function; append onto it, whatever the source. No condition. -/
import Derived.Test.YtlnkdnmeikpckaaBase2
import Derived.Laws.Append
import Derived.Laws.AppendOwn
namespace Go.Proofs.Ytlnkdnmeikpckaa
open Go.RowKit

/-- An owned slice: nil, or the head of a block from 'base' on; its cells are F's; all cells of its block are Q's. -/
def Own (w : World) (base e size : Nat) (Q : Value → Prop) (v : Value) (n : Nat) (F : Nat → Value) : Prop :=
  (v = .slice none 0 0 ∧ n = 0) ∨
  ∃ g cap fr, v = .slice (some ⟨g, 0, none⟩) n cap ∧ base ≤ g ∧ n ≤ cap ∧ cap ≤ maxLen ∧ w.rowIs g e (cap * size) fr ∧ (∀ i, i < n * size → fr i = F i) ∧ (∀ i, i < cap * size → Q (fr i))

def IsByte (v : Value) : Prop := ∃ c : UInt8, v = .int .u8 (c.toNat : Int)
def byteV (f : Nat → UInt8) : Nat → Value := fun i => .int .u8 ((f i).toNat : Int)
theorem byteV_is (f : Nat → UInt8) (i : Nat) : IsByte (byteV f i) := ⟨f i, rfl⟩

/-- A function's cells as a list. -/
def rng (n : Nat) (F : Nat → Value) : List Value := (List.range n).map F
theorem length_rng (n : Nat) (F : Nat → Value) : (rng n F).length = n := by simp [rng]
theorem rng_get {n : Nat} {F : Nat → Value} {j : Nat} (h : j < n) : (rng n F)[j]? = some (F j) := by simp [rng, h]
theorem rng_some {n : Nat} {F : Nat → Value} {j : Nat} {u : Value} (h : (rng n F)[j]? = some u) : j < n ∧ u = F j := by
  have hj : j < n := by have := (List.getElem?_eq_some_iff.1 h).1; rwa [length_rng] at this
  rw [rng_get hj] at h
  exact ⟨hj, (Option.some.inj h).symm⟩
theorem rng_mem {n : Nat} {F : Nat → Value} {P : Value → Prop} (h : ∀ i, i < n → P (F i)) : ∀ u ∈ rng n F, P u := by
  intro u hu
  obtain ⟨i, hi, rfl⟩ := List.mem_map.1 hu
  exact h i (List.mem_range.1 hi)

/-- One list of cells behind another one. -/
def after (n : Nat) (F V : Nat → Value) : Nat → Value := fun i => if i < n then F i else V (i - n)

section
variable {w w' : World} {base e size n : Nat} {Q : Value → Prop} {v : Value} {F : Nat → Value}
theorem Own.nil (w : World) (base e size : Nat) (Q : Value → Prop) (F : Nat → Value) : Own w base e size Q (.slice none 0 0) 0 F := .inl ⟨rfl, rfl⟩
theorem Own.congr {G : Nat → Value} (h : Own w base e size Q v n F) (he : ∀ i, i < n * size → F i = G i) : Own w base e size Q v n G := by
  rcases h with h | ⟨g, cap, fr, h1, h2, h3, h4, h5, h6, h7⟩
  · exact .inl h
  · exact .inr ⟨g, cap, fr, h1, h2, h3, h4, h5, fun i hi => (h6 i hi).trans (he i hi), h7⟩
theorem Own.mono {b : Nat} (h : Own w base e size Q v n F) (hb : b ≤ base) : Own w b e size Q v n F := by
  rcases h with h | ⟨g, cap, fr, h1, h2, r⟩
  · exact .inl h
  · exact .inr ⟨g, cap, fr, h1, by omega, r⟩
theorem Own.kept {S : Nat → Prop} (h : Own w base e size Q v n F) (hk : Kept S w w') (hS : ∀ g, v.ownBlock = some g → ¬ S g) : Own w' base e size Q v n F := by
  rcases h with h | ⟨g, cap, fr, rfl, h2, h3, h4, h5, r⟩
  · exact .inl h
  · exact .inr ⟨g, cap, fr, rfl, h2, h3, h4, hk.row h5 (hS g rfl), r⟩
theorem Own.lt (h : Own w base e size Q v n F) : ∀ g, v.ownBlock = some g → base ≤ g ∧ g < w.heap.size := by
  rcases h with ⟨rfl, _⟩ | ⟨g, cap, fr, rfl, h2, h3, h4, h5, r⟩
  · intro g h; simp [Value.ownBlock] at h
  · intro g' h
    obtain rfl : g = g' := by simpa [Value.ownBlock] using h
    exact ⟨h2, h5.lt⟩
theorem Own.ne_blk {g t : Nat} {cs : Array Value} (h : Own w base e size Q v n F) (hb : Blk w g t cs) (hne : e ≠ t) : v.ownBlock ≠ some g := by
  intro he
  rcases h with ⟨rfl, _⟩ | ⟨g', cap, fr, rfl, _, _, _, hr, _⟩
  · simp [Value.ownBlock] at he
  · have : g' = g := by simpa [Value.ownBlock] using he
    exact Row.ne hr hb hne this
/-- The value, written out. -/
theorem Own.out (h : Own w base e size Q v n F) : ∃ A c, v = .slice A n c ∧ n ≤ c ∧ c ≤ maxLen ∧ Sl w A (n * size) F := by
  rcases h with ⟨rfl, rfl⟩ | ⟨g, cap, fr, rfl, h2, h3, h4, h5, h6, h7⟩
  · exact ⟨none, 0, rfl, Nat.le_refl _, Nat.zero_le _, fun h => absurd h (by omega)⟩
  · exact ⟨_, cap, rfl, h3, h4, (Sl.of_row h5 (Nat.mul_le_mul_right _ h3)).congr h6⟩
theorem Own.made {w : World} {z : Value} {t : Nat} (hb : base ≤ w.heap.size) (hz : Q z) (n : Nat) (hn : n ≤ maxLen) : Own (w.alloc (.cells (madeCells #[z] n) t)) base t 1 Q (.slice (some ⟨w.heap.size, 0, none⟩) n n) n (fun _ => z) :=
  .inr ⟨w.heap.size, n, fun _ => z, rfl, hb, Nat.le_refl _, hn, by rw [Nat.mul_one]; exact World.rowIs_made w z n t, fun _ _ => rfl, fun _ _ => hz⟩
end

theorem zeroCells_get (z : Array Value) (n j : Nat) (hz : 0 < z.size) (h : j < n * z.size) : ∃ u, (Builtin.zeroCells z n)[j]? = some u ∧ u ∈ z := by
  refine ⟨z[j % z.size]!, ?_, ?_⟩
  · simp [Builtin.zeroCells, h]
  · have hj : j % z.size < z.size := Nat.mod_lt _ hz
    rw [getElem!_pos z _ hj]
    exact Array.getElem_mem hj

section
variable {P : Program}
theorem run_append_all (w : World) (base t ty e : TypeId) (i : TypeInfo) (z : Value) (size bytes : Nat) (ht : P.underlying t = some (.slice e)) (hi : P.info? e = some i) (hz : i.zero = some z)
    (hsize : i.size = size) (hby : i.bytes = bytes) (hzs : z.cells.size = size) (hsz : 0 < size) (Q : Value → Prop) (hQz : ∀ u ∈ z.cells, Q u)
    (v : Value) (n : Nat) (F : Nat → Value) (hown : Own w base e size Q v n F)
    (A : Option Addr) (m c : Nat) (V : Nat → Value) (hA : Sl w A (m * size) V) (hA0 : A = none → m = 0) (hQ : ∀ j, j < m * size → Q (V j)) (h1 : ∀ j, j < m * size → (V j).oneCell' = true)
    (h63 : n + m ≤ maxLen) (hbytes : (n + m) * bytes ≤ 140737488355328) (hbase : base ≤ w.heap.size) :
    ∃ v' w', (Builtin.append_ #[t, t] ty #[v, .slice A m c]).run P w = .ok v' w' ∧ Own w' base e size Q v' (n + m) (after (n * size) F V) ∧ w.grownBy w' v.ownBlock ∧
      (v'.ownBlock = v.ownBlock ∨ v'.ownBlock = some w.heap.size) ∧ (v' = .slice none 0 0 → v = .slice none 0 0 ∧ m = 0) := by
  subst hsize
  subst hby
  have hsmall : n + m ≤ 9223372036854775807 := by simp only [maxLen] at h63; omega
  by_cases hm : m = 0
  · subst hm
    have hcongr : ∀ j, j < n * i.size → F j = after (n * i.size) F V j := fun j hj => by unfold after; rw [if_pos hj]
    refine ⟨v, w, ?_, hown.congr hcongr, ⟨rfl, rfl, rfl, Nat.le_refl _, fun _ _ _ => rfl⟩, .inl rfl, fun h => ⟨h, rfl⟩⟩
    rcases hown with ⟨rfl, rfl⟩ | ⟨g, cap, fr, rfl, _, hnc, _⟩
    · cases A <;> simp [Builtin.append_, run_underlying ht, sizeOf, typeInfo, hi, Builtin.lenOf, Builtin.firstCells, loadCells, loadCellsFrom]
    · cases A <;> simp [Builtin.append_, run_underlying ht, sizeOf, typeInfo, hi, Builtin.lenOf, Builtin.firstCells, hnc, storeCells, loadCells, loadCellsFrom]
  · have hpos : 0 < m * i.size := Nat.mul_pos (by omega) hsz
    obtain ⟨b, o, rfl, hc⟩ := hA hpos
    have hl : (rng (m * i.size) V).length = m * i.size := length_rng _ _
    have hnews : ∀ j u, (rng (m * i.size) V)[j]? = some u → w.cell? ((⟨b, o, none⟩ : Addr).add j) = some u := by
      intro j u hu
      obtain ⟨hj, rfl⟩ := rng_some hu
      rw [Addr.add_lit]
      exact hc j hj
    have h1' : ∀ u ∈ rng (m * i.size) V, u.oneCell' = true := rng_mem h1
    -- a new array, whatever was there before
    have grown : ∀ (old : Nat) (xs : List Value), xs.length = n * i.size → (∀ j, j < n * i.size → xs[j]? = some (F j)) → (∀ j, j < n * i.size → Q (F j)) → ∀ (row : Option Nat),
        Own (w.drew.alloc (.cells (xs.toArray ++ (rng (m * i.size) V).toArray ++ Builtin.zeroCells z.cells (grownCap w (n + m) old e - (n + m))) e)) base e i.size Q
          (.slice (some ⟨w.heap.size, 0, none⟩) (n + m) (grownCap w (n + m) old e)) (n + m) (after (n * i.size) F V) ∧
        w.grownBy (w.drew.alloc (.cells (xs.toArray ++ (rng (m * i.size) V).toArray ++ Builtin.zeroCells z.cells (grownCap w (n + m) old e - (n + m))) e)) row := by
      intro old xs hxl hxs hxq row
      have hge := grownCap_ge w (n + m) old e
      have hcm : grownCap w (n + m) old e ≤ maxLen := grownCap_le_maxLen w (n + m) old e h63
      generalize hC : grownCap w (n + m) old e = C at *
      have hCs : C * i.size = (n + m) * i.size + (C - (n + m)) * i.size := by rw [← Nat.add_mul]; congr 1; omega
      have hnm : (n + m) * i.size = n * i.size + m * i.size := Nat.add_mul _ _ _
      have hsz2 : (xs.toArray ++ (rng (m * i.size) V).toArray ++ Builtin.zeroCells z.cells (C - (n + m))).size = C * i.size := by
        simp only [Array.size_append, List.size_toArray, size_zeroCells, hzs, hxl, hl]
        omega
      have hcell : ∀ j, j < C * i.size → ∃ u, (xs.toArray ++ (rng (m * i.size) V).toArray ++ Builtin.zeroCells z.cells (C - (n + m)))[j]? = some u ∧ (j < (n + m) * i.size → u = after (n * i.size) F V j) ∧ Q u := by
        intro j hj
        by_cases hj1 : j < n * i.size
        · refine ⟨F j, ?_, fun _ => by unfold after; rw [if_pos hj1], hxq j hj1⟩
          rw [Array.append_assoc, Array.getElem?_append_left (by simpa [hxl] using hj1)]
          simpa using hxs j hj1
        · by_cases hj2 : j < (n + m) * i.size
          · refine ⟨V (j - n * i.size), ?_, fun _ => by unfold after; rw [if_neg hj1], hQ _ (by omega)⟩
            rw [Array.getElem?_append_left (by simp [hxl, hl]; omega), Array.getElem?_append_right (by simp [hxl]; omega)]
            simp only [List.size_toArray, hxl, List.getElem?_toArray]
            exact rng_get (by omega)
          · obtain ⟨u, hu, hmem⟩ := zeroCells_get z.cells (C - (n + m)) (j - (n + m) * i.size) (by omega) (by rw [hzs]; omega)
            refine ⟨u, ?_, fun h => absurd h hj2, hQz u hmem⟩
            rw [Array.getElem?_append_right (by simp [hxl, hl]; omega)]
            simp only [Array.size_append, List.size_toArray, hxl, hl]
            rw [← hnm]
            exact hu
      refine ⟨.inr ⟨w.heap.size, C, fun j => ((xs.toArray ++ (rng (m * i.size) V).toArray ++ Builtin.zeroCells z.cells (C - (n + m)))[j]?).getD undef, rfl, hbase, hge, hcm, ⟨_, heap_alloc_new w.drew _, hsz2, fun j hj => ?_⟩, fun j hj => ?_, fun j hj => ?_⟩, ⟨rfl, rfl, rfl, by simp, fun k hk _ => Below.heap_alloc w.drew _ k hk⟩⟩
      · obtain ⟨u, hu, _⟩ := hcell j hj
        simp only [hu, Option.getD_some]
      · obtain ⟨u, hu, he, _⟩ := hcell j (by omega)
        simp only [hu, Option.getD_some]
        exact he hj
      · obtain ⟨u, hu, _, hq⟩ := hcell j hj
        simp only [hu, Option.getD_some]
        exact hq
    rcases hown with ⟨rfl, rfl⟩ | ⟨g, cap, fr, rfl, hbg, hnc, hcm, hrow, hF, hQF⟩
    · have hr := run_append_nil (P := P) w t ty e i z ht hi hz ⟨b, o, none⟩ m c _ hl hnews (by omega) (by omega) (by have hb := hbytes; simp only [Nat.zero_add] at hb; omega)
      have hgr := grown 0 [] (by simp) (fun j hj => absurd hj (by omega)) (fun j hj => absurd hj (by omega)) (Value.ownBlock (.slice none 0 0))
      simp only [Nat.zero_add, Array.empty_append] at hgr ⊢
      exact ⟨_, _, hr, hgr.1, hgr.2, .inr rfl, fun h => by cases h⟩
    · obtain ⟨cur, hg, hcs, hcur⟩ := hrow
      by_cases hroom : n + m ≤ cap
      · have hmul : (n + m) * i.size ≤ cap * i.size := Nat.mul_le_mul_right _ hroom
        have hnm : (n + m) * i.size = n * i.size + m * i.size := Nat.add_mul _ _ _
        have hfit : n * i.size + (rng (m * i.size) V).length ≤ cur.size := by rw [hl, hcs]; omega
        have hmin : min (n * i.size) (cap * i.size) = n * i.size := by omega
        have hr := run_append_room (P := P) w t ty e i ht hi g n cap cur hg ⟨b, o, none⟩ m c _ hl hnews h1' hroom hfit
        refine ⟨_, _, hr, .inr ⟨g, cap, fun j => if j < n * i.size then fr j else if j < (n + m) * i.size then V (j - n * i.size) else fr j, rfl, hbg, hroom, hcm, ⟨_, setRow_heap w g cur _ e _ hg, ?_, fun j hj => ?_⟩, fun j hj => ?_, fun j hj => ?_⟩, ⟨rfl, rfl, rfl, by simp, fun k _ hk => setRow_other w g k _ (fun e => hk (by simp [Value.ownBlock, e]))⟩, .inl rfl, fun h => by cases h⟩
        · simp only [List.size_toArray, List.length_append, List.length_take, List.length_drop, Array.length_toList, hl, hcs]
          omega
        · simp only [List.getElem?_toArray, hl]
          by_cases hj1 : j < n * i.size
          · rw [if_pos hj1, List.append_assoc, List.getElem?_append_left (by simp only [List.length_take, Array.length_toList, hcs, hmin]; exact hj1), List.getElem?_take, if_pos hj1]
            simpa using hcur j hj
          · rw [if_neg hj1]
            by_cases hj2 : j < (n + m) * i.size
            · rw [if_pos hj2, List.getElem?_append_left (by simp only [List.length_append, List.length_take, Array.length_toList, hcs, hmin, hl]; omega), List.getElem?_append_right (by simp only [List.length_take, Array.length_toList, hcs, hmin]; omega)]
              simp only [List.length_take, Array.length_toList, hcs]
              rw [hmin]
              exact rng_get (by omega)
            · rw [if_neg hj2, List.getElem?_append_right (by simp only [List.length_append, List.length_take, Array.length_toList, hcs, hmin, hl]; omega)]
              simp only [List.length_append, List.length_take, Array.length_toList, hl, hcs, List.getElem?_drop]
              rw [show n * i.size + m * i.size + (j - (min (n * i.size) (cap * i.size) + m * i.size)) = j by omega]
              simpa using hcur j hj
        · by_cases hj1 : j < n * i.size
          · simp only [after]; rw [if_pos hj1, if_pos hj1]; exact hF j hj1
          · simp only [after]; rw [if_neg hj1, if_neg hj1, if_pos hj]
        · by_cases hj1 : j < n * i.size
          · show Q (if _ then _ else _); rw [if_pos hj1]; exact hQF j hj
          · show Q (if _ then _ else _); rw [if_neg hj1]
            by_cases hj2 : j < (n + m) * i.size
            · rw [if_pos hj2]; exact hQ _ (by omega)
            · rw [if_neg hj2]; exact hQF j hj
      · have hmul : n * i.size ≤ cap * i.size := Nat.mul_le_mul_right _ hnc
        have hxs : ∀ j, j < n * i.size → (rng (n * i.size) F)[j]? = some (F j) := fun j hj => rng_get hj
        have holds : ∀ j u, (rng (n * i.size) F)[j]? = some u → w.cell? ((⟨g, 0, none⟩ : Addr).add j) = some u := by
          intro j u hu
          obtain ⟨hj, rfl⟩ := rng_some hu
          rw [Addr.add_lit, Nat.zero_add, cell_of_row w g j cur e (0, 0) hg, hcur j (by omega), hF j hj]
        have hr := run_append_grow (P := P) w t ty e i z ht hi hz ⟨g, 0, none⟩ n cap _ (length_rng _ _) holds ⟨b, o, none⟩ m c _ hl hnews (by omega) (by omega) (growslice_fits (by omega) hbytes)
        have hgr := grown cap _ (length_rng _ _) hxs (fun j hj => by rw [← hF j hj]; exact hQF j (by omega)) (Value.ownBlock (.slice (some ⟨g, 0, none⟩) n cap))
        exact ⟨_, _, hr, hgr.1, hgr.2, .inr rfl, fun h => by cases h⟩
end

structure Appended (w w' : World) (base e size : Nat) (Q : Value → Prop) (v v' : Value) (k : Nat) (G : Nat → Value) (m : Nat) : Prop where
  own : Own w' base e size Q v' k G
  grown : w.grownBy w' v.ownBlock
  block : v'.ownBlock = v.ownBlock ∨ v'.ownBlock = some w.heap.size
  nil : v' = .slice none 0 0 → v = .slice none 0 0 ∧ m = 0

section
variable {P : Program}
theorem wpList_append_all {w : World} {ops : Array Oper} {rest : List Oper} {o : Oper} {a : Act} {Q' : Exit → Act → World → Prop} (hgd : o.guard = none) (s x : Operand) (t : TypeId)
    (ho : o.op = .call { callee := .builtin .append, args := #[s, x], argTypes := #[t, t] })
    (base e : TypeId) (z : Value) (size bytes : Nat) (ht : P.underlying t = some (.slice e)) (hinfo : (P.info? e).map (fun i => (i.zero, i.size, i.bytes)) = some (some z, size, bytes))
    (hzs : z.cells.size = size) (hsz : 0 < size) (Q : Value → Prop) (hQz : ∀ u ∈ z.cells, Q u)
    (v : Value) (n : Nat) (F : Nat → Value) (hs : a.eval s = v) (hown : Own w base e size Q v n F)
    (A : Option Addr) (m c : Nat) (V : Nat → Value) (hx : a.eval x = .slice A m c) (hA : Sl w A (m * size) V) (hA0 : A = none → m = 0) (hQ : ∀ j, j < m * size → Q (V j)) (h1 : ∀ j, j < m * size → (V j).oneCell' = true)
    (h63 : n + m ≤ maxLen) (hbytes : (n + m) * bytes ≤ 140737488355328) (hbase : base ≤ w.heap.size)
    (h : ∀ v' w', Appended w w' base e size Q v v' (n + m) (after (n * size) F V) m → wpList P ops Q' rest (a.put o.dst v') w') : wpList P ops Q' (o :: rest) a w := by
  refine wpList_plain hgd fun K hK => ?_
  obtain ⟨i, hi, hzz⟩ := Option.map_eq_some_iff.1 hinfo
  simp only [Prod.mk.injEq] at hzz
  obtain ⟨v', w', hr, h2, h3, h4, h5⟩ := run_append_all (P := P) w base t o.type e i z size bytes ht hi hzz.1 hzz.2.1 hzz.2.2 hzs hsz Q hQz v n F hown A m c V hA hA0 hQ h1 h63 hbytes hbase
  unfold Oper.wp execOp
  simp only [ho, resolve, invoke, builtin, Sem.run_bind, Sem.run_pure, Result.andThen_ok, List.map_toArray, List.map_cons, List.map_nil, hs, hx, hr]
  exact hK _ _ (h v' w' ⟨h2, h3, h4, h5⟩)
end

section
variable {P : Program}
/-- append as one step of a region that draws. -/
theorem step_append_all {ops : Array Oper} {o : Oper} {a : Act} {w : World} {K : Act → World → Prop} {Q' : Exit → Act → World → Prop} {E : Prop} (hgd : o.guard = none) (s x : Operand) (t : TypeId)
    (ho : o.op = .call { callee := .builtin .append, args := #[s, x], argTypes := #[t, t] })
    (base e : TypeId) (z : Value) (size bytes : Nat) (ht : P.underlying t = some (.slice e)) (hinfo : (P.info? e).map (fun i => (i.zero, i.size, i.bytes)) = some (some z, size, bytes))
    (hzs : z.cells.size = size) (hsz : 0 < size) (Q : Value → Prop) (hQz : ∀ u ∈ z.cells, Q u)
    (v : Value) (n : Nat) (F : Nat → Value) (hs : a.eval s = v) (hown : Own w base e size Q v n F)
    (A : Option Addr) (m c : Nat) (V : Nat → Value) (hx : a.eval x = .slice A m c) (hA : Sl w A (m * size) V) (hA0 : A = none → m = 0) (hQ : ∀ j, j < m * size → Q (V j)) (h1 : ∀ j, j < m * size → (V j).oneCell' = true)
    (h63 : n + m ≤ maxLen) (hbytes : (n + m) * bytes ≤ 140737488355328) (hbase : base ≤ w.heap.size)
    (h : ∀ v' w', Appended w w' base e size Q v v' (n + m) (after (n * size) F V) m → K (a.put o.dst v') w') :
    if Region.wanted o (yielded ops a.tmps) = true then Oper.wp P o a w K Q' else E := by
  have hw : Region.wanted o (yielded ops a.tmps) = true := by simp [Region.wanted, hgd]
  rw [if_pos hw]
  obtain ⟨i, hi, hzz⟩ := Option.map_eq_some_iff.1 hinfo
  simp only [Prod.mk.injEq] at hzz
  obtain ⟨v', w', hr, h2, h3, h4, h5⟩ := run_append_all (P := P) w base t o.type e i z size bytes ht hi hzz.1 hzz.2.1 hzz.2.2 hzs hsz Q hQz v n F hown A m c V hA hA0 hQ h1 h63 hbytes hbase
  unfold Oper.wp execOp
  simp only [ho, resolve, invoke, builtin, Sem.run_bind, Sem.run_pure, Result.andThen_ok, List.map_toArray, List.map_cons, List.map_nil, hs, hx, hr]
  exact h v' w' ⟨h2, h3, h4, h5⟩
end

/-! copy at any element size -/
section
variable {P : Program}
theorem run_copy_any (w : World) (dT sT ty elem : TypeId) (i : TypeInfo) (size : Nat) (hu : P.underlying dT = some (.slice elem)) (hi : P.info? elem = some i) (hsize : i.size = size)
    (D A : Option Addr) (dl dc sl sc : Nat) (bb t N off m : Nat) (g v : Nat → Value) (hm : Nat.min sl dl = m) (hrow : w.rowIs bb t N g) (hD : 0 < m * size → D = some ⟨bb, off, none⟩) (hA : Sl w A (m * size) v)
    (hfit : m * size = 0 ∨ off + m * size ≤ N) (h1 : ∀ i, i < m * size → (v i).oneCell' = true) :
    ∃ w', (Builtin.copy_ #[dT, sT] ty #[.slice D dl dc, .slice A sl sc]).run P w = .ok (.int .i64 (m : Int)) w' ∧ Copied w w' bb t N off (m * size) v g := by
  subst hsize
  by_cases h0 : m * i.size = 0
  · refine ⟨w, ?_, hrow.congr fun i _ => ?_, Kept.refl _ w⟩
    · have hl : ∀ (x : Addr), (loadCells x 0).run P w = .ok #[] w := fun x => by simpa using run_loadCells_list (P := P) w x [] (by simp)
      cases D <;> cases A <;> simp [Builtin.copy_, run_underlying hu, Builtin.lenOf, Builtin.firstCells, sizeOf, typeInfo, hi, hm, h0, storeCells, hl, goInt]
    · unfold overlay; rw [if_neg (by omega)]
  · obtain rfl := hD (by omega)
    obtain ⟨b, o, rfl, hc⟩ := hA (by omega)
    generalize hM : m * i.size = M at *
    have hlen : (rng M v).length = M := length_rng _ _
    have hl := run_loadCells_list (P := P) w ⟨b, o, none⟩ (rng M v) (fun j x hx => by
      obtain ⟨hj, rfl⟩ := rng_some hx
      rw [Addr.add_lit]; exact hc j hj)
    have hst := run_storeCells_cells (P := P) bb off (rng M v) 0 w (fun j hj => by rw [hlen] at hj; rw [Nat.add_zero, hrow.cell (i := off + j) (by omega)]; rfl) (fun j _ => hrow.frozen _) (rng_mem h1)
    rw [hlen] at hl
    refine ⟨_, ?_, (setCells_row _ off w g hrow (by rw [hlen]; omega)).congr fun i _ => ?_, setCells_kept _ _ _ _⟩
    · simp [Builtin.copy_, run_underlying hu, Builtin.lenOf, Builtin.firstCells, sizeOf, typeInfo, hi, hm, hM, hl, hst, goInt]
    · rw [hlen]
      unfold overlay
      by_cases e : off ≤ i ∧ i < off + M
      · rw [if_pos e, if_pos e]
        simp [List.getD, rng, show i - off < M by omega]
      · rw [if_neg e, if_neg e]

theorem wpList_copy_any {w : World} {ops : Array Oper} {rest : List Oper} {o : Oper} {a : Act} {Q : Exit → Act → World → Prop} (hgd : o.guard = none) (d s : Operand) (dT sT : TypeId)
    (ho : o.op = .call { callee := .builtin .copy, args := #[d, s], argTypes := #[dT, sT] }) (elem : TypeId) (size : Nat) (hu : P.underlying dT = some (.slice elem)) (hsz : (P.info? elem).map (·.size) = some size)
    (D A : Option Addr) (dl dc sl sc : Nat) (hd : a.eval d = .slice D dl dc) (hs : a.eval s = .slice A sl sc)
    (bb t N off m : Nat) (g v : Nat → Value) (hm : Nat.min sl dl = m) (hrow : w.rowIs bb t N g) (hD : 0 < m * size → D = some ⟨bb, off, none⟩) (hA : Sl w A (m * size) v) (hfit : m * size = 0 ∨ off + m * size ≤ N) (h1 : ∀ i, i < m * size → (v i).oneCell' = true)
    (h : ∀ w', Copied w w' bb t N off (m * size) v g → wpList P ops Q rest (a.put o.dst (.int .i64 (m : Int))) w') :
    wpList P ops Q (o :: rest) a w := by
  refine wpList_plain hgd fun K hK => ?_
  obtain ⟨i, hi, hz⟩ := Option.map_eq_some_iff.1 hsz
  obtain ⟨w', hrun, r1⟩ := run_copy_any (P := P) w dT sT o.type elem i size hu hi hz D A dl dc sl sc bb t N off m g v hm hrow hD hA hfit h1
  unfold Oper.wp
  simp [execOp, ho, resolve, invoke, builtin, hd, hs, hrun, Result.andThen]
  exact hK _ _ (h w' r1)
end
end Go.Proofs.Ytlnkdnmeikpckaa
