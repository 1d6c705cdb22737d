/- From the library's law on slices.SortFunc to the rule for a row of one's own. No program in sight. -/
import Derived.Test.YtacnidaafcfgiaaGreatMr
import Derived.Shelf.SlSortCmp.WholeK
namespace Go.Ep
open Go.Shelf Go.RowKit Go.Lib Go.Sort Go.Proofs

theorem SortLaw.of {α : Type} [Inhabited α] {P : Program} {f g : FuncId} {k : Nat} {enc : α → List Value} {lt : α → α → Bool} {cf : α → α → Int} (hO : SWO (ltOf cf)) (hlt : ∀ x y, ltOf cf x y = lt x y) (hk : ∀ x, (enc x).length = k)
    (hnil : ∀ w : World, Calls P f #[.slice none 0 0, .func (.func g) #[] #[]] w fun e w' => e = .returned (.tuple #[]) ∧ Go.RowKit.Below w.heap.size w w')
    (hrow : ∀ (blk off cap : Nat) (d : Array α) (w : World), HoldsK enc k w blk off d → blk < w.heap.size → d.size < 4611686018427387904 →
      Calls P f #[.slice (some ⟨blk, off, none⟩) d.size cap, .func (.func g) #[] #[]] w fun e w' => e = .returned (.tuple #[]) ∧ ∃ n os, w' = sortWorldK enc k w blk off n (pdq (ltOf cf) d 0 d.size (Lib.bitLen d.size) true true) os) : SortLaw P f g k enc lt := by
  refine ⟨hnil, fun w blk cap l T cur hh hlc hcs hlen hcells => ?_⟩
  have hblk : blk < w.heap.size := (Array.getElem?_eq_some_iff.1 hh).1
  have hH : HoldsK enc k w blk 0 l.toArray := by
    intro j hj
    rw [size_flatK] at hj
    have hj' : j < l.length * k := by simpa using hj
    obtain ⟨hk0, h1, h2, h3⟩ := idx_split hj'
    constructor
    · rw [Nat.zero_add, cell_of_heap hh]
      show _ = some ((flatK enc k l.toArray)[j]!)
      rw [get_flatK _ _ _ _ hj]
      have hx : l[j / k]? = some l[j / k] := List.getElem?_eq_getElem h1
      have hlk : (enc l[j / k]).length = k := hk _
      have hu : (enc l[j / k])[j % k]? = some ((enc l[j / k])[j % k]'(by omega)) := List.getElem?_eq_getElem (by omega)
      have := hcells (j / k) _ (j % k) _ hx hu
      rw [h3] at this
      rw [this]
      have e1 : (l.toArray)[j / k]! = l[j / k] := by simp [h1]
      rw [e1]
      simp [hu]
    · simp [World.frozen?, hh]
  have hd : l.toArray.size = l.length := by simp
  have hcall := hrow blk 0 cap l.toArray w hH hblk (by simpa using hlen)
  rw [hd] at hcall
  refine hcall.mono fun e w' ⟨he, n, os, hw⟩ => ⟨he, ?_⟩
  have hp := pdq_sorts (ltOf cf) hO l.toArray 0 l.toArray.size (Lib.bitLen l.toArray.size) true true (Nat.zero_le _) (Nat.le_refl _) (Or.inl rfl)
  rw [hd] at hp
  generalize pdq (ltOf cf) l.toArray 0 l.length (Lib.bitLen l.length) true true = d' at hp hw
  obtain ⟨⟨hsz, _, hperm⟩, hsort⟩ := hp
  have hsz' : d'.size = l.length := by simpa using hsz
  have hp' : d'.toList.Perm l := by
    have e1 : (d'.extract 0 l.length).toList = d'.toList := by rw [← hsz']; simp
    have e2 : (l.toArray.extract 0 l.length).toList = l := by simp
    rw [e1, e2] at hperm
    exact hperm
  have hmod : ∀ b, b < w.heap.size → (sortWorldK enc k w blk 0 n d' os).heap[b]? = if blk = b then (w.heap[b]?).map (onCells (putCells id 0 (flatK enc k d'))) else w.heap[b]? := by
    intro b hb
    have hb2 : b < (putRowK enc k (Sort.ahead w n) blk 0 d').heap.size := by simpa [putRowK, Sort.ahead] using hb
    show (grow (putRowK enc k (Sort.ahead w n) blk 0 d') os).heap[b]? = _
    rw [Sort.heap_grow_old _ _ hb2]
    show ((w.heap.modify blk (onCells (putCells id 0 (flatK enc k d')))))[b]? = _
    rw [Array.getElem?_modify]
  subst hw
  refine ⟨d'.toList, (putCells id 0 (flatK enc k d') cur.toArray).toList, hp', ?_, ?_, ?_, ?_, rfl, rfl, rfl, ?_, ?_⟩
  · rw [List.pairwise_iff_getElem]
    intro i j hi hj hij
    have := hsort i j (Nat.zero_le _) hij (by simpa [hsz'] using hj)
    rw [hlt] at this
    have hi' : i < d'.size := by simpa using hi
    have hj' : j < d'.size := by simpa using hj
    simpa [hi', hj'] using this
  · rw [hmod blk hblk, if_pos rfl, hh]
    simp [onCells]
  · simp [putCells]
  · intro i x j u hi hu
    have hi' : i < l.length := by rw [← hsz']; have := (List.getElem?_eq_some_iff.1 hi).1; simpa using this
    have hj : j < k := by rw [← hk x]; exact (List.getElem?_eq_some_iff.1 hu).1
    have hlt2 : i * k + j < l.length * k := idx_lt hi' hj
    have hcl : l.length * k ≤ cur.length := by rw [hcs]; exact Nat.mul_le_mul_right k hlc
    have hin : i * k + j < d'.size * k := by rw [hsz']; exact hlt2
    have hget : (flatK enc k d')[i * k + j]! = u := by
      rw [get_flatK _ _ _ _ hin]
      have hk0 : 0 < k := by omega
      have e1 : (i * k + j) / k = i := by rw [Nat.mul_comm, Nat.mul_add_div hk0, Nat.div_eq_of_lt hj]; omega
      have e2 : (i * k + j) % k = j := by rw [Nat.mul_comm, Nat.mul_add_mod, Nat.mod_eq_of_lt hj]
      rw [e1, e2]
      have e3 : d'[i]! = x := by
        obtain ⟨h1, h2⟩ := List.getElem?_eq_some_iff.1 hi
        have h1' : i < d'.size := by simpa using h1
        rw [getElem!_pos d' i h1']
        simpa using h2
      rw [e3]
      simp [hu]
    have hc2 : i * k + j < cur.length := by omega
    simp only [putCells, Array.toList_mapIdx, List.getElem?_mapIdx]
    rw [List.getElem?_eq_getElem hc2]
    simp only [Option.map_some, id]
    rw [if_pos ⟨Nat.zero_le _, by rw [size_flatK]; omega⟩, Nat.sub_zero, hget]
  · show w.heap.size ≤ (grow (putRowK enc k (Sort.ahead w n) blk 0 d') os).heap.size
    simp [grow, putRowK, Sort.ahead]
  · intro b hb hne
    rw [hmod b hb, if_neg (Ne.symm hne)]
end Go.Ep
