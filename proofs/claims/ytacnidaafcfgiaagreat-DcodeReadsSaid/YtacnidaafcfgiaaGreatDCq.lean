/- The plain laws of vectors, runs. -/
import Derived.Test.YtacnidaafcfgiaaGreatDVq
import Derived.Test.YtacnidaafcfgiaaGreatDRq
namespace Go.Ep.M.C
open Go

def rawC (c : List TPart) (k : Int) : List TRun := (c.filter fun p => decide (p.dev = k) && decide (0 < k)).flatMap (·.runs)
theorem rawC_nil (k : Int) : rawC [] k = [] := rfl
theorem rawC_cons (p : TPart) (c : List TPart) (k : Int) : rawC (p :: c) k = (if p.dev = k ∧ 0 < k then p.runs else []) ++ rawC c k := by
  unfold rawC
  rw [List.filter_cons]
  by_cases h : p.dev = k ∧ 0 < k
  · simp [h.1, h.2]
  · rw [if_neg (by simpa using h), if_neg h]; rfl
theorem rawC_app (a b : List TPart) (k : Int) : rawC (a ++ b) k = rawC a k ++ rawC b k := by simp [rawC, List.filter_append]
theorem rawC_bad {c : List TPart} {k : Int} (h : ¬ 0 < k) : rawC c k = [] := by simp [rawC, h]
def hasC (c : List TPart) (k n : Int) : Bool := R.hasR (rawC c k) n
theorem hasC_app (a b : List TPart) (k n : Int) : hasC (a ++ b) k n = (hasC a k n || hasC b k n) := by simp [hasC, rawC_app, R.hasR_app]
theorem hasC_nil (k n : Int) : hasC [] k n = false := rfl
def totC (c : List TPart) : Nat := (c.map fun p => p.runs.length).sum
theorem totC_app (a b : List TPart) : totC (a ++ b) = totC a + totC b := by simp [totC]
theorem rawC_len (c : List TPart) (k : Int) : (rawC c k).length ≤ totC c := by
  induction c with
  | nil => simp [rawC]
  | cons p r ih =>
    rw [rawC_cons, List.length_append]
    have : totC (p :: r) = p.runs.length + totC r := by simp [totC]
    split
    · omega
    · simp; omega
theorem sum_zero (ks : List Int) : (ks.map fun _ => 0).sum = 0 := by
  induction ks with
  | nil => rfl
  | cons k r ih => rw [List.map_cons, List.sum_cons, ih]
/-- Over different devices, no more than all. -/
theorem rawC_sum (c : List TPart) (ks : List Int) (h : ks.Nodup) : (ks.map fun k => (rawC c k).length).sum ≤ totC c := by
  induction c with
  | nil => simp only [rawC_nil, List.length_nil, sum_zero]; exact Nat.zero_le _
  | cons p r ih =>
    have e : totC (p :: r) = p.runs.length + totC r := by simp [totC]
    have h1 : (ks.map fun k => (rawC (p :: r) k).length).sum = (ks.map fun k => if p.dev = k ∧ 0 < k then p.runs.length else 0).sum + (ks.map fun k => (rawC r k).length).sum := by
      clear h ih
      induction ks with
      | nil => rfl
      | cons k ks ih2 =>
        simp only [List.map_cons, List.sum_cons, rawC_cons, List.length_append] at ih2 ⊢
        by_cases hc : p.dev = k ∧ 0 < k
        · rw [if_pos hc, if_pos hc]; omega
        · rw [if_neg hc, if_neg hc, List.length_nil]; omega
    have h2 : (ks.map fun k => if p.dev = k ∧ 0 < k then p.runs.length else 0).sum ≤ p.runs.length := by
      clear ih h1 e
      induction ks with
      | nil => simp
      | cons k ks ih2 =>
        obtain ⟨n1, n2⟩ := List.nodup_cons.1 h
        simp only [List.map_cons, List.sum_cons]
        by_cases hk : p.dev = k
        · have h0 : (ks.map fun k => if p.dev = k ∧ 0 < k then p.runs.length else 0).sum = 0 := by
            have : (ks.map fun k => if p.dev = k ∧ 0 < k then p.runs.length else 0) = ks.map fun _ => 0 := by
              refine List.map_congr_left fun q hq => ?_
              rw [if_neg]
              rintro ⟨e, _⟩
              exact n1 (by rw [← hk, e]; exact hq)
            rw [this]; exact sum_zero ks
          rw [h0]
          split <;> omega
        · rw [if_neg (fun h => hk h.1)]
          have := ih2 n2
          omega
    omega

def OrdP (l : List TPart) : Prop := l.Pairwise fun x y => x.dev < y.dev
theorem ordP_ext : ∀ {l l' : List TPart}, OrdP l → OrdP l' → (∀ d, d ∈ l ↔ d ∈ l') → l = l'
  | [], [], _, _, _ => rfl
  | [], y :: r, _, _, h => absurd ((h y).2 (by simp)) (by simp)
  | x :: r, [], _, _, h => absurd ((h x).1 (by simp)) (by simp)
  | x :: r, y :: q, h1, h2, h => by
    obtain ⟨a1, a2⟩ := List.pairwise_cons.1 h1
    obtain ⟨b1, b2⟩ := List.pairwise_cons.1 h2
    have e : x = y := by
      rcases List.mem_cons.1 ((h x).1 (by simp)) with e | hx
      · exact e
      · rcases List.mem_cons.1 ((h y).2 (by simp)) with e | hy
        · exact e.symm
        · have := a1 y hy; have := b1 x hx; omega
    subst e
    congr 1
    refine ordP_ext a2 b2 fun d => ⟨fun hd => ?_, fun hd => ?_⟩
    · rcases List.mem_cons.1 ((h d).1 (List.mem_cons_of_mem _ hd)) with e | hx
      · subst e; have := a1 d hd; omega
      · exact hx
    · rcases List.mem_cons.1 ((h d).2 (List.mem_cons_of_mem _ hd)) with e | hx
      · subst e; have := b1 d hd; omega
      · exact hx
def partsOf (f : Int → List TRun) (ks : List Int) : List TPart := ks.filterMap fun k => if f k = [] then none else some ⟨k, f k⟩
theorem mem_partsOf {f : Int → List TRun} {ks : List Int} {p : TPart} : p ∈ partsOf f ks ↔ p.dev ∈ ks ∧ p.runs ≠ [] ∧ p.runs = f p.dev := by
  unfold partsOf
  rw [List.mem_filterMap]
  constructor
  · rintro ⟨k, hk, h⟩
    split at h
    · cases h
    · rename_i h0; cases h; exact ⟨hk, h0, rfl⟩
  · rintro ⟨h1, h2, h3⟩
    refine ⟨p.dev, h1, ?_⟩
    rw [if_neg (by rw [← h3]; exact h2), ← h3]
theorem ord_partsOf {f : Int → List TRun} {ks : List Int} (h : ks.Pairwise (· < ·)) : OrdP (partsOf f ks) := by
  unfold OrdP partsOf
  rw [List.pairwise_filterMap]
  refine h.imp fun {a b} hab x hx y hy => ?_
  split at hx
  · cases hx
  · split at hy
    · cases hy
    · cases hx; cases hy; exact hab
theorem partsOf_ext {f g : Int → List TRun} {ks ls : List Int} (h1 : ks.Pairwise (· < ·)) (h2 : ls.Pairwise (· < ·)) (hf : ∀ k, f k = g k) (h : ∀ k, f k ≠ [] → (k ∈ ks ↔ k ∈ ls)) : partsOf f ks = partsOf g ls := by
  refine ordP_ext (ord_partsOf h1) (ord_partsOf h2) fun p => ?_
  rw [mem_partsOf, mem_partsOf]
  constructor
  · rintro ⟨a, b, c⟩; exact ⟨(h _ (by rw [← c]; exact b)).1 a, b, by rw [c, hf]⟩
  · rintro ⟨a, b, c⟩; exact ⟨(h _ (by rw [hf, ← c]; exact b)).2 a, b, by rw [c, hf]⟩
theorem len_partsOf (f : Int → List TRun) (ks : List Int) : (partsOf f ks).length ≤ ks.length := List.length_filterMap_le _ _
theorem partsOf_snoc (f : Int → List TRun) (ks : List Int) (k : Int) : partsOf f (ks ++ [k]) = partsOf f ks ++ (if f k = [] then [] else [⟨k, f k⟩]) := by
  unfold partsOf
  rw [List.filterMap_append]
  congr 1
  by_cases h : f k = [] <;> simp [h]
theorem tot_partsOf (f : Int → List TRun) (ks : List Int) : totC (partsOf f ks) = (ks.map fun k => (f k).length).sum := by
  induction ks with
  | nil => rfl
  | cons k ks ih =>
    have : partsOf f (k :: ks) = (if f k = [] then [] else [⟨k, f k⟩]) ++ partsOf f ks := by
      unfold partsOf
      by_cases h : f k = [] <;> simp [h]
    rw [this, totC_app, ih]
    by_cases h : f k = [] <;> simp [h, totC]
theorem raw_partsOf {f : Int → List TRun} {ks : List Int} (h : ks.Nodup) (k : Int) : rawC (partsOf f ks) k = if k ∈ ks ∧ 0 < k then f k else [] := by
  induction ks with
  | nil => simp [partsOf, rawC]
  | cons q ks ih =>
    obtain ⟨n1, n2⟩ := List.nodup_cons.1 h
    have e : partsOf f (q :: ks) = (if f q = [] then [] else [⟨q, f q⟩]) ++ partsOf f ks := by
      unfold partsOf
      by_cases h : f q = [] <;> simp [h]
    rw [e, rawC_app, ih n2]
    by_cases hq : q = k
    · subst hq
      rw [if_neg (fun (h : q ∈ ks ∧ 0 < q) => n1 h.1), List.append_nil]
      by_cases h0 : f q = []
      · rw [if_pos h0, h0]; simp [rawC]
      · rw [if_neg h0]
        by_cases hp : 0 < q
        · rw [if_pos ⟨List.mem_cons_self, hp⟩]; simp [rawC, hp]
        · rw [if_neg (fun h => hp h.2)]; exact rawC_bad hp
    · have : rawC (if f q = [] then [] else [(⟨q, f q⟩ : TPart)]) k = [] := by
        by_cases h0 : f q = [] <;> simp [h0, rawC, hq]
      rw [this]
      have hm : (k ∈ q :: ks) ↔ k ∈ ks := by simp [Ne.symm hq]
      simp only [hm, List.nil_append]

def dstep (l : List Int) (p : TPart) : List Int := if 0 < p.dev then V.insI l p.dev else l
def devsC (c : List TPart) : List Int := c.foldl dstep []
theorem devs_gen (c : List TPart) : ∀ l : List Int, l.Pairwise (· < ·) → (c.foldl dstep l).Pairwise (· < ·) ∧ (∀ k, k ∈ c.foldl dstep l ↔ k ∈ l ∨ ∃ p ∈ c, p.dev = k ∧ 0 < k) ∧ (c.foldl dstep l).length ≤ l.length + c.length := by
  induction c with
  | nil => intro l h; simp [h]
  | cons p r ih =>
    intro l h
    rw [List.foldl_cons]
    by_cases hp : 0 < p.dev
    · have e : dstep l p = V.insI l p.dev := by simp [dstep, hp]
      rw [e]
      obtain ⟨h1, h2, h3⟩ := ih _ (V.insI_sorted h p.dev)
      refine ⟨h1, fun k => ?_, by have := V.len_insI l p.dev; simp; omega⟩
      rw [h2, V.mem_insI]
      constructor
      · rintro ((rfl | h4) | ⟨x, h4, h5⟩)
        · exact .inr ⟨p, by simp, rfl, hp⟩
        · exact .inl h4
        · exact .inr ⟨x, by simp [h4], h5⟩
      · rintro (h4 | ⟨x, h4, h5, h6⟩)
        · exact .inl (.inr h4)
        · rcases List.mem_cons.1 h4 with rfl | h4
          · exact .inl (.inl h5.symm)
          · exact .inr ⟨x, h4, h5, h6⟩
    · have e : dstep l p = l := by simp [dstep, hp]
      rw [e]
      obtain ⟨h1, h2, h3⟩ := ih _ h
      refine ⟨h1, fun k => ?_, by simp; omega⟩
      rw [h2]
      constructor
      · rintro (h4 | ⟨x, h4, h5⟩)
        · exact .inl h4
        · exact .inr ⟨x, by simp [h4], h5⟩
      · rintro (h4 | ⟨x, h4, h5, h6⟩)
        · exact .inl h4
        · rcases List.mem_cons.1 h4 with rfl | h4
          · rw [h5] at hp; exact absurd h6 hp
          · exact .inr ⟨x, h4, h5, h6⟩
theorem devs_sorted (c : List TPart) : (devsC c).Pairwise (· < ·) := (devs_gen c [] List.Pairwise.nil).1
theorem sorted_nodup {l : List Int} (h : l.Pairwise (· < ·)) : l.Nodup := h.imp fun {a b} h e => by omega
theorem devs_nodup (c : List TPart) : (devsC c).Nodup := sorted_nodup (devs_sorted c)
theorem mem_devs {c : List TPart} {k : Int} : k ∈ devsC c ↔ (∃ p ∈ c, p.dev = k) ∧ 0 < k := by
  have := (devs_gen c [] List.Pairwise.nil).2.1 k
  unfold devsC
  rw [this]
  simp only [List.not_mem_nil, false_or]
  constructor
  · rintro ⟨p, h1, h2, h3⟩; exact ⟨⟨p, h1, h2⟩, h3⟩
  · rintro ⟨⟨p, h1, h2⟩, h3⟩; exact ⟨p, h1, h2, h3⟩
theorem len_devs (c : List TPart) : (devsC c).length ≤ c.length := by simpa [devsC] using (devs_gen c [] List.Pairwise.nil).2.2
theorem raw_devs {c : List TPart} {k : Int} (h : rawC c k ≠ []) : k ∈ devsC c := by
  rw [mem_devs]
  refine Classical.byContradiction fun hn => h ?_
  unfold rawC
  have : (c.filter fun p => decide (p.dev = k) && decide (0 < k)) = [] := by
    rw [List.filter_eq_nil_iff]
    intro p hp
    simp only [Bool.and_eq_true, decide_eq_true_eq]
    rintro ⟨h1, h2⟩
    exact hn ⟨⟨p, hp, h1⟩, h2⟩
  rw [this]; rfl

def opC (op : Bool → Bool → Bool) (a b : List TPart) : List TPart := partsOf (fun k => R.setR op (rawC a k) (rawC b k)) (devsC (a ++ b))
def normC (c : List TPart) : List TPart := partsOf (fun k => R.nrm (rawC c k)) (devsC c)
theorem setR_nil {op : Bool → Bool → Bool} (h0 : op false false = false) : R.setR op [] [] = [] := by
  have := R.setR_props op h0 [] []
  exact R.nf_ext this.1 trivial fun n => by rw [this.2.1]; exact h0
theorem nrm_nil : R.nrm [] = [] := setR_nil rfl
theorem has_opC {op : Bool → Bool → Bool} (h0 : op false false = false) (a b : List TPart) (k n : Int) : hasC (opC op a b) k n = op (hasC a k n) (hasC b k n) := by
  unfold hasC opC
  rw [raw_partsOf (devs_nodup _)]
  split
  · rw [(R.setR_props op h0 _ _).2.1]
  · rename_i h
    have e : rawC a k = [] ∧ rawC b k = [] := by
      have h1 : rawC (a ++ b) k = [] := Classical.byContradiction fun h2 => h ⟨raw_devs h2, (mem_devs.1 (raw_devs h2)).2⟩
      rw [rawC_app] at h1
      simpa using h1
    rw [e.1, e.2]
    show R.hasR [] n = _
    simp [R.hasR, h0]
theorem has_normC (c : List TPart) (k n : Int) : hasC (normC c) k n = hasC c k n := by
  unfold hasC normC
  rw [raw_partsOf (devs_nodup _)]
  split
  · rw [R.nrm_has]
  · rename_i h
    have e : rawC c k = [] := Classical.byContradiction fun h2 => h ⟨raw_devs h2, (mem_devs.1 (raw_devs h2)).2⟩
    rw [e]
/-- In order. -/
structure Canon (c : List TPart) : Prop where
  ord : OrdP c
  nf : ∀ p ∈ c, 0 < p.dev ∧ p.runs ≠ [] ∧ R.Nf p.runs
theorem canon_parts {f : Int → List TRun} {c : List TPart} (h : ∀ k, R.Nf (f k)) : Canon (partsOf f (devsC c)) := ⟨ord_partsOf (devs_sorted c), fun p hp => by
  obtain ⟨h1, h2, h3⟩ := mem_partsOf.1 hp
  exact ⟨(mem_devs.1 h1).2, h2, by rw [h3]; exact h _⟩⟩
theorem canon_op {op : Bool → Bool → Bool} (h0 : op false false = false) (a b : List TPart) : Canon (opC op a b) := canon_parts fun _ => (R.setR_props op h0 _ _).1
theorem canon_norm (c : List TPart) : Canon (normC c) := canon_parts fun _ => R.nrm_nf _
theorem ordP_raw : ∀ {c : List TPart}, OrdP c → ∀ p ∈ c, 0 < p.dev → rawC c p.dev = p.runs
  | [], _, p, hp, _ => by simp at hp
  | q :: r, h, p, hp, h0 => by
    obtain ⟨h1, h2⟩ := List.pairwise_cons.1 h
    rw [rawC_cons]
    rcases List.mem_cons.1 hp with rfl | hp
    · rw [if_pos ⟨rfl, h0⟩]
      have : rawC r p.dev = [] := by
        unfold rawC
        have : (r.filter fun x => decide (x.dev = p.dev) && decide (0 < p.dev)) = [] := by
          rw [List.filter_eq_nil_iff]
          intro x hx
          have := h1 x hx
          simp; omega
        rw [this]; rfl
      rw [this, List.append_nil]
    · have := h1 p hp
      rw [if_neg (by omega), ordP_raw h2 p hp h0]; rfl
theorem Canon.eq_norm {c : List TPart} (h : Canon c) : c = normC c := by
  refine ordP_ext h.ord (canon_norm c).ord fun p => ?_
  unfold normC
  rw [mem_partsOf]
  constructor
  · intro hp
    obtain ⟨h1, h2, h3⟩ := h.nf p hp
    exact ⟨mem_devs.2 ⟨⟨p, hp, rfl⟩, h1⟩, h2, by rw [ordP_raw h.ord p hp h1, R.nrm_self h3]⟩
  · rintro ⟨h1, h2, h3⟩
    obtain ⟨⟨q, hq, hd⟩, h0⟩ := mem_devs.1 h1
    obtain ⟨g1, g2, g3⟩ := h.nf q hq
    have e : rawC c p.dev = q.runs := by rw [← hd]; exact ordP_raw h.ord q hq g1
    rw [e, R.nrm_self g3] at h3
    have : p = q := by cases p; cases q; simp_all
    rw [this]; exact hq
theorem normC_ext {a b : List TPart} (h : ∀ k n, hasC a k n = hasC b k n) : normC a = normC b := by
  have hf : ∀ k, R.nrm (rawC a k) = R.nrm (rawC b k) := fun k => R.nf_ext (R.nrm_nf _) (R.nrm_nf _) fun n => by rw [R.nrm_has, R.nrm_has]; exact h k n
  refine partsOf_ext (devs_sorted a) (devs_sorted b) hf fun k hk => ?_
  have ha : rawC a k ≠ [] := fun e => hk (by rw [e]; exact nrm_nil)
  have hb : rawC b k ≠ [] := fun e => hk (by rw [hf, e]; exact nrm_nil)
  exact ⟨fun _ => raw_devs hb, fun _ => raw_devs ha⟩
theorem Canon.ext {a b : List TPart} (ha : Canon a) (hb : Canon b) (h : ∀ k n, hasC a k n = hasC b k n) : a = b := by rw [ha.eq_norm, hb.eq_norm]; exact normC_ext h
theorem norm_canon {c : List TPart} (h : Canon c) : normC c = c := h.eq_norm.symm
theorem norm_or (a b : List TPart) : normC (a ++ b) = opC (· || ·) a b := (canon_norm _).ext (canon_op rfl a b) fun k n => by rw [has_normC, hasC_app, has_opC rfl]
theorem opC_norm {op : Bool → Bool → Bool} (h0 : op false false = false) (a b : List TPart) : opC op (normC a) (normC b) = opC op a b := (canon_op h0 _ _).ext (canon_op h0 _ _) fun k n => by rw [has_opC h0, has_opC h0, has_normC, has_normC]
theorem canon_nil : Canon [] := ⟨List.Pairwise.nil, fun p h => by simp at h⟩
theorem canon_none {c : List TPart} (h : Canon c) (h2 : ∀ k n, hasC c k n = false) : c = [] := h.ext canon_nil fun k n => by rw [h2]; rfl
theorem decide_eq_canon (c : List TPart) : decide (c = normC c) = true ↔ Canon c := by
  rw [decide_eq_true_iff]
  exact ⟨fun h => by rw [h]; exact canon_norm c, fun h => h.eq_norm⟩
theorem len_normC (c : List TPart) : (normC c).length ≤ c.length := Nat.le_trans (len_partsOf _ _) (len_devs c)
theorem len_opC (op : Bool → Bool → Bool) (a b : List TPart) : (opC op a b).length ≤ a.length + b.length := Nat.le_trans (len_partsOf _ _) (by have := len_devs (a ++ b); simpa using this)
theorem sum_le {ks : List Int} {f g : Int → Nat} (h : ∀ k, f k ≤ g k) : (ks.map f).sum ≤ (ks.map g).sum := by
  induction ks with
  | nil => simp
  | cons k r ih => have := h k; simp; omega
theorem sum_two (ks : List Int) (f g : Int → Nat) : (ks.map fun k => 2 * (f k + g k)).sum = 2 * ((ks.map f).sum + (ks.map g).sum) := by
  induction ks with
  | nil => rfl
  | cons k r ih => simp; omega
theorem tot_opC {op : Bool → Bool → Bool} (h0 : op false false = false) (a b : List TPart) : totC (opC op a b) ≤ 2 * (totC a + totC b) := by
  unfold opC
  rw [tot_partsOf]
  refine Nat.le_trans (sum_le fun k => (R.setR_props op h0 (rawC a k) (rawC b k)).2.2) ?_
  rw [sum_two]
  have h1 := rawC_sum a (devsC (a ++ b)) (devs_nodup _)
  have h2 := rawC_sum b (devsC (a ++ b)) (devs_nodup _)
  omega
theorem tot_normC (c : List TPart) : totC (normC c) ≤ 2 * totC c := by
  unfold normC
  rw [tot_partsOf]
  refine Nat.le_trans (sum_le (g := fun k => 2 * ((rawC c k).length + 0)) fun k => by have := R.nrm_len (rawC c k); omega) ?_
  rw [sum_two]
  have h1 := rawC_sum c (devsC c) (devs_nodup _)
  have h2 := sum_zero (devsC c)
  omega


theorem get_grow (l : List (Int × List TRun)) : ∀ (m : List (Int × List TRun)) (k : Int), AL.getZ (AL.grow m l) k [] = AL.getZ m k [] ++ (l.filter fun x => decide (x.1 = k)).flatMap (·.2) := by
  induction l with
  | nil => intro m k; simp [AL.grow]
  | cons x r ih =>
    intro m k
    show AL.getZ (AL.grow (AL.set m x.1 (AL.getZ m x.1 [] ++ x.2)) r) k [] = _
    rw [ih, AL.getZ_set, List.filter_cons]
    by_cases h : x.1 = k
    · subst h; simp
    · simp [h]
theorem nodup_grow (l : List (Int × List TRun)) : ∀ m : List (Int × List TRun), (m.map (·.1)).Nodup → ((AL.grow m l).map (·.1)).Nodup := by
  induction l with
  | nil => intro m h; exact h
  | cons x r ih => intro m h; exact ih _ (AL.nodup_set h _ _)
theorem len_grow (l : List (Int × List TRun)) : ∀ m : List (Int × List TRun), (AL.grow m l).length ≤ m.length + l.length := by
  induction l with
  | nil => intro m; exact Nat.le_refl _
  | cons x r ih =>
    intro m
    have h1 := ih (AL.set m x.1 (AL.getZ m x.1 [] ++ x.2))
    have h2 := AL.len_set m x.1 (AL.getZ m x.1 [] ++ x.2)
    show (AL.grow (AL.set m x.1 (AL.getZ m x.1 [] ++ x.2)) r).length ≤ _
    simp only [List.length_cons]
    omega
theorem key_grow (l : List (Int × List TRun)) : ∀ (m : List (Int × List TRun)) (k : Int), k ∈ (AL.grow m l).map (·.1) → k ∈ m.map (·.1) ∨ ∃ x ∈ l, x.1 = k := by
  induction l with
  | nil => intro m k h; exact .inl h
  | cons x r ih =>
    intro m k h
    rcases ih _ k h with h | ⟨y, hy, e⟩
    · rw [AL.keys_set] at h
      split at h
      · exact .inl h
      · rcases List.mem_append.1 h with h | h
        · exact .inl h
        · exact .inr ⟨x, by simp, (List.mem_singleton.1 h).symm⟩
    · exact .inr ⟨y, by simp [hy], e⟩
def toldM (c : List TPart) : List (Int × List TRun) := AL.grow [] (c.filterMap ctx_toldF)
theorem told_get (c : List TPart) (k : Int) : AL.getZ (toldM c) k [] = rawC c k := by
  unfold toldM
  rw [get_grow]
  show [] ++ _ = _
  rw [List.nil_append]
  induction c with
  | nil => rfl
  | cons p r ih =>
    rw [rawC_cons, ← ih, List.filterMap_cons]
    by_cases h0 : 0 < p.dev
    · have e : ctx_toldF p = some (p.dev, p.runs) := by simp [ctx_toldF, h0]
      rw [e]
      simp only [List.filter_cons]
      by_cases h : p.dev = k
      · subst h; simp [h0]
      · simp [h]
    · have e : ctx_toldF p = none := by simp [ctx_toldF, h0]
      rw [e, if_neg (by rintro ⟨h1, h2⟩; omega)]; rfl
theorem told_nodup (c : List TPart) : ((toldM c).map (·.1)).Nodup := nodup_grow _ _ (by simp)
theorem told_len (c : List TPart) : (toldM c).length ≤ c.length := by
  have h1 := len_grow (c.filterMap ctx_toldF) []
  have h2 := List.length_filterMap_le ctx_toldF c
  unfold toldM
  simp at h1
  omega
theorem told_pos {c : List TPart} {k : Int} (h : k ∈ (toldM c).map (·.1)) : 0 < k ∧ k ∈ devsC c := by
  rcases key_grow _ _ _ h with h | ⟨x, hx, rfl⟩
  · simp at h
  · rw [List.mem_filterMap] at hx
    obtain ⟨p, hp, hx⟩ := hx
    unfold ctx_toldF at hx
    split at hx
    · rename_i h0; cases hx; exact ⟨h0, mem_devs.2 ⟨⟨p, hp, rfl⟩, h0⟩⟩
    · cases hx
theorem told_mem {c : List TPart} {e : Int × List TRun} (h : e ∈ toldM c) : e.2 = rawC c e.1 ∧ 0 < e.1 ∧ e.1 ∈ devsC c := by
  have h1 := AL.mem_get (told_nodup c) (k := e.1) (v := e.2) h
  have h2 := told_get c e.1
  unfold AL.getZ at h2
  rw [h1] at h2
  exact ⟨h2, told_pos (List.mem_map.2 ⟨e, h, rfl⟩)⟩
theorem told_at {c : List TPart} {k : Int} (h : rawC c k ≠ []) : (k, rawC c k) ∈ toldM c := by
  have h2 := told_get c k
  unfold AL.getZ at h2
  cases hg : AL.get (toldM c) k with
  | none => rw [hg] at h2; exact absurd h2.symm h
  | some v => rw [hg] at h2; simp only [Option.getD_some] at h2; subst h2; exact AL.get_mem hg
theorem tot_told (c : List TPart) : ((c.filterMap ctx_toldF).map fun x => x.2.length).sum ≤ totC c := by
  induction c with
  | nil => simp
  | cons p r ih =>
    have e : totC (p :: r) = p.runs.length + totC r := by simp [totC]
    rw [List.filterMap_cons]
    by_cases h0 : 0 < p.dev
    · have e2 : ctx_toldF p = some (p.dev, p.runs) := by simp [ctx_toldF, h0]
      rw [e2]; simp only [List.map_cons, List.sum_cons]; omega
    · have e2 : ctx_toldF p = none := by simp [ctx_toldF, h0]
      rw [e2]; simp only; omega
/-- Small enough. -/
def Sm (c : List TPart) : Prop := c.length ≤ 10000000000 ∧ totC c ≤ 10000000000
theorem told_eq (c : List TPart) (h : Sm c) : ctx_told c = pure (toldM c) := by
  unfold ctx_told
  rw [need_true]
  · rfl
  · have := tot_told c
    refine ⟨by have := h.1; omega, ?_⟩
    have := h.2
    omega
theorem order_eq (m : List (Int × List TRun)) (f : Int → List TRun) (ks : List Int) (hl : m.length ≤ 1000000000000) (hr : ∀ e ∈ m, e.2.length ≤ 1000000000000) (hn : (m.map (·.1)).Nodup) (hs : ks.Pairwise (· < ·)) (h1 : ∀ e ∈ m, R.nrm e.2 ≠ [] → e.1 ∈ ks ∧ R.nrm e.2 = f e.1) (h2 : ∀ k ∈ ks, f k ≠ [] → ∃ r, (k, r) ∈ m ∧ R.nrm r = f k) : ctx_order m = pure (partsOf f ks) := by
  unfold ctx_order
  have hall : ∀ Q : List TPart → Prop, (∀ l : List (Int × List TRun), l.Perm m → Q ((l.filter fun e => decide (R.nrm e.2 ≠ [])).map fun e => (⟨e.1, R.nrm e.2⟩ : TPart))) → (loop (ctx_order_l0 m) ([], ([] : List TPart))).wp Q := by
    intro Q hQ
    refine M.loopM (body := ctx_order_l0 m) m (fun L (t : List TPart) => (L, t)) (fun t e => (runs_Norm e.2).det.bind fun v => if 0 < v.length then need ((t.length + 1) * 32 ≤ 140737488355328) (pure (t ++ [(⟨e.1, v⟩ : TPart)])) else pure t) (fun t => pure t)
      (fun l t => t = ((l.filter fun e => decide (R.nrm e.2 ≠ [])).map fun e => (⟨e.1, R.nrm e.2⟩ : TPart))) Q (fun L t hL => ?_) (fun l t y ht hlen hy => ?_) (fun l t hp ht => ?_) [] rfl
    · unfold ctx_order_l0
      show need _ ((nxt _ _).bind _) = need _ ((nxt _ _).bind _)
      refine congrArg (fun k => need _ ((nxt _ _).bind k)) (funext fun o => ?_)
      cases o with
      | none => rfl
      | some i =>
        refine congrArg (fun k => (idx m (Int.ofNat i)).bind k) (funext fun y => ?_)
        rw [bind_assoc]
        refine congrArg (fun k => (runs_Norm y.2).det.bind k) (funext fun v => ?_)
        rw [cond_dec]
        by_cases h : 0 < v.length
        · rw [if_pos (by omega), if_pos h]; rfl
        · rw [if_neg (by omega), if_neg h]; rfl
    · have hle := List.length_filter_le (fun e : Int × List TRun => decide (R.nrm e.2 ≠ [])) l
      have htl : t.length ≤ l.length := by rw [ht, List.length_map]; exact hle
      rw [R.norm_eq y.2 (hr y hy), det_pure, pure_bind]
      refine ⟨if R.nrm y.2 = [] then t else t ++ [⟨y.1, R.nrm y.2⟩], ?_, ?_⟩
      · by_cases h : R.nrm y.2 = []
        · rw [if_neg (by rw [h]; simp), if_pos h]
        · rw [if_pos (by rw [List.length_pos_iff]; exact h), if_neg h, need_true (by omega)]
      · subst ht
        rw [List.filter_append, List.map_append]
        by_cases h : R.nrm y.2 = [] <;> simp [h]
    · subst ht; exact hQ l hp
  refine eq_pure (hall _ fun l hp => ?_)
  show (need _ _).wp _
  have hll := hp.length_eq
  have hle := List.length_filter_le (fun e : Int × List TRun => decide (R.nrm e.2 ≠ [])) l
  have hmem : ∀ d : TPart, d ∈ ((l.filter fun e => decide (R.nrm e.2 ≠ [])).map fun e => (⟨e.1, R.nrm e.2⟩ : TPart)) ↔ d ∈ partsOf f ks := by
    intro d
    rw [mem_partsOf, List.mem_map]
    constructor
    · rintro ⟨e, he, rfl⟩
      rw [List.mem_filter, hp.mem_iff] at he
      have h0 : R.nrm e.2 ≠ [] := by simpa using he.2
      obtain ⟨h3, h4⟩ := h1 e he.1 h0
      exact ⟨h3, h0, h4⟩
    · rintro ⟨h3, h4, h5⟩
      obtain ⟨r, h6, h7⟩ := h2 d.dev h3 (by rw [← h5]; exact h4)
      refine ⟨(d.dev, r), ?_, by show (⟨d.dev, R.nrm r⟩ : TPart) = d; rw [h7, ← h5]⟩
      rw [List.mem_filter, hp.mem_iff]
      refine ⟨h6, ?_⟩
      simp only [decide_eq_true_eq]
      rw [h7, ← h5]; exact h4
  have hnd : ((l.filter fun e => decide (R.nrm e.2 ≠ [])).map fun e => (⟨e.1, R.nrm e.2⟩ : TPart)).Pairwise (fun x y => x.dev ≠ y.dev) := by
    rw [List.pairwise_map]
    have : l.Pairwise (fun x y => x.1 ≠ y.1) := by
      have := (hp.map (·.1)).nodup_iff.2 hn
      exact List.pairwise_map.1 this
    exact (this.filter _)
  refine ⟨by simp only [List.length_map]; omega, ⟨?_, fun l' ⟨hp', hs'⟩ => ?_⟩⟩
  · refine ⟨partsOf f ks, ?_, ?_⟩
    · refine (List.perm_ext_iff_of_nodup ?_ ?_).2 fun d => (hmem d).symm
      · exact (ord_partsOf hs).imp fun {a b} h e => by subst e; omega
      · exact hnd.imp fun {a b} h e => by subst e; exact h rfl
    · exact (ord_partsOf hs).imp fun {a b} h => by simp [ltPart]; omega
  · show l' = _
    refine ordP_ext ?_ (ord_partsOf hs) fun d => by rw [hp'.mem_iff]; exact hmem d
    have hnd' := (hp'.pairwise_iff (fun {a b} h => Ne.symm h)).2 hnd
    exact (hs'.and hnd').imp fun {a b} ⟨h3, h4⟩ => by simp [ltPart] at h3; omega
theorem order_told (c : List TPart) (h : Sm c) : ctx_order (toldM c) = pure (normC c) := by
  refine order_eq _ _ _ (by have := told_len c; have := h.1; omega) (fun e he => ?_) (told_nodup c) (devs_sorted c) (fun e he h0 => ?_) (fun k hk h0 => ?_)
  · rw [(told_mem he).1]; have := rawC_len c e.1; have := h.2; omega
  · obtain ⟨h1, h2, h3⟩ := told_mem he
    exact ⟨h3, by rw [h1]⟩
  · exact ⟨_, told_at (fun e => h0 (by rw [e]; exact nrm_nil)), rfl⟩
theorem Norm_eq (c : List TPart) (h : Sm c) : ctx_Norm c = pure (normC c) := by
  unfold ctx_Norm
  rw [told_eq c h, det_pure, pure_bind, order_told c h, det_pure, pure_bind]
def dotsC (l : List TDot) : List TPart := (l.filter V.goodD).map fun d => ⟨d.dev, [⟨d.n, d.n⟩]⟩
theorem dots_len (l : List TDot) : (dotsC l).length ≤ l.length := by rw [dotsC, List.length_map]; exact List.length_filter_le _ _
theorem dots_tot (l : List TDot) : totC (dotsC l) ≤ l.length := by
  have : totC (dotsC l) = (dotsC l).length := by
    unfold dotsC
    generalize l.filter V.goodD = q
    induction q with
    | nil => rfl
    | cons x r ih => simp [totC] at ih ⊢; omega
  have := dots_len l
  omega
theorem sm_dots {l : List TDot} (h : l.length ≤ 10000000000) : Sm (dotsC l) := ⟨by have := dots_len l; omega, by have := dots_tot l; omega⟩
theorem has_dots (l : List TDot) (k n : Int) : hasC (dotsC l) k n = true ↔ ∃ d ∈ l, V.goodD d = true ∧ d.dev = k ∧ d.n = n := by
  induction l with
  | nil => simp [hasC, dotsC, rawC, R.hasR]
  | cons d r ih =>
    have e : dotsC (d :: r) = (if V.goodD d = true then [⟨d.dev, [⟨d.n, d.n⟩]⟩] else []) ++ dotsC r := by
      unfold dotsC
      rw [List.filter_cons]
      by_cases h : V.goodD d = true <;> simp [h]
    rw [e, hasC_app, Bool.or_eq_true, ih]
    have h1 : hasC (if V.goodD d = true then [⟨d.dev, [⟨d.n, d.n⟩]⟩] else []) k n = true ↔ V.goodD d = true ∧ d.dev = k ∧ d.n = n := by
      by_cases h : V.goodD d = true
      · have hg := V.goodD_iff.1 h
        rw [if_pos h]
        unfold hasC
        rw [rawC_cons, rawC_nil, List.append_nil]
        by_cases hk : d.dev = k ∧ 0 < k
        · rw [if_pos hk, R.hasR_one, R.inR_iff]
          show (1 ≤ d.n ∧ d.n ≤ d.n ∧ d.n ≤ 281474976710655) ∧ d.n ≤ n ∧ n ≤ d.n ↔ _
          constructor
          · intro h2; exact ⟨h, hk.1, by omega⟩
          · rintro ⟨_, _, h3⟩; omega
        · rw [if_neg hk]
          constructor
          · intro h2; cases h2
          · rintro ⟨_, h2, _⟩; exact absurd ⟨h2, by omega⟩ hk
      · rw [if_neg h]
        constructor
        · intro h2; cases h2
        · rintro ⟨h2, _⟩; exact absurd h2 h
    rw [h1]
    constructor
    · rintro (h2 | ⟨x, h2, h3⟩)
      · exact ⟨d, by simp, h2⟩
      · exact ⟨x, by simp [h2], h3⟩
    · rintro ⟨x, h2, h3⟩
      rcases List.mem_cons.1 h2 with rfl | h2
      · exact .inl h3
      · exact .inr ⟨x, h2, h3⟩
theorem sm_app {a b : List TPart} (ha : a.length + b.length ≤ 10000000000) (hb : totC a + totC b ≤ 10000000000) : Sm (a ++ b) := ⟨by rw [List.length_append]; exact ha, by rw [totC_app]; exact hb⟩
def updM (h : Int × List TRun → List TRun) (m : List (Int × List TRun)) (L : List Nat) : List (Int × List TRun) := m.zipIdx.map fun y => if y.2 ∈ L then (y.1.1, h y.1) else y.1
theorem updM_get {h : Int × List TRun → List TRun} {m : List (Int × List TRun)} {L : List Nat} {i : Nat} : (updM h m L)[i]? = (m[i]?).map fun e => if i ∈ L then (e.1, h e) else e := by
  unfold updM
  rw [List.getElem?_map, List.getElem?_zipIdx]
  cases m[i]? <;> simp
theorem updM_len {h : Int × List TRun → List TRun} {m : List (Int × List TRun)} {L : List Nat} : (updM h m L).length = m.length := by simp [updM]
theorem set_at {m : List (Int × List TRun)} (hn : (m.map (·.1)).Nodup) {i : Nat} {e : Int × List TRun} (hi : m[i]? = some e) (v : List TRun) : AL.set m e.1 v = m.set i (e.1, v) := by
  induction m generalizing i with
  | nil => simp at hi
  | cons x r ih =>
    obtain ⟨a, u⟩ := x
    simp only [List.map_cons, List.nodup_cons] at hn
    cases i with
    | zero => simp at hi; subst hi; simp [AL.set]
    | succ i =>
      simp at hi
      have : a ≠ e.1 := fun q => hn.1 (by rw [q]; exact List.mem_map.2 ⟨e, List.mem_of_getElem? hi, rfl⟩)
      simp only [AL.set, this, if_false, List.set_cons_succ]
      rw [ih hn.2 hi]
theorem updM_keys {h : Int × List TRun → List TRun} {m : List (Int × List TRun)} {L : List Nat} : (updM h m L).map (·.1) = m.map (·.1) := by
  apply List.ext_getElem?
  intro i
  rw [List.getElem?_map, updM_get, List.getElem?_map]
  cases m[i]? with
  | none => rfl
  | some e => simp only [Option.map_some]; split <;> rfl
theorem updM_snoc {h : Int × List TRun → List TRun} {m : List (Int × List TRun)} (hn : (m.map (·.1)).Nodup) {L : List Nat} {i : Nat} {e : Int × List TRun} (hi : m[i]? = some e) (hL : i ∉ L) : AL.set (updM h m L) e.1 (h e) = updM h m (L ++ [i]) := by
  have h1 : (updM h m L)[i]? = some e := by rw [updM_get, hi]; simp [hL]
  rw [set_at (by rw [updM_keys]; exact hn) h1]
  apply List.ext_getElem?
  intro j
  rw [List.getElem?_set, updM_get, updM_get]
  by_cases hj : i = j
  · subst hj
    have hlt : i < (updM h m L).length := by rw [updM_len]; exact (List.getElem?_eq_some_iff.1 hi).1
    rw [if_pos rfl, if_pos hlt, hi]; simp
  · rw [if_neg hj]
    cases m[j]? with
    | none => rfl
    | some x => simp [Ne.symm hj]
theorem updM_all {h : Int × List TRun → List TRun} {m : List (Int × List TRun)} {L : List Nat} (hL : ∀ i, i < m.length → i ∈ L) : updM h m L = m.map fun e => (e.1, h e) := by
  apply List.ext_getElem?
  intro i
  rw [updM_get, List.getElem?_map]
  cases hi : m[i]? with
  | none => rfl
  | some e => simp [hL i (List.getElem?_eq_some_iff.1 hi).1]
theorem has_key {m : List (Int × List TRun)} {k : Int} (h : k ∈ m.map (·.1)) : AL.has m k = true := by
  unfold AL.has
  cases hg : AL.get m k with
  | none => exact absurd h (AL.get_none.1 hg)
  | some v => rfl
theorem each_loop (body : List (Int × List TRun) → List Nat × List (Int × List TRun) → M (Step (List Nat × List (Int × List TRun)) (List (Int × List TRun)))) (do_ : List TRun → List TRun → M (List TRun)) (F : List TRun → List TRun → List TRun) (m y : List (Int × List TRun)) (hn : (m.map (·.1)).Nodup)
    (hb : ∀ L v, body y (L, v) = need (∀ i ∈ L, i < v.length) ((nxt v.length L).bind fun o => match o with | none => pure (.done v) | some j => (idx v (Int.ofNat j)).bind fun kv => (do_ kv.2 (AL.getZ y kv.1 [])).det.bind fun r => need (AL.has v kv.1 = true) (pure (.next (L ++ [j], AL.set v kv.1 r)))))
    (hdo : ∀ e ∈ m, do_ e.2 (AL.getZ y e.1 []) = pure (F e.2 (AL.getZ y e.1 []))) : loop (body y) ([], m) = pure (m.map fun e => (e.1, F e.2 (AL.getZ y e.1 []))) := by
  refine eq_pure ?_
  have := loopN (body := body y) m.length (fun L (v : List (Int × List TRun)) => (L, v)) (fun L v => v = updM (fun e => F e.2 (AL.getZ y e.1 [])) m L) (fun r => r = m.map fun e => (e.1, F e.2 (AL.getZ y e.1 []))) (fun L v hv hL hlt => by
    have hlen : v.length = m.length := by rw [hv]; exact updM_len
    refine ⟨fun o => match o with | none => pure (.done v) | some j => (idx v (Int.ofNat j)).bind fun kv => (do_ kv.2 (AL.getZ y kv.1 [])).det.bind fun r => need (AL.has v kv.1 = true) (pure (.next (L ++ [j], AL.set v kv.1 r))), ?_, ?_, ?_⟩
    · rw [hb, hlen]
    · intro hall
      show v = _
      rw [hv]; exact updM_all hall
    · intro i hi hiL
      have hm := List.getElem?_eq_getElem hi
      have hvi : v[i]? = some m[i] := by rw [hv, updM_get, hm]; simp [hiL]
      refine ⟨AL.set v (m[i]).1 (F (m[i]).2 (AL.getZ y (m[i]).1 [])), ?_, ?_⟩
      · show (idx v (Int.ofNat i)).bind _ = _
        rw [show (Int.ofNat i) = (i : Int) from rfl, idx_nat hvi, pure_bind, hdo _ (List.getElem_mem hi), det_pure, pure_bind, need_true]
        refine has_key ?_
        rw [hv, updM_keys]
        exact List.mem_map.2 ⟨m[i], List.getElem_mem hi, rfl⟩
      · rw [hv]; exact updM_snoc hn hm hiL) m (by
    apply List.ext_getElem?
    intro i
    rw [updM_get]
    cases m[i]? <;> simp)
  exact this
theorem nrm_setR {op : Bool → Bool → Bool} (h0 : op false false = false) (a b : List TRun) : R.nrm (R.setR op a b) = R.setR op a b := R.nrm_self (R.setR_props op h0 a b).1
theorem order_each {op : Bool → Bool → Bool} (h0 : op false false = false) (hr : ∀ x, op false x = false) (a b : List TPart) (ha : Sm a) (hb : Sm b) :
    ctx_order ((toldM a).map fun e => (e.1, R.setR op e.2 (AL.getZ (toldM b) e.1 []))) = pure (opC op a b) := by
  have hlenR : ∀ x y : List TRun, (R.setR op x y).length ≤ 2 * (x.length + y.length) := fun x y => (R.setR_props op h0 x y).2.2
  refine order_eq _ _ _ (by have := told_len a; have := ha.1; simp; omega) (fun e he => ?_) (by rw [List.map_map]; exact told_nodup a) (devs_sorted _) (fun e he hne => ?_) (fun k hk hne => ?_)
  · obtain ⟨x, hx, rfl⟩ := List.mem_map.1 he
    have h1 := hlenR x.2 (AL.getZ (toldM b) x.1 [])
    rw [(told_mem hx).1, told_get] at h1
    have := rawC_len a x.1; have := rawC_len b x.1; have := ha.2; have := hb.2
    show (R.setR op x.2 (AL.getZ (toldM b) x.1 [])).length ≤ _
    rw [(told_mem hx).1, told_get]
    omega
  · obtain ⟨x, hx, rfl⟩ := List.mem_map.1 he
    obtain ⟨h1, h2, h3⟩ := told_mem hx
    refine ⟨?_, ?_⟩
    · show x.1 ∈ _
      obtain ⟨⟨p, hp, hd⟩, _⟩ := mem_devs.1 h3
      exact mem_devs.2 ⟨⟨p, List.mem_append_left _ hp, hd⟩, h2⟩
    · show R.nrm (R.setR op x.2 (AL.getZ (toldM b) x.1 [])) = _
      rw [nrm_setR h0, told_get, h1]
  · have hra : rawC a k ≠ [] := fun e => hne (by
      rw [e]
      exact R.nf_ext (R.setR_props op h0 _ _).1 trivial fun n => by rw [(R.setR_props op h0 _ _).2.1]; show op (R.hasR [] n) _ = _; exact hr _)
    refine ⟨R.setR op (rawC a k) (AL.getZ (toldM b) k []), List.mem_map.2 ⟨(k, rawC a k), told_at hra, rfl⟩, ?_⟩
    rw [nrm_setR h0, told_get]
theorem partEq (x y : TPart) : (decide (x.dev = y.dev) && decide (x.runs = y.runs)) = decide (x = y) := by
  rw [Bool.eq_iff_iff]
  cases x; cases y
  simp
theorem eqP_eq (a b : List TPart) (ha : a.length ≤ 1000000000000) (hr : ∀ p ∈ a, p.runs.length ≤ 1000000000000) : slices_EqualFunc_Ctx_Ctx_Part_Part_ctx_eq_c1 a b = pure (decide (a = b)) := by
  unfold slices_EqualFunc_Ctx_Ctx_Part_Part_ctx_eq_c1
  by_cases hl : (a.length : Int) = b.length
  · simp only [hl, decide_true, Bool.not_true, cond_false]
    have := loopAll (body := slices_EqualFunc_Ctx_Ctx_Part_Part_ctx_eq_c1_l0 a b) a (fun i => (i : Int)) (fun i x => decide (b[i]? = some x)) (.brk ()) (.ret false) (fun i x hx hi => by
      have hb : i < b.length := by omega
      have hby := List.getElem?_eq_getElem hb
      unfold slices_EqualFunc_Ctx_Ctx_Part_Part_ctx_eq_c1_l0 ctx_eq_c1
      have h1 : decide ((i : Int) < (a.length : Int)) = true := by simpa using hi
      simp only [h1, cond_true, idx_nat hx, idx_nat hby, pure_bind, R.seq_eq x.runs _ (hr x (List.mem_of_getElem? hx)), det_pure, cond_pure_and, partEq, wSucc (show i < 9223372036854775807 by omega)]
      rw [hby]
      by_cases hxy : x = b[i] <;> simp [hxy, eq_comm, pure_bind]) (by unfold slices_EqualFunc_Ctx_Ctx_Part_Part_ctx_eq_c1_l0; simp)
    rw [show (0 : Int) = ((0 : Nat) : Int) from rfl, this]
    have hiff : (a.zipIdx.all fun y => decide (b[y.2]? = some y.1)) = decide (a = b) := by
      rw [Bool.eq_iff_iff, List.all_eq_true, decide_eq_true_eq]
      constructor
      · intro h
        apply List.ext_getElem?
        intro i
        by_cases hi : i < a.length
        · have := h (a[i], i) (by rw [List.mem_zipIdx_iff_getElem?]; exact List.getElem?_eq_getElem hi)
          simp only [decide_eq_true_eq] at this
          rw [this, List.getElem?_eq_getElem hi]
        · rw [List.getElem?_eq_none (by omega), List.getElem?_eq_none (by omega)]
      · rintro rfl y hy
        rw [List.mem_zipIdx_iff_getElem?] at hy
        simpa using hy
    rw [hiff]
    by_cases h : a = b <;> simp [h, exk, pure_bind]
  · have : ¬ a = b := fun e => hl (by rw [e])
    simp [hl, this]
theorem eq_eq (a b : List TPart) (ha : a.length ≤ 1000000000000) (hr : ∀ p ∈ a, p.runs.length ≤ 1000000000000) : ctx_eq a b = pure (decide (a = b)) := by
  unfold ctx_eq
  rw [eqP_eq a b ha hr, det_pure, pure_bind]
theorem run_le {c : List TPart} : ∀ p ∈ c, p.runs.length ≤ totC c := by
  induction c with
  | nil => intro p hp; simp at hp
  | cons q r ih =>
    intro p hp
    have e : totC (q :: r) = q.runs.length + totC r := by simp [totC]
    rcases List.mem_cons.1 hp with rfl | hp
    · omega
    · have := ih p hp; omega
theorem Good_eq (c : List TPart) (h : Sm c) : ctx_Good c = pure (decide (c = normC c)) := by
  unfold ctx_Good
  rw [Norm_eq c h, det_pure, pure_bind, eq_eq _ _ (by have := h.1; omega) (fun p hp => by have := run_le p hp; have := h.2; omega), det_pure, pure_bind]


theorem rEq_eq (a b : List TPart) (ha : a.length ≤ 1000000000000) (hr : ∀ p ∈ a, p.runs.length ≤ 1000000000000) : r09_Eq a b = pure (decide (a = b)) := by
  unfold r09_Eq
  by_cases hl : (a.length : Int) = b.length
  · simp only [hl, decide_true, Bool.not_true, cond_false]
    have := loopAll (body := r09_Eq_l0 a b) a (fun i => (i : Int)) (fun i x => decide (b[i]? = some x)) (.brk ()) (.ret false) (fun i x hx hi => by
      have hb : i < b.length := by omega
      have hby := List.getElem?_eq_getElem hb
      unfold r09_Eq_l0
      have h1 : decide ((i : Int) < (a.length : Int)) = true := by simpa using hi
      simp only [h1, cond_true, idx_nat hx, idx_nat hby, pure_bind, R.req_eq x.runs _ (hr x (List.mem_of_getElem? hx)), det_pure, wSucc (show i < 9223372036854775807 by omega)]
      rw [hby]
      have he := partEq x b[i]
      by_cases hd : x.dev = (b[i]).dev
      · by_cases hq : x.runs = (b[i]).runs
        · simp only [hd, hq, decide_true, Bool.and_self, eq_comm (a := true), decide_eq_true_eq] at he
          simp [hd, hq, he, pure_bind]
        · have hne : ¬ x = b[i] := fun e => hq (by rw [e])
          have hne2 : ¬ b[i] = x := fun e => hne e.symm
          simp [hd, hq, hne2, pure_bind]
      · have hne2 : ¬ b[i] = x := fun e => hd (by rw [e])
        simp [hd, hne2, pure_bind]) (by unfold r09_Eq_l0; simp)
    rw [show (0 : Int) = ((0 : Nat) : Int) from rfl, this]
    have hiff : (a.zipIdx.all fun y => decide (b[y.2]? = some y.1)) = decide (a = b) := by
      rw [Bool.eq_iff_iff, List.all_eq_true, decide_eq_true_eq]
      constructor
      · intro h
        apply List.ext_getElem?
        intro i
        by_cases hi : i < a.length
        · have := h (a[i], i) (by rw [List.mem_zipIdx_iff_getElem?]; exact List.getElem?_eq_getElem hi)
          simp only [decide_eq_true_eq] at this
          rw [this, List.getElem?_eq_getElem hi]
        · rw [List.getElem?_eq_none (by omega), List.getElem?_eq_none (by omega)]
      · rintro rfl y hy
        rw [List.mem_zipIdx_iff_getElem?] at hy
        simpa using hy
    rw [hiff]
    by_cases h : a = b <;> simp [h, exk, pure_bind]
  · have : ¬ a = b := fun e => hl (by rw [e])
    simp [hl, this]
theorem rEq_sm (a b : List TPart) (h : Sm a) : r09_Eq a b = pure (decide (a = b)) := rEq_eq a b (by have := h.1; omega) fun p hp => by have := run_le p hp; have := h.2; omega
theorem join_nrm (u v : List TRun) : R.setR (· || ·) (R.nrm u) v = R.nrm (u ++ v) := R.nf_ext (R.setR_props _ rfl _ _).1 (R.nrm_nf _) fun n => by rw [(R.setR_props _ rfl _ _).2.1, R.nrm_has, R.nrm_has, R.hasR_app]
theorem rRuns_eq (c : List TPart) (k : Int) (hk : 0 ≤ k) (h : c.length ≤ 1000000000) (ht : totC c ≤ 1000000000) : r09_Runs c k = pure (R.nrm (rawC c k)) := by
  unfold r09_Runs
  have hpre : ∀ i, (rawC (c.take i) k).length ≤ 1000000000 := fun i => by
    have h1 := rawC_len (c.take i) k
    have h2 : totC (c.take i) ≤ totC c := by
      conv => rhs; rw [← List.take_append_drop i c]
      rw [totC_app]; omega
    omega
  have := loopL (body := r09_Runs_l0 c k) c (fun i (t : List TRun) => (t, (i : Int))) (fun t p => if p.dev = k ∧ 0 < k then R.setR (· || ·) t p.runs else t) (fun t => pure t) (fun i t => t = R.nrm (rawC (c.take i) k)) (fun i x t hx hi ht2 => by
    have h1 : decide ((i : Int) < (c.length : Int)) = true := by simpa using hi
    have hxl : x.runs.length ≤ 1000000000 := by have := run_le x (List.mem_of_getElem? hx); omega
    have htl : t.length ≤ 2000000000 := by have := R.nrm_len (rawC (c.take i) k); have := hpre i; rw [ht2]; omega
    unfold r09_Runs_l0
    simp only [h1, cond_true, idx_nat hx, pure_bind, wSucc (show i < 9223372036854775807 by omega), cond_dec]
    have hnext : (if x.dev = k ∧ 0 < k then R.setR (· || ·) t x.runs else t) = R.nrm (rawC (c.take (i + 1)) k) := by
      rw [List.take_add_one, hx, rawC_app, Option.toList, rawC_cons, rawC_nil, List.append_nil, ht2]
      split
      · exact join_nrm _ _
      · rw [List.append_nil]
    refine ⟨?_, hnext⟩
    by_cases hd : x.dev = k
    · by_cases h0 : k = 0
      · have : ¬ (x.dev = k ∧ 0 < k) := by omega
        rw [if_neg this, if_pos hd]
        simp [h0, pure_bind]
      · rw [if_pos (show x.dev = k ∧ 0 < k from ⟨hd, by omega⟩), if_pos hd]
        simp only [h0, decide_false, Bool.not_false, pure_bind, cond_true]
        rw [R.rjoin_eq _ _ (by omega), det_pure, pure_bind, pure_bind]
    · rw [if_neg (fun (q : x.dev = k ∧ 0 < k) => hd q.1), if_neg hd]
      rfl) (fun t _ => by unfold r09_Runs_l0; simp [pure_bind]) [] (by rw [List.take_zero, rawC_nil, nrm_nil])
  rw [show (([] : List TRun), (0 : Int)) = ([], ((0 : Nat) : Int)) from rfl, this]
  have key : ∀ (l : List TPart) (u : List TRun), l.foldl (fun t p => if p.dev = k ∧ 0 < k then R.setR (· || ·) t p.runs else t) (R.nrm u) = R.nrm (u ++ rawC l k) := by
    intro l
    induction l with
    | nil => intro u; simp [rawC]
    | cons p r ih =>
      intro u
      rw [List.foldl_cons, rawC_cons]
      by_cases hp : p.dev = k ∧ 0 < k
      · rw [if_pos hp, if_pos hp, join_nrm, ih, List.append_assoc]
      · rw [if_neg hp, if_neg hp, ih, List.nil_append]
  have h2 := key c []
  rw [nrm_nil, List.nil_append] at h2
  rw [h2]; rfl
/-- All devices, each once. -/
def allD (c : List TPart) : List Int := c.foldl (fun l p => V.insI l p.dev) []
theorem allD_gen (c : List TPart) : ∀ l : List Int, l.Pairwise (· < ·) → (c.foldl (fun l p => V.insI l p.dev) l).Pairwise (· < ·) ∧ (∀ k, k ∈ c.foldl (fun l p => V.insI l p.dev) l ↔ k ∈ l ∨ ∃ p ∈ c, p.dev = k) ∧ (c.foldl (fun l p => V.insI l p.dev) l).length ≤ l.length + c.length := by
  induction c with
  | nil => intro l h; simp [h]
  | cons p r ih =>
    intro l h
    rw [List.foldl_cons]
    obtain ⟨h1, h2, h3⟩ := ih _ (V.insI_sorted h p.dev)
    refine ⟨h1, fun k => ?_, by have := V.len_insI l p.dev; simp; omega⟩
    rw [h2, V.mem_insI]
    constructor
    · rintro ((rfl | h4) | ⟨x, h4, h5⟩)
      · exact .inr ⟨p, by simp, rfl⟩
      · exact .inl h4
      · exact .inr ⟨x, by simp [h4], h5⟩
    · rintro (h4 | ⟨x, h4, h5⟩)
      · exact .inl (.inr h4)
      · rcases List.mem_cons.1 h4 with rfl | h4
        · exact .inl (.inl h5.symm)
        · exact .inr ⟨x, h4, h5⟩
theorem allD_sorted (c : List TPart) : (allD c).Pairwise (· < ·) := (allD_gen c [] List.Pairwise.nil).1
theorem mem_allD {c : List TPart} {k : Int} : k ∈ allD c ↔ ∃ p ∈ c, p.dev = k := by
  have := (allD_gen c [] List.Pairwise.nil).2.1 k
  unfold allD
  rw [this]; simp
theorem len_allD (c : List TPart) : (allD c).length ≤ c.length := by simpa [allD] using (allD_gen c [] List.Pairwise.nil).2.2
theorem ones_len (l : List Int) : (V.ones l).length = l.length := by simp [V.ones]
theorem rdevs_eq (a b : List TPart) (h : a.length + b.length ≤ 10000000000) : r09_devs a b = pure (V.ones (allD (a ++ b))) := by
  unfold r09_devs
  have h1 := loopL (body := r09_devs_l0 a) a (fun i (l : List Int) => (V.ones l, (i : Int))) (fun l p => V.insI l p.dev) (fun l => pure (V.ones l)) (fun i l => l.Pairwise (· < ·) ∧ l.length ≤ i) (fun i x l hx hi ⟨hs, hl⟩ => by
    have h1 : decide ((i : Int) < (a.length : Int)) = true := by simpa using hi
    unfold r09_devs_l0
    simp only [h1, cond_true, idx_nat hx, pure_bind, wSucc (show i < 9223372036854775807 by omega)]
    rw [V.r07_Put_eq _ _ (by rw [ones_len]; omega), det_pure, pure_bind, V.put_ones hs]
    exact ⟨rfl, V.insI_sorted hs _, by have := V.len_insI l x.dev; omega⟩) (fun l _ => by unfold r09_devs_l0; simp [pure_bind]) [] ⟨List.Pairwise.nil, by simp⟩
  have h2 := loopL (body := r09_devs_l1 b) b (fun i (l : List Int) => (V.ones l, (i : Int))) (fun l p => V.insI l p.dev) (fun l => pure (V.ones l)) (fun i l => l.Pairwise (· < ·) ∧ l.length ≤ a.length + i) (fun i x l hx hi ⟨hs, hl⟩ => by
    have h1 : decide ((i : Int) < (b.length : Int)) = true := by simpa using hi
    unfold r09_devs_l1
    simp only [h1, cond_true, idx_nat hx, pure_bind, wSucc (show i < 9223372036854775807 by omega)]
    rw [V.r07_Put_eq _ _ (by rw [ones_len]; omega), det_pure, pure_bind, V.put_ones hs]
    exact ⟨rfl, V.insI_sorted hs _, by have := V.len_insI l x.dev; omega⟩) (fun l _ => by unfold r09_devs_l1; simp [pure_bind]) (allD a) ⟨allD_sorted a, by have := len_allD a; omega⟩
  rw [show (([] : List TDot), (0 : Int)) = (V.ones [], ((0 : Nat) : Int)) from rfl, h1, pure_bind]
  show (loop (r09_devs_l1 b) (V.ones (allD a), ((0 : Nat) : Int))).bind _ = _
  rw [h2, pure_bind]
  unfold allD
  rw [List.foldl_append]
theorem rset_eq (op : Bool → Bool → Bool) (how : Int) (hop : ∀ x y, op x y = if how = 2 then (x && !y) else if how = 1 then (x && y) else (x || y)) (h0 : op false false = false) (a b : List TPart) (oa : ∀ p ∈ a, 0 ≤ p.dev) (ob : ∀ p ∈ b, 0 ≤ p.dev) (ha : a.length ≤ 1000000000) (hb : b.length ≤ 1000000000) (ta : totC a ≤ 1000000000) (tb : totC b ≤ 1000000000) : r09_set a b how = pure (opC op a b) := by
  unfold r09_set
  rw [rdevs_eq a b (by omega), det_pure, pure_bind]
  have hlenA : ∀ k, (R.nrm (rawC a k)).length ≤ 2000000000 := fun k => by have := R.nrm_len (rawC a k); have := rawC_len a k; omega
  have hlenB : ∀ k, (R.nrm (rawC b k)).length ≤ 2000000000 := fun k => by have := R.nrm_len (rawC b k); have := rawC_len b k; omega
  have hop' : ∀ k, R.setR op (R.nrm (rawC a k)) (R.nrm (rawC b k)) = R.setR op (rawC a k) (rawC b k) := fun k => R.nf_ext (R.setR_props op h0 _ _).1 (R.setR_props op h0 _ _).1 fun n => by rw [(R.setR_props op h0 _ _).2.1, (R.setR_props op h0 _ _).2.1, R.nrm_has, R.nrm_has]
  have hkey : ∀ k ∈ allD (a ++ b), 0 ≤ k := fun k hk => by
    obtain ⟨p, hp, rfl⟩ := mem_allD.1 hk
    rcases List.mem_append.1 hp with hp | hp
    · exact oa p hp
    · exact ob p hp
  have hnd : (allD (a ++ b)).length ≤ 2000000000 := by have := len_allD (a ++ b); rw [List.length_append] at this; omega
  have hgo := loopL (body := r09_set_l0 (V.ones (allD (a ++ b))) a b how) (allD (a ++ b)) (fun i (t : List TPart) => ((i : Int), t)) (fun t k => if R.setR op (rawC a k) (rawC b k) = [] then t else t ++ [⟨k, R.setR op (rawC a k) (rawC b k)⟩]) (fun t => pure t) (fun i t => t.length ≤ i) (fun i k t hk hi hl => by
    have h1 : decide ((i : Int) < ((V.ones (allD (a ++ b))).length : Int)) = true := by rw [ones_len]; simpa using hi
    have hx : (V.ones (allD (a ++ b)))[i]? = some ⟨k, 1⟩ := by simp [V.ones, hk]
    have hk0 : 0 ≤ k := hkey k (List.mem_of_getElem? hk)
    unfold r09_set_l0
    simp only [h1, cond_true, idx_nat hx, pure_bind, rRuns_eq a k hk0 ha ta, rRuns_eq b k hk0 hb tb, det_pure, wSucc (show i < 9223372036854775807 by omega)]
    have hl1 := hlenA k
    have hl2 := hlenB k
    rw [R.rjoin_eq _ _ (by omega), det_pure, pure_bind, R.rmeet_eq _ _ (by omega), det_pure, pure_bind, R.rminus_eq _ _ (by omega), det_pure, pure_bind]
    have hz : (cond (decide (how = 1)) (pure (R.setR (· && ·) (R.nrm (rawC a k)) (R.nrm (rawC b k)))) (pure (R.setR (· || ·) (R.nrm (rawC a k)) (R.nrm (rawC b k)))) : M (List TRun)).bind (fun z => cond (decide (how = 2)) (pure (R.setR (fun x y => x && !y) (R.nrm (rawC a k)) (R.nrm (rawC b k)))) (pure z)) = pure (R.setR op (rawC a k) (rawC b k)) := by
      rw [← hop' k]
      by_cases h2 : how = 2
      · subst h2
        have : op = fun x y => x && !y := by funext x y; rw [hop]; simp
        rw [this]; rfl
      · by_cases h1 : how = 1
        · subst h1
          have : op = fun x y => x && y := by funext x y; rw [hop]; simp
          rw [this]; rfl
        · have : op = fun x y => x || y := by funext x y; rw [hop]; simp [h1, h2]
          rw [this]; simp [h1, h2, pure_bind]
    rw [← bind_assoc, hz, pure_bind]
    have hsl := (R.setR_props op h0 (rawC a k) (rawC b k)).2.2
    by_cases hz0 : R.setR op (rawC a k) (rawC b k) = []
    · rw [if_pos hz0]
      simp only [hz0, List.length_nil]
      exact ⟨rfl, by omega⟩
    · rw [if_neg hz0]
      have : decide (0 < ((R.setR op (rawC a k) (rawC b k)).length : Int)) = true := by
        have := List.length_pos_iff.2 hz0
        simp; omega
      rw [this, cond_true, need_true (by simp; omega)]
      exact ⟨rfl, by simp; omega⟩) (fun t _ => by unfold r09_set_l0; rw [ones_len]; simp [pure_bind]) [] (by simp)
  rw [show ((0 : Int), ([] : List TPart)) = (((0 : Nat) : Int), []) from rfl, hgo, pure_bind]
  have key : ∀ (ks : List Int) (t : List TPart), ks.foldl (fun t k => if R.setR op (rawC a k) (rawC b k) = [] then t else t ++ [⟨k, R.setR op (rawC a k) (rawC b k)⟩]) t = t ++ partsOf (fun k => R.setR op (rawC a k) (rawC b k)) ks := by
    intro ks
    induction ks with
    | nil => intro t; simp [partsOf]
    | cons k ks ih =>
      intro t
      rw [List.foldl_cons, ih]
      by_cases h : R.setR op (rawC a k) (rawC b k) = []
      · rw [if_pos h]; simp [partsOf, h]
      · rw [if_neg h]; simp [partsOf, h]
  rw [key, List.nil_append]
  refine congrArg pure (partsOf_ext (allD_sorted _) (devs_sorted _) (fun _ => rfl) fun k hk => ?_)
  have hr : rawC (a ++ b) k ≠ [] := fun e => hk (by
    rw [rawC_app] at e
    have := List.append_eq_nil_iff.1 e
    rw [this.1, this.2]; exact setR_nil h0)
  exact ⟨fun _ => raw_devs hr, fun _ => mem_allD.2 (mem_devs.1 (raw_devs hr)).1⟩
/-- Small, and of devices. -/
structure Ok (c : List TPart) : Prop where
  dev : ∀ p ∈ c, 0 ≤ p.dev
  len : c.length ≤ 1000000000
  tot : totC c ≤ 1000000000
theorem Ok.sm {c : List TPart} (h : Ok c) : Sm c := ⟨by have := h.len; omega, by have := h.tot; omega⟩
section
variable (a b : List TPart) (ha : Ok a) (hb : Ok b)
include ha hb
end
theorem ok_nil : Ok [] := ⟨fun p h => by simp at h, by simp, by simp [totC]⟩
theorem opC_nil (c : List TPart) : opC (· || ·) c [] = normC c := by rw [← norm_or, List.append_nil]
theorem rNorm_eq (c : List TPart) (h : Ok c) : r09_Norm c = pure (normC c) := by
  unfold r09_Norm
  rw [rset_eq (· || ·) 0 (fun x y => by simp) rfl c [] h.dev ok_nil.dev h.len ok_nil.len h.tot ok_nil.tot, det_pure, pure_bind, opC_nil]
theorem sm_norm {c : List TPart} (h : Ok c) : Sm (normC c) := ⟨by have := len_normC c; have := h.len; omega, by have := tot_normC c; have := h.tot; omega⟩
theorem rGood_eq (c : List TPart) (h : Ok c) : r09_Good c = pure (decide (c = normC c)) := by
  unfold r09_Good
  rw [rNorm_eq c h, det_pure, pure_bind, rEq_sm _ _ h.sm, det_pure, pure_bind]
theorem has_pos {c : List TPart} {k n : Int} (h : hasC c k n = true) : 0 < k ∧ 1 ≤ n ∧ n ≤ 281474976710655 := by
  refine ⟨Classical.byContradiction fun h0 => ?_, R.hasR_range h⟩
  unfold hasC at h
  rw [rawC_bad h0] at h
  cases h
theorem rFew_eq (c : List TPart) : r09_Few c = pure (decide (c.length ≤ 30) && c.all fun p => decide (p.runs.length ≤ 30)) := by
  unfold r09_Few
  by_cases h0 : 30 < c.length
  · have : decide ((30 : Int) < (c.length : Int)) = true := by simp; omega
    rw [this, cond_true]
    have : decide (c.length ≤ 30) = false := by simp; omega
    rw [this]; rfl
  · have h1 : decide ((30 : Int) < (c.length : Int)) = false := by simp; omega
    rw [h1, cond_false]
    have := loopAll (body := r09_Few_l0 c) c (fun i => (i : Int)) (fun i x => decide (x.runs.length ≤ 30)) (.brk ()) (.ret false) (fun i x hx hi => by
      have h2 : decide ((i : Int) < (c.length : Int)) = true := by simpa using hi
      unfold r09_Few_l0
      simp only [h2, cond_true, idx_nat hx, pure_bind, cond_dec, wSucc (show i < 9223372036854775807 by omega), decide_eq_true_eq]
      by_cases h3 : x.runs.length ≤ 30
      · rw [if_neg (by omega), if_pos h3]
      · rw [if_pos (by omega), if_neg h3]) (by unfold r09_Few_l0; simp)
    rw [show (0 : Int) = ((0 : Nat) : Int) from rfl, this]
    have hiff : (c.zipIdx.all fun y => decide (y.1.runs.length ≤ 30)) = c.all fun p => decide (p.runs.length ≤ 30) := by
      rw [Bool.eq_iff_iff, List.all_eq_true, List.all_eq_true]
      constructor
      · intro h p hp
        obtain ⟨i, hi⟩ := List.mem_iff_getElem?.1 hp
        exact h (p, i) (List.mem_zipIdx_iff_getElem?.2 hi)
      · intro h y hy
        exact h _ (List.mem_of_getElem? (List.mem_zipIdx_iff_getElem?.1 hy))
    rw [hiff]
    have h4 : decide (c.length ≤ 30) = true := by simp; omega
    rw [h4, Bool.true_and]
    cases c.all fun p => decide (p.runs.length ≤ 30) <;> rfl
theorem few_tot {c : List TPart} (h : (decide (c.length ≤ 30) && c.all fun p => decide (p.runs.length ≤ 30)) = true) : c.length ≤ 30 ∧ totC c ≤ 900 := by
  rw [Bool.and_eq_true, decide_eq_true_eq, List.all_eq_true] at h
  refine ⟨h.1, ?_⟩
  have : ∀ l : List TPart, (∀ p ∈ l, decide (p.runs.length ≤ 30) = true) → totC l ≤ l.length * 30 := by
    intro l
    induction l with
    | nil => intro _; simp [totC]
    | cons p r ih =>
      intro hl
      have e : totC (p :: r) = p.runs.length + totC r := by simp [totC]
      have h1 := ih fun q hq => hl q (by simp [hq])
      have h2 := hl p (by simp)
      simp only [decide_eq_true_eq] at h2
      simp only [List.length_cons]
      omega
  have := this c h.2
  omega


theorem dotsC_snoc (l : List TDot) (d : TDot) : dotsC (l ++ [d]) = dotsC l ++ if V.goodD d = true then [⟨d.dev, [⟨d.n, d.n⟩]⟩] else [] := by
  unfold dotsC
  rw [List.filter_append, List.map_append]
  congr 1
  by_cases h : V.goodD d = true <;> simp [h]
theorem or_norm (a b : List TPart) : opC (· || ·) (normC a) b = normC (a ++ b) := (canon_op rfl _ _).ext (canon_norm _) fun k n => by rw [has_opC rfl, has_normC, has_normC, hasC_app]
theorem ok_dots {l : List TDot} (h : l.length ≤ 400000000) : Ok (normC (dotsC l)) := ⟨fun p hp => by have := ((canon_norm (dotsC l)).nf p hp).1; omega, by have := len_normC (dotsC l); have := dots_len l; omega, by have := tot_normC (dotsC l); have := dots_tot l; omega⟩
def onlyC (c : List TPart) (k : Int) : List TPart := normC [⟨k, R.nrm (rawC c k)⟩]
theorem only_form (c : List TPart) (k : Int) : onlyC c k = if R.nrm (rawC c k) = [] then [] else [⟨k, R.nrm (rawC c k)⟩] := by
  unfold onlyC
  by_cases h : R.nrm (rawC c k) = []
  · rw [if_pos h, h]
    refine canon_none (canon_norm _) fun q n => ?_
    rw [has_normC]
    unfold hasC
    rw [rawC_cons, rawC_nil]
    split <;> rfl
  · rw [if_neg h]
    have h0 : 0 < k := Classical.byContradiction fun h0 => h (by rw [rawC_bad h0]; exact nrm_nil)
    exact norm_canon ⟨List.pairwise_singleton _ _, fun p hp => by rw [List.mem_singleton] at hp; subst hp; exact ⟨h0, h, R.nrm_nf _⟩⟩
def sizeC (c : List TPart) : Int := V.sumI ((normC c).map fun p => R.sizeR p.runs)
theorem sum_wrap (l : List Int) : ∀ t : Int, l.foldl (fun n x => IntKind.u64.wrap (n + IntKind.u64.wrap x)) (IntKind.u64.wrap t) = IntKind.u64.wrap (t + V.sumI l) := by
  induction l with
  | nil => intro t; simp [V.sumI]
  | cons x r ih =>
    intro t
    rw [List.foldl_cons, V.sumI_cons]
    have : IntKind.u64.wrap (IntKind.u64.wrap t + IntKind.u64.wrap x) = IntKind.u64.wrap (t + x) := by
      simp only [wU64_mod]; omega
    rw [this, ih, Int.add_assoc]
theorem nf_runs {c : List TPart} {i : Nat} {p : TPart} (h : (normC c)[i]? = some p) : R.nrm p.runs = p.runs ∧ p.runs.length ≤ 2 * totC c ∧ 0 < p.dev ∧ p.runs ≠ [] ∧ R.Nf p.runs := by
  obtain ⟨h1, h2, h3⟩ := (canon_norm c).nf p (List.mem_of_getElem? h)
  exact ⟨R.nrm_self h3, by have := run_le p (List.mem_of_getElem? h); have := tot_normC c; omega, h1, h2, h3⟩
theorem normV_ord {l : List TDot} (h : V.Ord l) : V.normV l = l.filter V.goodD := by
  refine V.ord_ext (V.ord_vecOf (V.devs_sorted l)) (h.filter _) fun d => ?_
  unfold V.normV
  rw [V.mem_vecOf, V.mem_devs, List.mem_filter]
  constructor
  · rintro ⟨h1, h2, h3⟩
    obtain ⟨x, hx, hd, hg⟩ := V.ofV_pos.1 h1
    have := V.ofV_mem h hx hg
    rw [hd] at this
    have e : x = d := by cases x; cases d; simp_all
    rw [← e]; exact ⟨hx, hg⟩
  · rintro ⟨h1, h2⟩
    have := V.ofV_mem h h1 h2
    have h3 := V.goodD_iff.1 h2
    exact ⟨by omega, by omega, this.symm⟩
def baseL (c : List TPart) : List TDot := (normC c).map fun p => ⟨p.dev, R.firstR p.runs - 1⟩
def baseC (c : List TPart) : List TDot := (baseL c).filter V.goodD
theorem baseL_ord (c : List TPart) : V.Ord (baseL c) := by
  unfold baseL V.Ord
  rw [List.pairwise_map]
  exact (canon_norm c).ord
def plainC (v : List TDot) : List TPart := (V.normV v).map fun d => ⟨d.dev, [⟨1, d.n⟩]⟩
theorem len_normV (v : List TDot) : (V.normV v).length ≤ v.length := Nat.le_trans (List.length_filterMap_le _ _) (V.len_devs v)
theorem map_fold (q : List TDot) : ∀ t : List TPart, q.foldl (fun t d => t ++ [(⟨d.dev, [⟨1, d.n⟩]⟩ : TPart)]) t = t ++ q.map fun d => ⟨d.dev, [⟨1, d.n⟩]⟩ := by
  induction q with
  | nil => intro t; simp
  | cons p r ih => intro t; rw [List.foldl_cons, ih]; simp

theorem ok_few {c : List TPart} (o : ∀ p ∈ c, 0 ≤ p.dev) (h : c.length ≤ 30 ∧ totC c ≤ 900) : Ok c := ⟨o, by omega, by omega⟩
theorem sm_op {op : Bool → Bool → Bool} (h0 : op false false = false) {a b : List TPart} (ha : Ok a) (hb : Ok b) : Sm (opC op a b) := ⟨by have := len_opC op a b; have := ha.len; have := hb.len; omega, by have := tot_opC h0 a b; have := ha.tot; have := hb.tot; omega⟩
theorem sm_two {a b : List TPart} (ha : Ok a) (hb : Ok b) : Sm (a ++ b) := sm_app (by have := ha.len; have := hb.len; omega) (by have := ha.tot; have := hb.tot; omega)

theorem ok_mono {a b : List TPart} {op : Bool → Bool → Bool} (h0 : op false false = false) (ha : a.length ≤ 100000000 ∧ totC a ≤ 100000000) (hb : b.length ≤ 100000000 ∧ totC b ≤ 100000000) : Ok (opC op a b) := ⟨fun p hp => by have := ((canon_op h0 a b).nf p hp).1; omega, by have := len_opC op a b; omega, by have := tot_opC h0 a b; omega⟩
theorem within_nil {a b : List TPart} (h : ∀ k n, hasC a k n = true → hasC b k n = true) : opC (fun x y => x && !y) a b = [] := canon_none (canon_op rfl _ _) fun k n => by
  rw [has_opC rfl]
  cases ha : hasC a k n with
  | false => rfl
  | true => rw [h k n ha]; rfl
theorem sizeC_over (c : List TPart) (ks : List Int) (hs : ks.Pairwise (· < ·)) (h : ∀ k, rawC c k ≠ [] → k ∈ ks) : sizeC c = V.sumI (ks.map fun k => R.sizeR (R.nrm (rawC c k))) := by
  have h1 : sizeC c = V.sumI ((devsC c).map fun k => R.sizeR (R.nrm (rawC c k))) := by
    unfold sizeC normC
    generalize devsC c = ls
    induction ls with
    | nil => rfl
    | cons k ls ih =>
      have : partsOf (fun k => R.nrm (rawC c k)) (k :: ls) = (if R.nrm (rawC c k) = [] then [] else [⟨k, R.nrm (rawC c k)⟩]) ++ partsOf (fun k => R.nrm (rawC c k)) ls := by
        unfold partsOf
        by_cases h : R.nrm (rawC c k) = [] <;> simp [h]
      rw [this, List.map_append, V.sumI_app, ih, List.map_cons, V.sumI_cons]
      by_cases h : R.nrm (rawC c k) = []
      · rw [if_pos h, h]; simp [V.sumI, R.sizeR]
      · rw [if_neg h]; simp [V.sumI]
  rw [h1]
  refine V.sumI_sub _ (devs_sorted c) hs (fun k _ hk => raw_devs fun e => hk ?_) (fun k hk hn => ?_)
  · rw [e, nrm_nil]; rfl
  · have : rawC c k = [] := Classical.byContradiction fun h2 => hn (h k h2)
    rw [this, nrm_nil]; rfl
theorem raw_none {c : List TPart} {k : Int} (hc : Canon c) (h : ∀ n, hasC c k n = false) : R.nrm (rawC c k) = [] := R.nf_ext (R.nrm_nf _) trivial fun n => by rw [R.nrm_has]; exact h n
theorem sumI_add (ks : List Int) (f g : Int → Int) : V.sumI (ks.map fun k => f k + g k) = V.sumI (ks.map f) + V.sumI (ks.map g) := by
  induction ks with
  | nil => rfl
  | cons k r ih => simp only [List.map_cons, V.sumI_cons, ih]; omega
theorem size_laws (a b : List TPart) : sizeC (opC (· || ·) a b) + sizeC (opC (· && ·) a b) = sizeC a + sizeC b := by
  have hs := devs_sorted (a ++ b)
  have hin : ∀ (op : Bool → Bool → Bool), op false false = false → ∀ k, rawC (opC op a b) k ≠ [] → k ∈ devsC (a ++ b) := fun op h0 k hk => by
    unfold opC at hk
    rw [raw_partsOf (devs_nodup _)] at hk
    split at hk
    · rename_i h; exact h.1
    · exact absurd rfl hk
  have ha : ∀ k, rawC a k ≠ [] → k ∈ devsC (a ++ b) := fun k hk => raw_devs (by rw [rawC_app]; intro e; exact hk (List.append_eq_nil_iff.1 e).1)
  have hb : ∀ k, rawC b k ≠ [] → k ∈ devsC (a ++ b) := fun k hk => raw_devs (by rw [rawC_app]; intro e; exact hk (List.append_eq_nil_iff.1 e).2)
  rw [sizeC_over _ _ hs (hin _ rfl), sizeC_over _ _ hs (hin _ rfl), sizeC_over a _ hs ha, sizeC_over b _ hs hb, ← sumI_add, ← sumI_add]
  congr 1
  refine List.map_congr_left fun k _ => ?_
  refine R.size_or _ _ _ _ (R.nrm_nf _) (R.nrm_nf _) (R.nrm_nf _) (R.nrm_nf _) (fun n => ?_) (fun n => ?_)
  · rw [R.nrm_has, R.nrm_has, R.nrm_has]; exact has_opC (op := (· || ·)) rfl a b k n
  · rw [R.nrm_has, R.nrm_has, R.nrm_has]; exact has_opC (op := (· && ·)) rfl a b k n

def yth (n from_ i : Nat) : Nat := (n - 1 - i + from_) % n
def ysD (l : List TDot) (from_ : Nat) : List TDot := (List.range l.length).map fun i => l.getD (yth l.length from_ i) ⟨0, 0⟩
theorem ysD_mem (l : List TDot) (from_ : Nat) (d : TDot) : d ∈ ysD l from_ ↔ d ∈ l := by
  unfold ysD
  simp only [List.mem_map, List.mem_range]
  constructor
  · rintro ⟨i, hi, rfl⟩
    have : yth l.length from_ i < l.length := Nat.mod_lt _ (by omega)
    simp [List.getD, this]
  · intro hn
    obtain ⟨j, hj, rfl⟩ := List.getElem_of_mem hn
    refine ⟨(l.length - 1 + from_ + l.length - j) % l.length, Nat.mod_lt _ (by omega), ?_⟩
    have e : yth l.length from_ ((l.length - 1 + from_ + l.length - j) % l.length) = j := by
      unfold yth
      clear hn
      generalize l.length = N at hj
      have h0 : 0 < N := by omega
      generalize hK : N - 1 + from_ + N - j = K
      have hm := Nat.mod_add_div K N
      have hlt := Nat.mod_lt K h0
      generalize K % N = r at hm hlt
      have h1 : N - 1 - r + from_ + N = j + N * (K / N) := by omega
      have h2 : (N - 1 - r + from_ + N) % N = j := by
        rw [h1, Nat.add_mul_mod_self_left, Nat.mod_eq_of_lt hj]
      rwa [Nat.add_mod_right] at h2
    rw [e]
    simp [List.getD, hj]
theorem add_dot (l : List TDot) (d : TDot) : opC (· || ·) (normC (dotsC l)) (dotsC [d]) = normC (dotsC (l ++ [d])) := by
  rw [or_norm]
  congr 1
  simp [dotsC, List.filter_append]
theorem base_props {c : List TPart} {d : TDot} (h : d ∈ baseC c) : 0 < d.dev ∧ 1 ≤ d.n ∧ d.n ≤ 281474976710655 ∧ hasC c d.dev (d.n + 1) = false ∧ hasC c d.dev d.n = true := by
  unfold baseC baseL at h
  rw [List.mem_filter, List.mem_map] at h
  obtain ⟨⟨p, hp, rfl⟩, hg⟩ := h
  have h1 : 1 ≤ p.dev ∧ 1 ≤ R.firstR p.runs - 1 ∧ R.firstR p.runs - 1 ≤ 281474976710655 := V.goodD_iff.1 hg
  obtain ⟨n1, n2, n3⟩ := (canon_norm c).nf p hp
  obtain ⟨q1, q2, q3, q4⟩ := R.first_props n3
  have e : ∀ n, hasC c p.dev n = R.hasR p.runs n := fun n => by
    rw [← has_normC, hasC, ordP_raw (canon_norm c).ord p hp n1]
  refine ⟨by show 0 < p.dev; omega, h1.2.1, h1.2.2, ?_, ?_⟩
  · show hasC c p.dev (R.firstR p.runs - 1 + 1) = false
    rw [e, show R.firstR p.runs - 1 + 1 = R.firstR p.runs by omega]; exact q1
  · show hasC c p.dev (R.firstR p.runs - 1) = true
    rw [e]
    rcases q2 with q2 | q2
    · omega
    · exact q2
theorem nf_one {n : Int} (h1 : 1 ≤ n) (h2 : n ≤ 281474976710655) : R.Nf [⟨1, n⟩] := ⟨R.mayR_iff.2 ⟨Int.le_refl 1, h1, h2⟩, by simp, trivial⟩
theorem plain_canon (v : List TDot) : Canon (plainC v) := by
  have ho : V.Ord (V.normV v) := V.ord_vecOf (V.devs_sorted v)
  refine ⟨by unfold plainC OrdP; rw [List.pairwise_map]; exact ho, fun p hp => ?_⟩
  unfold plainC at hp
  obtain ⟨d, hd, rfl⟩ := List.mem_map.1 hp
  obtain ⟨h1, h2, h3⟩ := V.mem_vecOf.1 hd
  have h4 := V.ofV_range v d.dev
  obtain ⟨x, _, e, hg⟩ := V.ofV_pos.1 (V.mem_devs.1 h1)
  have := V.goodD_iff.1 hg
  exact ⟨by show 0 < d.dev; omega, by simp, nf_one (by omega) (by omega)⟩
theorem first_one {n : Int} : R.firstR [⟨1, n⟩] = n + 1 := by simp [R.firstR]
theorem base_plain {v : List TDot} (ho : V.Ord v) (hg : ∀ d ∈ v, V.goodD d = true) : baseC (plainC v) = v := by
  have hn : V.normV v = v := by
    rw [normV_ord ho, List.filter_eq_self]; exact hg
  unfold baseC baseL
  rw [norm_canon (plain_canon v)]
  unfold plainC
  rw [hn, List.map_map]
  have : v.map ((fun p : TPart => (⟨p.dev, R.firstR p.runs - 1⟩ : TDot)) ∘ fun d => ⟨d.dev, [⟨1, d.n⟩]⟩) = v := by
    conv => rhs; rw [← List.map_id v]
    refine List.map_congr_left fun d _ => ?_
    show (⟨d.dev, R.firstR [⟨1, d.n⟩] - 1⟩ : TDot) = d
    rw [first_one, show d.n + 1 - 1 = d.n by omega]
  rw [this, List.filter_eq_self]
  exact hg
theorem base_all {c : List TPart} {k n m : Int} (h : (⟨k, n⟩ : TDot) ∈ baseC c) (h1 : 1 ≤ m) (h2 : m ≤ n) : hasC c k m = true := by
  unfold baseC baseL at h
  rw [List.mem_filter, List.mem_map] at h
  obtain ⟨⟨p, hp, e⟩, hg⟩ := h
  cases e
  obtain ⟨n1, n2, n3⟩ := (canon_norm c).nf p hp
  have hh : 1 ≤ p.dev ∧ 1 ≤ R.firstR p.runs - 1 ∧ R.firstR p.runs - 1 ≤ 281474976710655 := V.goodD_iff.1 hg
  rw [← has_normC, hasC, ordP_raw (canon_norm c).ord p hp n1]
  revert n3 hh h2
  cases p.runs with
  | nil => intro _ h3 h4; simp [R.firstR] at h4
  | cons x r =>
    intro h2 n3 hh
    have hx := R.mayR_iff.1 n3.1
    by_cases hlo : x.lo = 1
    · have e : R.firstR (x :: r) = x.hi + 1 := by simp [R.firstR, hlo]
      rw [e] at h2
      exact (R.nf_hi n3 (by omega)).2 (.inl (by omega))
    · have e : R.firstR (x :: r) = 1 := by simp [R.firstR, hlo]
      rw [e] at hh
      omega
end Go.Ep.M.C
